import Derived.Test.YtnomkohiiadkjaaGreatSd
namespace Go.Proofs.YtnomkohiiadkjaaGreat
open Go.RowKit
set_option linter.unusedVariables false
set_option linter.unusedSimpArgs false
set_option maxRecDepth 100000
noncomputable section
set_option maxHeartbeats 40000000
theorem eLtoTableEntry (F : Fns) (fLtoName : HLtoName (F 102)) : HLtoTableEntry (EvF F Tryz.f63 (fun _ => [])) := by
 intro a0
 unfold EvF
 obtain ⟨p, hp⟩ := gn prims
 obtain ⟨m_string, hm_string⟩ := gn (List.map eS)
 rw [← hp, ← hm_string]
 obtain ⟨_, _, _, _, _, _, _, _, _, _, _, _, _, _, _, p_len, _, _, _, _, _, _, _, _, _, _, p_full, _, _, p_own, p_opn, _⟩ := p
 have full_string := full_gen eS
 have own_string := own_gen eS (fun _ => rfl)
 simp only [HLtoName, ← hp, ← hm_string] at full_string own_string fLtoName
 rw [sLtoTableEntry]
 conv => lhs; cbv
 rw [fLtoName a0.name]
 refine cO (fun hx2 => ?_) ?_
 ·rw [hx2]; try rfl
 rintro r1 hx2
 rw [hx2]
 conv => lhs; cbv
 rw [if_pos (full_string _)]
 conv => lhs; cbv
 rw [own_string]
 conv => lhs; cbv
 try rfl
theorem eLtoTableEntryS (F : Fns) (fLtoTableEntry : HLtoTableEntry (F 63)) : HLtoTableEntryS (EvF F Tryz.f23 (fun id => if id = 3 then [0, 3, 4] else [])) := by
 intro a0
 unfold EvF
 obtain ⟨p, hp⟩ := gn prims
 obtain ⟨m_TableEntry, hm_TableEntry⟩ := gn (List.map eTableEntry)
 obtain ⟨m_string, hm_string⟩ := gn (List.map eS)
 rw [← hp, ← hm_TableEntry]
 obtain ⟨p_arith, p_cmp, _, _, _, _, _, _, _, _, _, _, _, _, _, p_len, p_int, p_nth, _, _, p_ridx, p_rnth, p_rset, _, _, _, p_full, _, _, p_own, p_opn, _, _, _, _, _, _, _, p_mkN, p_rep, _⟩ := p
 have full_TableEntry := full_gen eTableEntry
 have full_string := full_gen eS
 have lset_TableEntry := lset_gen eTableEntry
 have mkn_TableEntry := @mknF_TableEntry
 have nth_TableEntry := @nthF_TableEntry
 have own_TableEntry := own_gen eTableEntry (fun _ => rfl)
 have own_string := own_gen eS (fun _ => rfl)
 have rep_TableEntry := @repF_TableEntry
 have rnth_TableEntry := @rnthF_TableEntry
 have rset_TableEntry := @rsetF_TableEntry
 simp only [HLtoTableEntry, ← hp, ← hm_TableEntry, ← hm_string] at full_TableEntry full_string lset_TableEntry mkn_TableEntry nth_TableEntry own_TableEntry own_string rep_TableEntry rnth_TableEntry rset_TableEntry fLtoTableEntry
 generalize hal : alp = al
 rw [sLtoTableEntryS, ← hp, ← hm_TableEntry]
 dsimp only
 conv => lhs; cbv
 rw [mkn_TableEntry]
 refine cO (fun hx2 => ?_) ?_
 ·rw [hx2]; try rfl
 rintro x1 hx2
 rw [hx2]
 conv => lhs; cbv
 rw [rep_TableEntry _ _ _ hx2]
 conv => lhs; cbv
 refine (loop_al hal (fun x => match x with | (v3, v4) => ⟨[.c (.rd true 136 2 (m_TableEntry a0)), dd, dd, .c (.row (0, 0, 0) 136 2 0 (p_len (m_TableEntry v4))), .c (.at (.int .i64 v3)), dd, dd, dd, dd, dd, dd, dd, dd, dd, dd, dd, dd, dd, dd, dd, dd, dd, dd], [((0, 0, 0), ⟨true, false, 136, 2, p_opn (m_TableEntry v4)⟩)], 1⟩) (sLtoTableEntryS_l1 a0) (fun K g => match g with | (v3, v4) => K (.exit 0) ⟨[.c (.rd true 136 2 (m_TableEntry a0)), dd, dd, .c (.row (0, 0, 0) 136 2 0 (p_len (m_TableEntry v4))), .c (.at (.int .i64 v3)), dd, dd, dd, .c (.at (.int .i64 v3)), .c (.rd true 136 2 (m_TableEntry a0)), .c (.at (.int .i64 (p_int (p_len (m_TableEntry a0))))), .c (.at (.bool false)), dd, dd, dd, dd, dd, dd, dd, dd, dd, dd, dd], [((0, 0, 0), ⟨true, false, 136, 2, p_opn (m_TableEntry v4)⟩)], 2⟩) ?_ (0, x1) _ (rfl)).trans (cL ?_)
 ·rintro K1 hr1 ⟨v3, v4⟩ R1
  rw [sLtoTableEntryS_l1, ← hp, ← hm_TableEntry]
  dsimp only
  conv => lhs; cbv
  refine cD (fun hb5 => ?_) fun hb5 => ?_
  ·rw [hb5]
   conv => lhs; cbv
   try rfl
  rw [hb5]
  conv => lhs; cbv
  rw [nth_TableEntry]
  refine cO (fun hx7 => ?_) ?_
  ·rw [hx7]; try rfl
  rintro x6 hx7
  rw [hx7]
  conv => lhs; cbv
  rw [fLtoTableEntry x6]
  refine cO (fun hx9 => ?_) ?_
  ·rw [hx9]; try rfl
  rintro r8 hx9
  rw [hx9]
  conv => lhs; cbv
  refine cO (fun hx11 => ?_) ?_
  ·rw [hx11]; try rfl
  rintro x10 hx11
  rw [hx11]
  conv => lhs; cbv
  rw [rnth_TableEntry]
  refine cO (fun hx13 => ?_) ?_
  ·rw [hx13]; try rfl
  rintro x12 hx13
  rw [hx13]
  conv => lhs; cbv
  rw [if_pos (full_string _)]
  conv => lhs; cbv
  rw [own_string]
  conv => lhs; cbv
  rw [rset_TableEntry]
  try conv => lhs; rw [← lset_TableEntry v4 x10 r8]
  conv => lhs; cbv
  try rfl
 rintro ⟨w14, w15⟩
 conv => lhs; cbv
 rw [if_pos (full_TableEntry _)]
 conv => lhs; cbv
 rw [own_TableEntry]
 conv => lhs; cbv
 try rfl
theorem eLtoCacheEntry (F : Fns) (fLtoData : HLtoData (F 103)) : HLtoCacheEntry (EvF F Tryz.f146 (fun _ => [])) := by
 intro a0
 unfold EvF
 obtain ⟨p, hp⟩ := gn prims
 obtain ⟨m_byte, hm_byte⟩ := gn (List.map eY)
 obtain ⟨m_string, hm_string⟩ := gn (List.map eS)
 rw [← hp, ← hm_byte, ← hm_string]
 obtain ⟨_, _, _, _, _, _, _, _, _, _, _, _, _, _, _, p_len, _, _, _, _, _, _, _, _, _, _, p_full, _, _, p_own, p_opn, _⟩ := p
 have full_byte := full_gen eY
 have full_string := full_gen eS
 have own_byte := own_gen eY (fun _ => rfl)
 have own_string := own_gen eS (fun _ => rfl)
 simp only [HLtoData, ← hp, ← hm_byte, ← hm_string] at full_byte full_string own_byte own_string fLtoData
 rw [sLtoCacheEntry]
 conv => lhs; cbv
 rw [fLtoData a0.data]
 refine cO (fun hx2 => ?_) ?_
 ·rw [hx2]; try rfl
 rintro r1 hx2
 rw [hx2]
 conv => lhs; cbv
 rw [if_pos (full_string _)]
 conv => lhs; cbv
 rw [own_string]
 conv => lhs; cbv
 rw [if_pos (full_byte _)]
 conv => lhs; cbv
 rw [own_byte]
 conv => lhs; cbv
 rw [if_pos (full_string _)]
 conv => lhs; cbv
 rw [own_string]
 conv => lhs; cbv
 try rfl
theorem eLtoCacheEntryS (F : Fns) (fLtoCacheEntry : HLtoCacheEntry (F 146)) : HLtoCacheEntryS (EvF F Tryz.f133 (fun id => if id = 3 then [0, 3, 4] else [])) := by
 intro a0
 unfold EvF
 obtain ⟨p, hp⟩ := gn prims
 obtain ⟨m_CacheEntry, hm_CacheEntry⟩ := gn (List.map eCacheEntry)
 obtain ⟨m_byte, hm_byte⟩ := gn (List.map eY)
 obtain ⟨m_string, hm_string⟩ := gn (List.map eS)
 rw [← hp, ← hm_CacheEntry]
 obtain ⟨p_arith, p_cmp, _, _, _, _, _, _, _, _, _, _, _, _, _, p_len, p_int, p_nth, _, _, p_ridx, p_rnth, p_rset, _, _, _, p_full, _, _, p_own, p_opn, _, _, _, _, _, _, _, p_mkN, p_rep, _⟩ := p
 have full_CacheEntry := full_gen eCacheEntry
 have full_byte := full_gen eY
 have full_string := full_gen eS
 have lset_CacheEntry := lset_gen eCacheEntry
 have mkn_CacheEntry := @mknF_CacheEntry
 have nth_CacheEntry := @nthF_CacheEntry
 have own_CacheEntry := own_gen eCacheEntry (fun _ => rfl)
 have own_byte := own_gen eY (fun _ => rfl)
 have own_string := own_gen eS (fun _ => rfl)
 have rep_CacheEntry := @repF_CacheEntry
 have rnth_CacheEntry := @rnthF_CacheEntry
 have rset_CacheEntry := @rsetF_CacheEntry
 simp only [HLtoCacheEntry, ← hp, ← hm_CacheEntry, ← hm_byte, ← hm_string] at full_CacheEntry full_byte full_string lset_CacheEntry mkn_CacheEntry nth_CacheEntry own_CacheEntry own_byte own_string rep_CacheEntry rnth_CacheEntry rset_CacheEntry fLtoCacheEntry
 generalize hal : alp = al
 rw [sLtoCacheEntryS, ← hp, ← hm_CacheEntry]
 dsimp only
 conv => lhs; cbv
 rw [mkn_CacheEntry]
 refine cO (fun hx2 => ?_) ?_
 ·rw [hx2]; try rfl
 rintro x1 hx2
 rw [hx2]
 conv => lhs; cbv
 rw [rep_CacheEntry _ _ _ hx2]
 conv => lhs; cbv
 refine (loop_al hal (fun x => match x with | (v3, v4) => ⟨[.c (.rd true 221 6 (m_CacheEntry a0)), dd, dd, .c (.row (0, 0, 0) 221 6 0 (p_len (m_CacheEntry v4))), .c (.at (.int .i64 v3)), dd, dd, dd, dd, dd, dd, dd, dd, dd, dd, dd, dd, dd, dd, dd, dd, dd, dd], [((0, 0, 0), ⟨true, false, 221, 6, p_opn (m_CacheEntry v4)⟩)], 1⟩) (sLtoCacheEntryS_l1 a0) (fun K g => match g with | (v3, v4) => K (.exit 0) ⟨[.c (.rd true 221 6 (m_CacheEntry a0)), dd, dd, .c (.row (0, 0, 0) 221 6 0 (p_len (m_CacheEntry v4))), .c (.at (.int .i64 v3)), dd, dd, dd, .c (.at (.int .i64 v3)), .c (.rd true 221 6 (m_CacheEntry a0)), .c (.at (.int .i64 (p_int (p_len (m_CacheEntry a0))))), .c (.at (.bool false)), dd, dd, dd, dd, dd, dd, dd, dd, dd, dd, dd], [((0, 0, 0), ⟨true, false, 221, 6, p_opn (m_CacheEntry v4)⟩)], 2⟩) ?_ (0, x1) _ (rfl)).trans (cL ?_)
 ·rintro K1 hr1 ⟨v3, v4⟩ R1
  rw [sLtoCacheEntryS_l1, ← hp, ← hm_CacheEntry]
  dsimp only
  conv => lhs; cbv
  refine cD (fun hb5 => ?_) fun hb5 => ?_
  ·rw [hb5]
   conv => lhs; cbv
   try rfl
  rw [hb5]
  conv => lhs; cbv
  rw [nth_CacheEntry]
  refine cO (fun hx7 => ?_) ?_
  ·rw [hx7]; try rfl
  rintro x6 hx7
  rw [hx7]
  conv => lhs; cbv
  rw [fLtoCacheEntry x6]
  refine cO (fun hx9 => ?_) ?_
  ·rw [hx9]; try rfl
  rintro r8 hx9
  rw [hx9]
  conv => lhs; cbv
  refine cO (fun hx11 => ?_) ?_
  ·rw [hx11]; try rfl
  rintro x10 hx11
  rw [hx11]
  conv => lhs; cbv
  rw [rnth_CacheEntry]
  refine cO (fun hx13 => ?_) ?_
  ·rw [hx13]; try rfl
  rintro x12 hx13
  rw [hx13]
  conv => lhs; cbv
  rw [if_pos (full_string _)]
  conv => lhs; cbv
  rw [own_string]
  conv => lhs; cbv
  rw [if_pos (full_byte _)]
  conv => lhs; cbv
  rw [own_byte]
  conv => lhs; cbv
  rw [if_pos (full_string _)]
  conv => lhs; cbv
  rw [own_string]
  conv => lhs; cbv
  rw [rset_CacheEntry]
  try conv => lhs; rw [← lset_CacheEntry v4 x10 r8]
  conv => lhs; cbv
  try rfl
 rintro ⟨w14, w15⟩
 conv => lhs; cbv
 rw [if_pos (full_CacheEntry _)]
 conv => lhs; cbv
 rw [own_CacheEntry]
 conv => lhs; cbv
 try rfl
theorem eLtoContentStore (F : Fns) (fLtoCacheEntryS : HLtoCacheEntryS (F 133)) : HLtoContentStore (EvF F Tryz.f104 (fun _ => [])) := by
 intro a0
 unfold EvF
 obtain ⟨p, hp⟩ := gn prims
 obtain ⟨m_CacheEntry, hm_CacheEntry⟩ := gn (List.map eCacheEntry)
 rw [← hp, ← hm_CacheEntry]
 obtain ⟨_, _, _, _, _, _, _, _, _, _, _, _, _, _, _, p_len, _, _, _, _, _, _, _, _, _, _, p_full, _, _, p_own, p_opn, _⟩ := p
 have full_CacheEntry := full_gen eCacheEntry
 have own_CacheEntry := own_gen eCacheEntry (fun _ => rfl)
 simp only [HLtoCacheEntryS, ← hp, ← hm_CacheEntry] at full_CacheEntry own_CacheEntry fLtoCacheEntryS
 rw [sLtoContentStore]
 conv => lhs; cbv
 rw [fLtoCacheEntryS a0.entries]
 refine cO (fun hx2 => ?_) ?_
 ·rw [hx2]; try rfl
 rintro r1 hx2
 rw [hx2]
 conv => lhs; cbv
 rw [if_pos (full_CacheEntry _)]
 conv => lhs; cbv
 rw [own_CacheEntry]
 conv => lhs; cbv
 try rfl
theorem eLtoRequester (F : Fns) : HLtoRequester (EvF F Tryz.f150 (fun _ => [])) := by
 intro a0
 unfold EvF
 obtain ⟨p, hp⟩ := gn prims
 rw [← hp]
 rw [sLtoRequester]
 conv => lhs; cbv
 try rfl
theorem eLtoRequesterS (F : Fns) (fLtoRequester : HLtoRequester (F 150)) : HLtoRequesterS (EvF F Tryz.f147 (fun id => if id = 3 then [0, 3, 4] else [])) := by
 intro a0
 unfold EvF
 obtain ⟨p, hp⟩ := gn prims
 obtain ⟨m_Requester, hm_Requester⟩ := gn (List.map eRequester)
 rw [← hp, ← hm_Requester]
 obtain ⟨p_arith, p_cmp, _, _, _, _, _, _, _, _, _, _, _, _, _, p_len, p_int, p_nth, _, _, p_ridx, p_rnth, p_rset, _, _, _, p_full, _, _, p_own, p_opn, _, _, _, _, _, _, _, p_mkN, p_rep, _⟩ := p
 have full_Requester := full_gen eRequester
 have lset_Requester := lset_gen eRequester
 have mkn_Requester := @mknF_Requester
 have nth_Requester := @nthF_Requester
 have own_Requester := own_gen eRequester (fun _ => rfl)
 have rep_Requester := @repF_Requester
 have rnth_Requester := @rnthF_Requester
 have rset_Requester := @rsetF_Requester
 simp only [HLtoRequester, ← hp, ← hm_Requester] at full_Requester lset_Requester mkn_Requester nth_Requester own_Requester rep_Requester rnth_Requester rset_Requester fLtoRequester
 generalize hal : alp = al
 rw [sLtoRequesterS, ← hp, ← hm_Requester]
 dsimp only
 conv => lhs; cbv
 rw [mkn_Requester]
 refine cO (fun hx2 => ?_) ?_
 ·rw [hx2]; try rfl
 rintro x1 hx2
 rw [hx2]
 conv => lhs; cbv
 rw [rep_Requester _ _ _ hx2]
 conv => lhs; cbv
 refine (loop_al hal (fun x => match x with | (v3, v4) => ⟨[.c (.rd true 260 3 (m_Requester a0)), dd, dd, .c (.row (0, 0, 0) 260 3 0 (p_len (m_Requester v4))), .c (.at (.int .i64 v3)), dd, dd, dd, dd, dd, dd, dd, dd, dd, dd, dd, dd, dd, dd, dd, dd, dd, dd], [((0, 0, 0), ⟨true, false, 260, 3, p_opn (m_Requester v4)⟩)], 1⟩) (sLtoRequesterS_l1 a0) (fun K g => match g with | (v3, v4) => K (.exit 0) ⟨[.c (.rd true 260 3 (m_Requester a0)), dd, dd, .c (.row (0, 0, 0) 260 3 0 (p_len (m_Requester v4))), .c (.at (.int .i64 v3)), dd, dd, dd, .c (.at (.int .i64 v3)), .c (.rd true 260 3 (m_Requester a0)), .c (.at (.int .i64 (p_int (p_len (m_Requester a0))))), .c (.at (.bool false)), dd, dd, dd, dd, dd, dd, dd, dd, dd, dd, dd], [((0, 0, 0), ⟨true, false, 260, 3, p_opn (m_Requester v4)⟩)], 2⟩) ?_ (0, x1) _ (rfl)).trans (cL ?_)
 ·rintro K1 hr1 ⟨v3, v4⟩ R1
  rw [sLtoRequesterS_l1, ← hp, ← hm_Requester]
  dsimp only
  conv => lhs; cbv
  refine cD (fun hb5 => ?_) fun hb5 => ?_
  ·rw [hb5]
   conv => lhs; cbv
   try rfl
  rw [hb5]
  conv => lhs; cbv
  rw [nth_Requester]
  refine cO (fun hx7 => ?_) ?_
  ·rw [hx7]; try rfl
  rintro x6 hx7
  rw [hx7]
  conv => lhs; cbv
  rw [fLtoRequester x6]
  refine cO (fun hx9 => ?_) ?_
  ·rw [hx9]; try rfl
  rintro r8 hx9
  rw [hx9]
  conv => lhs; cbv
  refine cO (fun hx11 => ?_) ?_
  ·rw [hx11]; try rfl
  rintro x10 hx11
  rw [hx11]
  conv => lhs; cbv
  rw [rnth_Requester]
  refine cO (fun hx13 => ?_) ?_
  ·rw [hx13]; try rfl
  rintro x12 hx13
  rw [hx13]
  conv => lhs; cbv
  rw [rset_Requester]
  try conv => lhs; rw [← lset_Requester v4 x10 r8]
  conv => lhs; cbv
  try rfl
 rintro ⟨w14, w15⟩
 conv => lhs; cbv
 rw [if_pos (full_Requester _)]
 conv => lhs; cbv
 rw [own_Requester]
 conv => lhs; cbv
 try rfl
theorem eLtoPendingInterest (F : Fns) (fLtoName : HLtoName (F 102)) (fLtoRequesterS : HLtoRequesterS (F 147)) : HLtoPendingInterest (EvF F Tryz.f134 (fun _ => [])) := by
 intro a0
 unfold EvF
 obtain ⟨p, hp⟩ := gn prims
 obtain ⟨m_Requester, hm_Requester⟩ := gn (List.map eRequester)
 obtain ⟨m_string, hm_string⟩ := gn (List.map eS)
 rw [← hp, ← hm_Requester, ← hm_string]
 obtain ⟨_, _, _, _, _, _, _, _, _, _, _, _, _, _, _, p_len, _, _, _, _, _, _, _, _, _, _, p_full, _, _, p_own, p_opn, _⟩ := p
 have full_Requester := full_gen eRequester
 have full_string := full_gen eS
 have own_Requester := own_gen eRequester (fun _ => rfl)
 have own_string := own_gen eS (fun _ => rfl)
 simp only [HLtoName, HLtoRequesterS, ← hp, ← hm_Requester, ← hm_string] at full_Requester full_string own_Requester own_string fLtoName fLtoRequesterS
 rw [sLtoPendingInterest]
 conv => lhs; cbv
 rw [fLtoName a0.name]
 refine cO (fun hx2 => ?_) ?_
 ·rw [hx2]; try rfl
 rintro r1 hx2
 rw [hx2]
 conv => lhs; cbv
 rw [fLtoRequesterS a0.requesters]
 refine cO (fun hx4 => ?_) ?_
 ·rw [hx4]; try rfl
 rintro r3 hx4
 rw [hx4]
 conv => lhs; cbv
 rw [if_pos (full_string _)]
 conv => lhs; cbv
 rw [own_string]
 conv => lhs; cbv
 rw [if_pos (full_Requester _)]
 conv => lhs; cbv
 rw [own_Requester]
 conv => lhs; cbv
 try rfl
theorem eLtoPendingInterestS (F : Fns) (fLtoPendingInterest : HLtoPendingInterest (F 134)) : HLtoPendingInterestS (EvF F Tryz.f105 (fun id => if id = 3 then [0, 3, 4] else [])) := by
 intro a0
 unfold EvF
 obtain ⟨p, hp⟩ := gn prims
 obtain ⟨m_PendingInterest, hm_PendingInterest⟩ := gn (List.map ePendingInterest)
 obtain ⟨m_Requester, hm_Requester⟩ := gn (List.map eRequester)
 obtain ⟨m_string, hm_string⟩ := gn (List.map eS)
 rw [← hp, ← hm_PendingInterest]
 obtain ⟨p_arith, p_cmp, _, _, _, _, _, _, _, _, _, _, _, _, _, p_len, p_int, p_nth, _, _, p_ridx, p_rnth, p_rset, _, _, _, p_full, _, _, p_own, p_opn, _, _, _, _, _, _, _, p_mkN, p_rep, _⟩ := p
 have full_PendingInterest := full_gen ePendingInterest
 have full_Requester := full_gen eRequester
 have full_string := full_gen eS
 have lset_PendingInterest := lset_gen ePendingInterest
 have mkn_PendingInterest := @mknF_PendingInterest
 have nth_PendingInterest := @nthF_PendingInterest
 have own_PendingInterest := own_gen ePendingInterest (fun _ => rfl)
 have own_Requester := own_gen eRequester (fun _ => rfl)
 have own_string := own_gen eS (fun _ => rfl)
 have rep_PendingInterest := @repF_PendingInterest
 have rnth_PendingInterest := @rnthF_PendingInterest
 have rset_PendingInterest := @rsetF_PendingInterest
 simp only [HLtoPendingInterest, ← hp, ← hm_PendingInterest, ← hm_Requester, ← hm_string] at full_PendingInterest full_Requester full_string lset_PendingInterest mkn_PendingInterest nth_PendingInterest own_PendingInterest own_Requester own_string rep_PendingInterest rnth_PendingInterest rset_PendingInterest fLtoPendingInterest
 generalize hal : alp = al
 rw [sLtoPendingInterestS, ← hp, ← hm_PendingInterest]
 dsimp only
 conv => lhs; cbv
 rw [mkn_PendingInterest]
 refine cO (fun hx2 => ?_) ?_
 ·rw [hx2]; try rfl
 rintro x1 hx2
 rw [hx2]
 conv => lhs; cbv
 rw [rep_PendingInterest _ _ _ hx2]
 conv => lhs; cbv
 refine (loop_al hal (fun x => match x with | (v3, v4) => ⟨[.c (.rd true 224 3 (m_PendingInterest a0)), dd, dd, .c (.row (0, 0, 0) 224 3 0 (p_len (m_PendingInterest v4))), .c (.at (.int .i64 v3)), dd, dd, dd, dd, dd, dd, dd, dd, dd, dd, dd, dd, dd, dd, dd, dd, dd, dd], [((0, 0, 0), ⟨true, false, 224, 3, p_opn (m_PendingInterest v4)⟩)], 1⟩) (sLtoPendingInterestS_l1 a0) (fun K g => match g with | (v3, v4) => K (.exit 0) ⟨[.c (.rd true 224 3 (m_PendingInterest a0)), dd, dd, .c (.row (0, 0, 0) 224 3 0 (p_len (m_PendingInterest v4))), .c (.at (.int .i64 v3)), dd, dd, dd, .c (.at (.int .i64 v3)), .c (.rd true 224 3 (m_PendingInterest a0)), .c (.at (.int .i64 (p_int (p_len (m_PendingInterest a0))))), .c (.at (.bool false)), dd, dd, dd, dd, dd, dd, dd, dd, dd, dd, dd], [((0, 0, 0), ⟨true, false, 224, 3, p_opn (m_PendingInterest v4)⟩)], 2⟩) ?_ (0, x1) _ (rfl)).trans (cL ?_)
 ·rintro K1 hr1 ⟨v3, v4⟩ R1
  rw [sLtoPendingInterestS_l1, ← hp, ← hm_PendingInterest]
  dsimp only
  conv => lhs; cbv
  refine cD (fun hb5 => ?_) fun hb5 => ?_
  ·rw [hb5]
   conv => lhs; cbv
   try rfl
  rw [hb5]
  conv => lhs; cbv
  rw [nth_PendingInterest]
  refine cO (fun hx7 => ?_) ?_
  ·rw [hx7]; try rfl
  rintro x6 hx7
  rw [hx7]
  conv => lhs; cbv
  rw [fLtoPendingInterest x6]
  refine cO (fun hx9 => ?_) ?_
  ·rw [hx9]; try rfl
  rintro r8 hx9
  rw [hx9]
  conv => lhs; cbv
  refine cO (fun hx11 => ?_) ?_
  ·rw [hx11]; try rfl
  rintro x10 hx11
  rw [hx11]
  conv => lhs; cbv
  rw [rnth_PendingInterest]
  refine cO (fun hx13 => ?_) ?_
  ·rw [hx13]; try rfl
  rintro x12 hx13
  rw [hx13]
  conv => lhs; cbv
  rw [if_pos (full_string _)]
  conv => lhs; cbv
  rw [own_string]
  conv => lhs; cbv
  rw [if_pos (full_Requester _)]
  conv => lhs; cbv
  rw [own_Requester]
  conv => lhs; cbv
  rw [rset_PendingInterest]
  try conv => lhs; rw [← lset_PendingInterest v4 x10 r8]
  conv => lhs; cbv
  try rfl
 rintro ⟨w14, w15⟩
 conv => lhs; cbv
 rw [if_pos (full_PendingInterest _)]
 conv => lhs; cbv
 rw [own_PendingInterest]
 conv => lhs; cbv
 try rfl
theorem eLtoSeenNonce (F : Fns) (fLtoName : HLtoName (F 102)) : HLtoSeenNonce (EvF F Tryz.f135 (fun _ => [])) := by
 intro a0
 unfold EvF
 obtain ⟨p, hp⟩ := gn prims
 obtain ⟨m_string, hm_string⟩ := gn (List.map eS)
 rw [← hp, ← hm_string]
 obtain ⟨_, _, _, _, _, _, _, _, _, _, _, _, _, _, _, p_len, _, _, _, _, _, _, _, _, _, _, p_full, _, _, p_own, p_opn, _⟩ := p
 have full_string := full_gen eS
 have own_string := own_gen eS (fun _ => rfl)
 simp only [HLtoName, ← hp, ← hm_string] at full_string own_string fLtoName
 rw [sLtoSeenNonce]
 conv => lhs; cbv
 rw [fLtoName a0.name]
 refine cO (fun hx2 => ?_) ?_
 ·rw [hx2]; try rfl
 rintro r1 hx2
 rw [hx2]
 conv => lhs; cbv
 rw [if_pos (full_string _)]
 conv => lhs; cbv
 rw [own_string]
 conv => lhs; cbv
 try rfl
theorem eLtoSeenNonceS (F : Fns) (fLtoSeenNonce : HLtoSeenNonce (F 135)) : HLtoSeenNonceS (EvF F Tryz.f106 (fun id => if id = 3 then [0, 3, 4] else [])) := by
 intro a0
 unfold EvF
 obtain ⟨p, hp⟩ := gn prims
 obtain ⟨m_SeenNonce, hm_SeenNonce⟩ := gn (List.map eSeenNonce)
 obtain ⟨m_string, hm_string⟩ := gn (List.map eS)
 rw [← hp, ← hm_SeenNonce]
 obtain ⟨p_arith, p_cmp, _, _, _, _, _, _, _, _, _, _, _, _, _, p_len, p_int, p_nth, _, _, p_ridx, p_rnth, p_rset, _, _, _, p_full, _, _, p_own, p_opn, _, _, _, _, _, _, _, p_mkN, p_rep, _⟩ := p
 have full_SeenNonce := full_gen eSeenNonce
 have full_string := full_gen eS
 have lset_SeenNonce := lset_gen eSeenNonce
 have mkn_SeenNonce := @mknF_SeenNonce
 have nth_SeenNonce := @nthF_SeenNonce
 have own_SeenNonce := own_gen eSeenNonce (fun _ => rfl)
 have own_string := own_gen eS (fun _ => rfl)
 have rep_SeenNonce := @repF_SeenNonce
 have rnth_SeenNonce := @rnthF_SeenNonce
 have rset_SeenNonce := @rsetF_SeenNonce
 simp only [HLtoSeenNonce, ← hp, ← hm_SeenNonce, ← hm_string] at full_SeenNonce full_string lset_SeenNonce mkn_SeenNonce nth_SeenNonce own_SeenNonce own_string rep_SeenNonce rnth_SeenNonce rset_SeenNonce fLtoSeenNonce
 generalize hal : alp = al
 rw [sLtoSeenNonceS, ← hp, ← hm_SeenNonce]
 dsimp only
 conv => lhs; cbv
 rw [mkn_SeenNonce]
 refine cO (fun hx2 => ?_) ?_
 ·rw [hx2]; try rfl
 rintro x1 hx2
 rw [hx2]
 conv => lhs; cbv
 rw [rep_SeenNonce _ _ _ hx2]
 conv => lhs; cbv
 refine (loop_al hal (fun x => match x with | (v3, v4) => ⟨[.c (.rd true 227 2 (m_SeenNonce a0)), dd, dd, .c (.row (0, 0, 0) 227 2 0 (p_len (m_SeenNonce v4))), .c (.at (.int .i64 v3)), dd, dd, dd, dd, dd, dd, dd, dd, dd, dd, dd, dd, dd, dd, dd, dd, dd, dd], [((0, 0, 0), ⟨true, false, 227, 2, p_opn (m_SeenNonce v4)⟩)], 1⟩) (sLtoSeenNonceS_l1 a0) (fun K g => match g with | (v3, v4) => K (.exit 0) ⟨[.c (.rd true 227 2 (m_SeenNonce a0)), dd, dd, .c (.row (0, 0, 0) 227 2 0 (p_len (m_SeenNonce v4))), .c (.at (.int .i64 v3)), dd, dd, dd, .c (.at (.int .i64 v3)), .c (.rd true 227 2 (m_SeenNonce a0)), .c (.at (.int .i64 (p_int (p_len (m_SeenNonce a0))))), .c (.at (.bool false)), dd, dd, dd, dd, dd, dd, dd, dd, dd, dd, dd], [((0, 0, 0), ⟨true, false, 227, 2, p_opn (m_SeenNonce v4)⟩)], 2⟩) ?_ (0, x1) _ (rfl)).trans (cL ?_)
 ·rintro K1 hr1 ⟨v3, v4⟩ R1
  rw [sLtoSeenNonceS_l1, ← hp, ← hm_SeenNonce]
  dsimp only
  conv => lhs; cbv
  refine cD (fun hb5 => ?_) fun hb5 => ?_
  ·rw [hb5]
   conv => lhs; cbv
   try rfl
  rw [hb5]
  conv => lhs; cbv
  rw [nth_SeenNonce]
  refine cO (fun hx7 => ?_) ?_
  ·rw [hx7]; try rfl
  rintro x6 hx7
  rw [hx7]
  conv => lhs; cbv
  rw [fLtoSeenNonce x6]
  refine cO (fun hx9 => ?_) ?_
  ·rw [hx9]; try rfl
  rintro r8 hx9
  rw [hx9]
  conv => lhs; cbv
  refine cO (fun hx11 => ?_) ?_
  ·rw [hx11]; try rfl
  rintro x10 hx11
  rw [hx11]
  conv => lhs; cbv
  rw [rnth_SeenNonce]
  refine cO (fun hx13 => ?_) ?_
  ·rw [hx13]; try rfl
  rintro x12 hx13
  rw [hx13]
  conv => lhs; cbv
  rw [if_pos (full_string _)]
  conv => lhs; cbv
  rw [own_string]
  conv => lhs; cbv
  rw [rset_SeenNonce]
  try conv => lhs; rw [← lset_SeenNonce v4 x10 r8]
  conv => lhs; cbv
  try rfl
 rintro ⟨w14, w15⟩
 conv => lhs; cbv
 rw [if_pos (full_SeenNonce _)]
 conv => lhs; cbv
 rw [own_SeenNonce]
 conv => lhs; cbv
 try rfl
theorem eLtoRoute (F : Fns) (fLtoName : HLtoName (F 102)) : HLtoRoute (EvF F Tryz.f136 (fun _ => [])) := by
 intro a0
 unfold EvF
 obtain ⟨p, hp⟩ := gn prims
 obtain ⟨m_string, hm_string⟩ := gn (List.map eS)
 rw [← hp, ← hm_string]
 obtain ⟨_, _, _, _, _, _, _, _, _, _, _, _, _, _, _, p_len, _, _, _, _, _, _, _, _, _, _, p_full, _, _, p_own, p_opn, _⟩ := p
 have full_string := full_gen eS
 have own_string := own_gen eS (fun _ => rfl)
 simp only [HLtoName, ← hp, ← hm_string] at full_string own_string fLtoName
 rw [sLtoRoute]
 conv => lhs; cbv
 rw [fLtoName a0.pfx]
 refine cO (fun hx2 => ?_) ?_
 ·rw [hx2]; try rfl
 rintro r1 hx2
 rw [hx2]
 conv => lhs; cbv
 rw [if_pos (full_string _)]
 conv => lhs; cbv
 rw [own_string]
 conv => lhs; cbv
 try rfl
theorem eLtoRouteS (F : Fns) (fLtoRoute : HLtoRoute (F 136)) : HLtoRouteS (EvF F Tryz.f107 (fun id => if id = 3 then [0, 3, 4] else [])) := by
 intro a0
 unfold EvF
 obtain ⟨p, hp⟩ := gn prims
 obtain ⟨m_Route, hm_Route⟩ := gn (List.map eRoute)
 obtain ⟨m_string, hm_string⟩ := gn (List.map eS)
 rw [← hp, ← hm_Route]
 obtain ⟨p_arith, p_cmp, _, _, _, _, _, _, _, _, _, _, _, _, _, p_len, p_int, p_nth, _, _, p_ridx, p_rnth, p_rset, _, _, _, p_full, _, _, p_own, p_opn, _, _, _, _, _, _, _, p_mkN, p_rep, _⟩ := p
 have full_Route := full_gen eRoute
 have full_string := full_gen eS
 have lset_Route := lset_gen eRoute
 have mkn_Route := @mknF_Route
 have nth_Route := @nthF_Route
 have own_Route := own_gen eRoute (fun _ => rfl)
 have own_string := own_gen eS (fun _ => rfl)
 have rep_Route := @repF_Route
 have rnth_Route := @rnthF_Route
 have rset_Route := @rsetF_Route
 simp only [HLtoRoute, ← hp, ← hm_Route, ← hm_string] at full_Route full_string lset_Route mkn_Route nth_Route own_Route own_string rep_Route rnth_Route rset_Route fLtoRoute
 generalize hal : alp = al
 rw [sLtoRouteS, ← hp, ← hm_Route]
 dsimp only
 conv => lhs; cbv
 rw [mkn_Route]
 refine cO (fun hx2 => ?_) ?_
 ·rw [hx2]; try rfl
 rintro x1 hx2
 rw [hx2]
 conv => lhs; cbv
 rw [rep_Route _ _ _ hx2]
 conv => lhs; cbv
 refine (loop_al hal (fun x => match x with | (v3, v4) => ⟨[.c (.rd true 229 3 (m_Route a0)), dd, dd, .c (.row (0, 0, 0) 229 3 0 (p_len (m_Route v4))), .c (.at (.int .i64 v3)), dd, dd, dd, dd, dd, dd, dd, dd, dd, dd, dd, dd, dd, dd, dd, dd, dd, dd], [((0, 0, 0), ⟨true, false, 229, 3, p_opn (m_Route v4)⟩)], 1⟩) (sLtoRouteS_l1 a0) (fun K g => match g with | (v3, v4) => K (.exit 0) ⟨[.c (.rd true 229 3 (m_Route a0)), dd, dd, .c (.row (0, 0, 0) 229 3 0 (p_len (m_Route v4))), .c (.at (.int .i64 v3)), dd, dd, dd, .c (.at (.int .i64 v3)), .c (.rd true 229 3 (m_Route a0)), .c (.at (.int .i64 (p_int (p_len (m_Route a0))))), .c (.at (.bool false)), dd, dd, dd, dd, dd, dd, dd, dd, dd, dd, dd], [((0, 0, 0), ⟨true, false, 229, 3, p_opn (m_Route v4)⟩)], 2⟩) ?_ (0, x1) _ (rfl)).trans (cL ?_)
 ·rintro K1 hr1 ⟨v3, v4⟩ R1
  rw [sLtoRouteS_l1, ← hp, ← hm_Route]
  dsimp only
  conv => lhs; cbv
  refine cD (fun hb5 => ?_) fun hb5 => ?_
  ·rw [hb5]
   conv => lhs; cbv
   try rfl
  rw [hb5]
  conv => lhs; cbv
  rw [nth_Route]
  refine cO (fun hx7 => ?_) ?_
  ·rw [hx7]; try rfl
  rintro x6 hx7
  rw [hx7]
  conv => lhs; cbv
  rw [fLtoRoute x6]
  refine cO (fun hx9 => ?_) ?_
  ·rw [hx9]; try rfl
  rintro r8 hx9
  rw [hx9]
  conv => lhs; cbv
  refine cO (fun hx11 => ?_) ?_
  ·rw [hx11]; try rfl
  rintro x10 hx11
  rw [hx11]
  conv => lhs; cbv
  rw [rnth_Route]
  refine cO (fun hx13 => ?_) ?_
  ·rw [hx13]; try rfl
  rintro x12 hx13
  rw [hx13]
  conv => lhs; cbv
  rw [if_pos (full_string _)]
  conv => lhs; cbv
  rw [own_string]
  conv => lhs; cbv
  rw [rset_Route]
  try conv => lhs; rw [← lset_Route v4 x10 r8]
  conv => lhs; cbv
  try rfl
 rintro ⟨w14, w15⟩
 conv => lhs; cbv
 rw [if_pos (full_Route _)]
 conv => lhs; cbv
 rw [own_Route]
 conv => lhs; cbv
 try rfl
theorem eLtoMeasurement (F : Fns) (fLtoName : HLtoName (F 102)) : HLtoMeasurement (EvF F Tryz.f137 (fun _ => [])) := by
 intro a0
 unfold EvF
 obtain ⟨p, hp⟩ := gn prims
 obtain ⟨m_string, hm_string⟩ := gn (List.map eS)
 rw [← hp, ← hm_string]
 obtain ⟨_, _, _, _, _, _, _, _, _, _, _, _, _, _, _, p_len, _, _, _, _, _, _, _, _, _, _, p_full, _, _, p_own, p_opn, _⟩ := p
 have full_string := full_gen eS
 have own_string := own_gen eS (fun _ => rfl)
 simp only [HLtoName, ← hp, ← hm_string] at full_string own_string fLtoName
 rw [sLtoMeasurement]
 conv => lhs; cbv
 rw [fLtoName a0.pfx]
 refine cO (fun hx2 => ?_) ?_
 ·rw [hx2]; try rfl
 rintro r1 hx2
 rw [hx2]
 conv => lhs; cbv
 rw [if_pos (full_string _)]
 conv => lhs; cbv
 rw [own_string]
 conv => lhs; cbv
 try rfl
theorem eLtoMeasurementS (F : Fns) (fLtoMeasurement : HLtoMeasurement (F 137)) : HLtoMeasurementS (EvF F Tryz.f108 (fun id => if id = 3 then [0, 3, 4] else [])) := by
 intro a0
 unfold EvF
 obtain ⟨p, hp⟩ := gn prims
 obtain ⟨m_Measurement, hm_Measurement⟩ := gn (List.map eMeasurement)
 obtain ⟨m_string, hm_string⟩ := gn (List.map eS)
 rw [← hp, ← hm_Measurement]
 obtain ⟨p_arith, p_cmp, _, _, _, _, _, _, _, _, _, _, _, _, _, p_len, p_int, p_nth, _, _, p_ridx, p_rnth, p_rset, _, _, _, p_full, _, _, p_own, p_opn, _, _, _, _, _, _, _, p_mkN, p_rep, _⟩ := p
 have full_Measurement := full_gen eMeasurement
 have full_string := full_gen eS
 have lset_Measurement := lset_gen eMeasurement
 have mkn_Measurement := @mknF_Measurement
 have nth_Measurement := @nthF_Measurement
 have own_Measurement := own_gen eMeasurement (fun _ => rfl)
 have own_string := own_gen eS (fun _ => rfl)
 have rep_Measurement := @repF_Measurement
 have rnth_Measurement := @rnthF_Measurement
 have rset_Measurement := @rsetF_Measurement
 simp only [HLtoMeasurement, ← hp, ← hm_Measurement, ← hm_string] at full_Measurement full_string lset_Measurement mkn_Measurement nth_Measurement own_Measurement own_string rep_Measurement rnth_Measurement rset_Measurement fLtoMeasurement
 generalize hal : alp = al
 rw [sLtoMeasurementS, ← hp, ← hm_Measurement]
 dsimp only
 conv => lhs; cbv
 rw [mkn_Measurement]
 refine cO (fun hx2 => ?_) ?_
 ·rw [hx2]; try rfl
 rintro x1 hx2
 rw [hx2]
 conv => lhs; cbv
 rw [rep_Measurement _ _ _ hx2]
 conv => lhs; cbv
 refine (loop_al hal (fun x => match x with | (v3, v4) => ⟨[.c (.rd true 231 3 (m_Measurement a0)), dd, dd, .c (.row (0, 0, 0) 231 3 0 (p_len (m_Measurement v4))), .c (.at (.int .i64 v3)), dd, dd, dd, dd, dd, dd, dd, dd, dd, dd, dd, dd, dd, dd, dd, dd, dd, dd], [((0, 0, 0), ⟨true, false, 231, 3, p_opn (m_Measurement v4)⟩)], 1⟩) (sLtoMeasurementS_l1 a0) (fun K g => match g with | (v3, v4) => K (.exit 0) ⟨[.c (.rd true 231 3 (m_Measurement a0)), dd, dd, .c (.row (0, 0, 0) 231 3 0 (p_len (m_Measurement v4))), .c (.at (.int .i64 v3)), dd, dd, dd, .c (.at (.int .i64 v3)), .c (.rd true 231 3 (m_Measurement a0)), .c (.at (.int .i64 (p_int (p_len (m_Measurement a0))))), .c (.at (.bool false)), dd, dd, dd, dd, dd, dd, dd, dd, dd, dd, dd], [((0, 0, 0), ⟨true, false, 231, 3, p_opn (m_Measurement v4)⟩)], 2⟩) ?_ (0, x1) _ (rfl)).trans (cL ?_)
 ·rintro K1 hr1 ⟨v3, v4⟩ R1
  rw [sLtoMeasurementS_l1, ← hp, ← hm_Measurement]
  dsimp only
  conv => lhs; cbv
  refine cD (fun hb5 => ?_) fun hb5 => ?_
  ·rw [hb5]
   conv => lhs; cbv
   try rfl
  rw [hb5]
  conv => lhs; cbv
  rw [nth_Measurement]
  refine cO (fun hx7 => ?_) ?_
  ·rw [hx7]; try rfl
  rintro x6 hx7
  rw [hx7]
  conv => lhs; cbv
  rw [fLtoMeasurement x6]
  refine cO (fun hx9 => ?_) ?_
  ·rw [hx9]; try rfl
  rintro r8 hx9
  rw [hx9]
  conv => lhs; cbv
  refine cO (fun hx11 => ?_) ?_
  ·rw [hx11]; try rfl
  rintro x10 hx11
  rw [hx11]
  conv => lhs; cbv
  rw [rnth_Measurement]
  refine cO (fun hx13 => ?_) ?_
  ·rw [hx13]; try rfl
  rintro x12 hx13
  rw [hx13]
  conv => lhs; cbv
  rw [if_pos (full_string _)]
  conv => lhs; cbv
  rw [own_string]
  conv => lhs; cbv
  rw [rset_Measurement]
  try conv => lhs; rw [← lset_Measurement v4 x10 r8]
  conv => lhs; cbv
  try rfl
 rintro ⟨w14, w15⟩
 conv => lhs; cbv
 rw [if_pos (full_Measurement _)]
 conv => lhs; cbv
 rw [own_Measurement]
 conv => lhs; cbv
 try rfl
theorem eLtoNode (F : Fns) (fLtoDataS : HLtoDataS (F 62)) (fLtoContentStore : HLtoContentStore (F 104)) (fLtoPendingInterestS : HLtoPendingInterestS (F 105)) (fLtoSeenNonceS : HLtoSeenNonceS (F 106)) (fLtoRouteS : HLtoRouteS (F 107)) (fLtoMeasurementS : HLtoMeasurementS (F 108)) : HLtoNode (EvF F Tryz.f64 (fun _ => [])) := by
 intro a0
 unfold EvF
 obtain ⟨p, hp⟩ := gn prims
 obtain ⟨m_CacheEntry, hm_CacheEntry⟩ := gn (List.map eCacheEntry)
 obtain ⟨m_Data, hm_Data⟩ := gn (List.map eData)
 obtain ⟨m_Measurement, hm_Measurement⟩ := gn (List.map eMeasurement)
 obtain ⟨m_PendingInterest, hm_PendingInterest⟩ := gn (List.map ePendingInterest)
 obtain ⟨m_Route, hm_Route⟩ := gn (List.map eRoute)
 obtain ⟨m_SeenNonce, hm_SeenNonce⟩ := gn (List.map eSeenNonce)
 rw [← hp, ← hm_CacheEntry, ← hm_Data, ← hm_Measurement, ← hm_PendingInterest, ← hm_Route, ← hm_SeenNonce]
 obtain ⟨_, _, _, _, _, _, _, _, _, _, _, _, _, _, _, p_len, _, _, _, _, _, _, _, _, _, _, p_full, _, _, p_own, p_opn, _⟩ := p
 have full_CacheEntry := full_gen eCacheEntry
 have full_Data := full_gen eData
 have full_Measurement := full_gen eMeasurement
 have full_PendingInterest := full_gen ePendingInterest
 have full_Route := full_gen eRoute
 have full_SeenNonce := full_gen eSeenNonce
 have own_CacheEntry := own_gen eCacheEntry (fun _ => rfl)
 have own_Data := own_gen eData (fun _ => rfl)
 have own_Measurement := own_gen eMeasurement (fun _ => rfl)
 have own_PendingInterest := own_gen ePendingInterest (fun _ => rfl)
 have own_Route := own_gen eRoute (fun _ => rfl)
 have own_SeenNonce := own_gen eSeenNonce (fun _ => rfl)
 simp only [HLtoDataS, HLtoContentStore, HLtoPendingInterestS, HLtoSeenNonceS, HLtoRouteS, HLtoMeasurementS, ← hp, ← hm_CacheEntry, ← hm_Data, ← hm_Measurement, ← hm_PendingInterest, ← hm_Route, ← hm_SeenNonce] at full_CacheEntry full_Data full_Measurement full_PendingInterest full_Route full_SeenNonce own_CacheEntry own_Data own_Measurement own_PendingInterest own_Route own_SeenNonce fLtoDataS fLtoContentStore fLtoPendingInterestS fLtoSeenNonceS fLtoRouteS fLtoMeasurementS
 rw [sLtoNode]
 conv => lhs; cbv
 rw [fLtoDataS a0.locals]
 refine cO (fun hx2 => ?_) ?_
 ·rw [hx2]; try rfl
 rintro r1 hx2
 rw [hx2]
 conv => lhs; cbv
 rw [fLtoContentStore a0.cache]
 refine cO (fun hx4 => ?_) ?_
 ·rw [hx4]; try rfl
 rintro r3 hx4
 rw [hx4]
 conv => lhs; cbv
 rw [fLtoPendingInterestS a0.pending]
 refine cO (fun hx6 => ?_) ?_
 ·rw [hx6]; try rfl
 rintro r5 hx6
 rw [hx6]
 conv => lhs; cbv
 rw [fLtoSeenNonceS a0.seen]
 refine cO (fun hx8 => ?_) ?_
 ·rw [hx8]; try rfl
 rintro r7 hx8
 rw [hx8]
 conv => lhs; cbv
 rw [fLtoRouteS a0.routes]
 refine cO (fun hx10 => ?_) ?_
 ·rw [hx10]; try rfl
 rintro r9 hx10
 rw [hx10]
 conv => lhs; cbv
 rw [fLtoMeasurementS a0.measurements]
 refine cO (fun hx12 => ?_) ?_
 ·rw [hx12]; try rfl
 rintro r11 hx12
 rw [hx12]
 conv => lhs; cbv
 rw [if_pos (full_Data _)]
 conv => lhs; cbv
 rw [own_Data]
 conv => lhs; cbv
 rw [if_pos (full_CacheEntry _)]
 conv => lhs; cbv
 rw [own_CacheEntry]
 conv => lhs; cbv
 rw [if_pos (full_PendingInterest _)]
 conv => lhs; cbv
 rw [own_PendingInterest]
 conv => lhs; cbv
 rw [if_pos (full_SeenNonce _)]
 conv => lhs; cbv
 rw [own_SeenNonce]
 conv => lhs; cbv
 rw [if_pos (full_Route _)]
 conv => lhs; cbv
 rw [own_Route]
 conv => lhs; cbv
 rw [if_pos (full_Measurement _)]
 conv => lhs; cbv
 rw [own_Measurement]
 conv => lhs; cbv
 try rfl
theorem eLtoNodeS (F : Fns) (fLtoNode : HLtoNode (F 64)) : HLtoNodeS (EvF F Tryz.f24 (fun id => if id = 3 then [0, 3, 4] else [])) := by
 intro a0
 unfold EvF
 obtain ⟨p, hp⟩ := gn prims
 obtain ⟨m_CacheEntry, hm_CacheEntry⟩ := gn (List.map eCacheEntry)
 obtain ⟨m_Data, hm_Data⟩ := gn (List.map eData)
 obtain ⟨m_Measurement, hm_Measurement⟩ := gn (List.map eMeasurement)
 obtain ⟨m_Node, hm_Node⟩ := gn (List.map eNode)
 obtain ⟨m_PendingInterest, hm_PendingInterest⟩ := gn (List.map ePendingInterest)
 obtain ⟨m_Route, hm_Route⟩ := gn (List.map eRoute)
 obtain ⟨m_SeenNonce, hm_SeenNonce⟩ := gn (List.map eSeenNonce)
 rw [← hp, ← hm_Node]
 obtain ⟨p_arith, p_cmp, _, _, _, _, _, _, _, _, _, _, _, _, _, p_len, p_int, p_nth, _, _, p_ridx, p_rnth, p_rset, _, _, _, p_full, _, _, p_own, p_opn, _, _, _, _, _, _, _, p_mkN, p_rep, _⟩ := p
 have full_CacheEntry := full_gen eCacheEntry
 have full_Data := full_gen eData
 have full_Measurement := full_gen eMeasurement
 have full_Node := full_gen eNode
 have full_PendingInterest := full_gen ePendingInterest
 have full_Route := full_gen eRoute
 have full_SeenNonce := full_gen eSeenNonce
 have lset_Node := lset_gen eNode
 have mkn_Node := @mknF_Node
 have nth_Node := @nthF_Node
 have own_CacheEntry := own_gen eCacheEntry (fun _ => rfl)
 have own_Data := own_gen eData (fun _ => rfl)
 have own_Measurement := own_gen eMeasurement (fun _ => rfl)
 have own_Node := own_gen eNode (fun _ => rfl)
 have own_PendingInterest := own_gen ePendingInterest (fun _ => rfl)
 have own_Route := own_gen eRoute (fun _ => rfl)
 have own_SeenNonce := own_gen eSeenNonce (fun _ => rfl)
 have rep_Node := @repF_Node
 have rnth_Node := @rnthF_Node
 have rset_Node := @rsetF_Node
 simp only [HLtoNode, ← hp, ← hm_CacheEntry, ← hm_Data, ← hm_Measurement, ← hm_Node, ← hm_PendingInterest, ← hm_Route, ← hm_SeenNonce] at full_CacheEntry full_Data full_Measurement full_Node full_PendingInterest full_Route full_SeenNonce lset_Node mkn_Node nth_Node own_CacheEntry own_Data own_Measurement own_Node own_PendingInterest own_Route own_SeenNonce rep_Node rnth_Node rset_Node fLtoNode
 generalize hal : alp = al
 rw [sLtoNodeS, ← hp, ← hm_Node]
 dsimp only
 conv => lhs; cbv
 rw [mkn_Node]
 refine cO (fun hx2 => ?_) ?_
 ·rw [hx2]; try rfl
 rintro x1 hx2
 rw [hx2]
 conv => lhs; cbv
 rw [rep_Node _ _ _ hx2]
 conv => lhs; cbv
 refine (loop_al hal (fun x => match x with | (v3, v4) => ⟨[.c (.rd true 146 8 (m_Node a0)), dd, dd, .c (.row (0, 0, 0) 146 8 0 (p_len (m_Node v4))), .c (.at (.int .i64 v3)), dd, dd, dd, dd, dd, dd, dd, dd, dd, dd, dd, dd, dd, dd, dd, dd, dd, dd], [((0, 0, 0), ⟨true, false, 146, 8, p_opn (m_Node v4)⟩)], 1⟩) (sLtoNodeS_l1 a0) (fun K g => match g with | (v3, v4) => K (.exit 0) ⟨[.c (.rd true 146 8 (m_Node a0)), dd, dd, .c (.row (0, 0, 0) 146 8 0 (p_len (m_Node v4))), .c (.at (.int .i64 v3)), dd, dd, dd, .c (.at (.int .i64 v3)), .c (.rd true 146 8 (m_Node a0)), .c (.at (.int .i64 (p_int (p_len (m_Node a0))))), .c (.at (.bool false)), dd, dd, dd, dd, dd, dd, dd, dd, dd, dd, dd], [((0, 0, 0), ⟨true, false, 146, 8, p_opn (m_Node v4)⟩)], 2⟩) ?_ (0, x1) _ (rfl)).trans (cL ?_)
 ·rintro K1 hr1 ⟨v3, v4⟩ R1
  rw [sLtoNodeS_l1, ← hp, ← hm_Node]
  dsimp only
  conv => lhs; cbv
  refine cD (fun hb5 => ?_) fun hb5 => ?_
  ·rw [hb5]
   conv => lhs; cbv
   try rfl
  rw [hb5]
  conv => lhs; cbv
  rw [nth_Node]
  refine cO (fun hx7 => ?_) ?_
  ·rw [hx7]; try rfl
  rintro x6 hx7
  rw [hx7]
  conv => lhs; cbv
  rw [fLtoNode x6]
  refine cO (fun hx9 => ?_) ?_
  ·rw [hx9]; try rfl
  rintro r8 hx9
  rw [hx9]
  conv => lhs; cbv
  refine cO (fun hx11 => ?_) ?_
  ·rw [hx11]; try rfl
  rintro x10 hx11
  rw [hx11]
  conv => lhs; cbv
  rw [rnth_Node]
  refine cO (fun hx13 => ?_) ?_
  ·rw [hx13]; try rfl
  rintro x12 hx13
  rw [hx13]
  conv => lhs; cbv
  rw [if_pos (full_Data _)]
  conv => lhs; cbv
  rw [own_Data]
  conv => lhs; cbv
  rw [if_pos (full_CacheEntry _)]
  conv => lhs; cbv
  rw [own_CacheEntry]
  conv => lhs; cbv
  rw [if_pos (full_PendingInterest _)]
  conv => lhs; cbv
  rw [own_PendingInterest]
  conv => lhs; cbv
  rw [if_pos (full_SeenNonce _)]
  conv => lhs; cbv
  rw [own_SeenNonce]
  conv => lhs; cbv
  rw [if_pos (full_Route _)]
  conv => lhs; cbv
  rw [own_Route]
  conv => lhs; cbv
  rw [if_pos (full_Measurement _)]
  conv => lhs; cbv
  rw [own_Measurement]
  conv => lhs; cbv
  rw [rset_Node]
  try conv => lhs; rw [← lset_Node v4 x10 r8]
  conv => lhs; cbv
  try rfl
 rintro ⟨w14, w15⟩
 conv => lhs; cbv
 rw [if_pos (full_Node _)]
 conv => lhs; cbv
 rw [own_Node]
 conv => lhs; cbv
 try rfl
theorem eLtoIntS (F : Fns) : HLtoIntS (EvF F Tryz.f25 (fun id => if id = 3 then [0, 3, 4] else [])) := by
 intro a0
 unfold EvF
 obtain ⟨p, hp⟩ := gn prims
 obtain ⟨m_int, hm_int⟩ := gn (List.map eI)
 rw [← hp, ← hm_int]
 obtain ⟨p_arith, p_cmp, _, _, _, _, _, _, _, _, _, _, _, _, _, p_len, p_int, p_nth, _, _, p_ridx, p_rnth, p_rset, _, _, _, p_full, _, _, p_own, p_opn, _, _, _, _, _, _, _, p_mkN, p_rep, _⟩ := p
 have full_int := full_gen eI
 have lset_int := lset_gen eI
 have mkn_int := @mknF_int
 have nth_int := @nthF_int
 have own_int := own_gen eI (fun _ => rfl)
 have rep_int := @repF_int
 have rnth_int := @rnthF_int
 have rset_int := @rsetF_int
 simp only [← hp, ← hm_int] at full_int lset_int mkn_int nth_int own_int rep_int rnth_int rset_int
 generalize hal : alp = al
 rw [sLtoIntS, ← hp, ← hm_int]
 dsimp only
 conv => lhs; cbv
 rw [mkn_int]
 refine cO (fun hx2 => ?_) ?_
 ·rw [hx2]; try rfl
 rintro x1 hx2
 rw [hx2]
 conv => lhs; cbv
 rw [rep_int _ _ _ hx2]
 conv => lhs; cbv
 refine (loop_al hal (fun x => match x with | (v3, v4) => ⟨[.c (.rd true 3 1 (m_int a0)), dd, dd, .c (.row (0, 0, 0) 3 1 0 (p_len (m_int v4))), .c (.at (.int .i64 v3)), dd, dd, dd, dd, dd, dd, dd, dd, dd, dd, dd, dd, dd, dd, dd, dd, dd], [((0, 0, 0), ⟨true, false, 3, 1, p_opn (m_int v4)⟩)], 1⟩) (sLtoIntS_l1 a0) (fun K g => match g with | (v3, v4) => K (.exit 0) ⟨[.c (.rd true 3 1 (m_int a0)), dd, dd, .c (.row (0, 0, 0) 3 1 0 (p_len (m_int v4))), .c (.at (.int .i64 v3)), dd, dd, dd, .c (.at (.int .i64 v3)), .c (.rd true 3 1 (m_int a0)), .c (.at (.int .i64 (p_int (p_len (m_int a0))))), .c (.at (.bool false)), dd, dd, dd, dd, dd, dd, dd, dd, dd, dd], [((0, 0, 0), ⟨true, false, 3, 1, p_opn (m_int v4)⟩)], 2⟩) ?_ (0, x1) _ (rfl)).trans (cL ?_)
 ·rintro K1 hr1 ⟨v3, v4⟩ R1
  rw [sLtoIntS_l1, ← hp, ← hm_int]
  dsimp only
  conv => lhs; cbv
  refine cD (fun hb5 => ?_) fun hb5 => ?_
  ·rw [hb5]
   conv => lhs; cbv
   try rfl
  rw [hb5]
  conv => lhs; cbv
  rw [nth_int]
  refine cO (fun hx7 => ?_) ?_
  ·rw [hx7]; try rfl
  rintro x6 hx7
  rw [hx7]
  conv => lhs; cbv
  refine cO (fun hx9 => ?_) ?_
  ·rw [hx9]; try rfl
  rintro x8 hx9
  rw [hx9]
  conv => lhs; cbv
  rw [rnth_int]
  refine cO (fun hx11 => ?_) ?_
  ·rw [hx11]; try rfl
  rintro x10 hx11
  rw [hx11]
  conv => lhs; cbv
  rw [rset_int]
  try conv => lhs; rw [← lset_int v4 x8 x6]
  conv => lhs; cbv
  try rfl
 rintro ⟨w12, w13⟩
 conv => lhs; cbv
 rw [if_pos (full_int _)]
 conv => lhs; cbv
 rw [own_int]
 conv => lhs; cbv
 try rfl
theorem eLtoInterest (F : Fns) (fLtoName : HLtoName (F 102)) : HLtoInterest (EvF F Tryz.f109 (fun _ => [])) := by
 intro a0
 unfold EvF
 obtain ⟨p, hp⟩ := gn prims
 obtain ⟨m_string, hm_string⟩ := gn (List.map eS)
 rw [← hp, ← hm_string]
 obtain ⟨_, _, _, _, _, _, _, _, _, _, _, _, _, _, _, p_len, _, _, _, _, _, _, _, _, _, _, p_full, _, _, p_own, p_opn, _⟩ := p
 have full_string := full_gen eS
 have own_string := own_gen eS (fun _ => rfl)
 simp only [HLtoName, ← hp, ← hm_string] at full_string own_string fLtoName
 rw [sLtoInterest]
 conv => lhs; cbv
 rw [fLtoName a0.name]
 refine cO (fun hx2 => ?_) ?_
 ·rw [hx2]; try rfl
 rintro r1 hx2
 rw [hx2]
 conv => lhs; cbv
 rw [if_pos (full_string _)]
 conv => lhs; cbv
 rw [own_string]
 conv => lhs; cbv
 try rfl
theorem eLtoPacketInFlight (F : Fns) (fLtoInterest : HLtoInterest (F 109)) (fLtoData : HLtoData (F 103)) : HLtoPacketInFlight (EvF F Tryz.f65 (fun _ => [])) := by
 intro a0
 unfold EvF
 obtain ⟨p, hp⟩ := gn prims
 obtain ⟨m_byte, hm_byte⟩ := gn (List.map eY)
 obtain ⟨m_string, hm_string⟩ := gn (List.map eS)
 rw [← hp, ← hm_byte, ← hm_string]
 obtain ⟨_, _, _, _, _, _, _, _, _, _, _, _, _, _, _, p_len, _, _, _, _, _, _, _, _, _, _, p_full, _, _, p_own, p_opn, _⟩ := p
 have full_byte := full_gen eY
 have full_string := full_gen eS
 have own_byte := own_gen eY (fun _ => rfl)
 have own_string := own_gen eS (fun _ => rfl)
 simp only [HLtoInterest, HLtoData, ← hp, ← hm_byte, ← hm_string] at full_byte full_string own_byte own_string fLtoInterest fLtoData
 rw [sLtoPacketInFlight]
 conv => lhs; cbv
 rw [fLtoInterest a0.interest]
 refine cO (fun hx2 => ?_) ?_
 ·rw [hx2]; try rfl
 rintro r1 hx2
 rw [hx2]
 conv => lhs; cbv
 rw [fLtoData a0.data]
 refine cO (fun hx4 => ?_) ?_
 ·rw [hx4]; try rfl
 rintro r3 hx4
 rw [hx4]
 conv => lhs; cbv
 rw [if_pos (full_string _)]
 conv => lhs; cbv
 rw [own_string]
 conv => lhs; cbv
 rw [if_pos (full_string _)]
 conv => lhs; cbv
 rw [own_string]
 conv => lhs; cbv
 rw [if_pos (full_byte _)]
 conv => lhs; cbv
 rw [own_byte]
 conv => lhs; cbv
 rw [if_pos (full_string _)]
 conv => lhs; cbv
 rw [own_string]
 conv => lhs; cbv
 try rfl
theorem eLtoPacketInFlightS (F : Fns) (fLtoPacketInFlight : HLtoPacketInFlight (F 65)) : HLtoPacketInFlightS (EvF F Tryz.f26 (fun id => if id = 3 then [0, 3, 4] else [])) := by
 intro a0
 unfold EvF
 obtain ⟨p, hp⟩ := gn prims
 obtain ⟨m_PacketInFlight, hm_PacketInFlight⟩ := gn (List.map ePacketInFlight)
 obtain ⟨m_byte, hm_byte⟩ := gn (List.map eY)
 obtain ⟨m_string, hm_string⟩ := gn (List.map eS)
 rw [← hp, ← hm_PacketInFlight]
 obtain ⟨p_arith, p_cmp, _, _, _, _, _, _, _, _, _, _, _, _, _, p_len, p_int, p_nth, _, _, p_ridx, p_rnth, p_rset, _, _, _, p_full, _, _, p_own, p_opn, _, _, _, _, _, _, _, p_mkN, p_rep, _⟩ := p
 have full_PacketInFlight := full_gen ePacketInFlight
 have full_byte := full_gen eY
 have full_string := full_gen eS
 have lset_PacketInFlight := lset_gen ePacketInFlight
 have mkn_PacketInFlight := @mknF_PacketInFlight
 have nth_PacketInFlight := @nthF_PacketInFlight
 have own_PacketInFlight := own_gen ePacketInFlight (fun _ => rfl)
 have own_byte := own_gen eY (fun _ => rfl)
 have own_string := own_gen eS (fun _ => rfl)
 have rep_PacketInFlight := @repF_PacketInFlight
 have rnth_PacketInFlight := @rnthF_PacketInFlight
 have rset_PacketInFlight := @rsetF_PacketInFlight
 simp only [HLtoPacketInFlight, ← hp, ← hm_PacketInFlight, ← hm_byte, ← hm_string] at full_PacketInFlight full_byte full_string lset_PacketInFlight mkn_PacketInFlight nth_PacketInFlight own_PacketInFlight own_byte own_string rep_PacketInFlight rnth_PacketInFlight rset_PacketInFlight fLtoPacketInFlight
 generalize hal : alp = al
 rw [sLtoPacketInFlightS, ← hp, ← hm_PacketInFlight]
 dsimp only
 conv => lhs; cbv
 rw [mkn_PacketInFlight]
 refine cO (fun hx2 => ?_) ?_
 ·rw [hx2]; try rfl
 rintro x1 hx2
 rw [hx2]
 conv => lhs; cbv
 rw [rep_PacketInFlight _ _ _ hx2]
 conv => lhs; cbv
 refine (loop_al hal (fun x => match x with | (v3, v4) => ⟨[.c (.rd true 151 12 (m_PacketInFlight a0)), dd, dd, .c (.row (0, 0, 0) 151 12 0 (p_len (m_PacketInFlight v4))), .c (.at (.int .i64 v3)), dd, dd, dd, dd, dd, dd, dd, dd, dd, dd, dd, dd, dd, dd, dd, dd, dd, dd], [((0, 0, 0), ⟨true, false, 151, 12, p_opn (m_PacketInFlight v4)⟩)], 1⟩) (sLtoPacketInFlightS_l1 a0) (fun K g => match g with | (v3, v4) => K (.exit 0) ⟨[.c (.rd true 151 12 (m_PacketInFlight a0)), dd, dd, .c (.row (0, 0, 0) 151 12 0 (p_len (m_PacketInFlight v4))), .c (.at (.int .i64 v3)), dd, dd, dd, .c (.at (.int .i64 v3)), .c (.rd true 151 12 (m_PacketInFlight a0)), .c (.at (.int .i64 (p_int (p_len (m_PacketInFlight a0))))), .c (.at (.bool false)), dd, dd, dd, dd, dd, dd, dd, dd, dd, dd, dd], [((0, 0, 0), ⟨true, false, 151, 12, p_opn (m_PacketInFlight v4)⟩)], 2⟩) ?_ (0, x1) _ (rfl)).trans (cL ?_)
 ·rintro K1 hr1 ⟨v3, v4⟩ R1
  rw [sLtoPacketInFlightS_l1, ← hp, ← hm_PacketInFlight]
  dsimp only
  conv => lhs; cbv
  refine cD (fun hb5 => ?_) fun hb5 => ?_
  ·rw [hb5]
   conv => lhs; cbv
   try rfl
  rw [hb5]
  conv => lhs; cbv
  rw [nth_PacketInFlight]
  refine cO (fun hx7 => ?_) ?_
  ·rw [hx7]; try rfl
  rintro x6 hx7
  rw [hx7]
  conv => lhs; cbv
  rw [fLtoPacketInFlight x6]
  refine cO (fun hx9 => ?_) ?_
  ·rw [hx9]; try rfl
  rintro r8 hx9
  rw [hx9]
  conv => lhs; cbv
  refine cO (fun hx11 => ?_) ?_
  ·rw [hx11]; try rfl
  rintro x10 hx11
  rw [hx11]
  conv => lhs; cbv
  rw [rnth_PacketInFlight]
  refine cO (fun hx13 => ?_) ?_
  ·rw [hx13]; try rfl
  rintro x12 hx13
  rw [hx13]
  conv => lhs; cbv
  rw [if_pos (full_string _)]
  conv => lhs; cbv
  rw [own_string]
  conv => lhs; cbv
  rw [if_pos (full_string _)]
  conv => lhs; cbv
  rw [own_string]
  conv => lhs; cbv
  rw [if_pos (full_byte _)]
  conv => lhs; cbv
  rw [own_byte]
  conv => lhs; cbv
  rw [if_pos (full_string _)]
  conv => lhs; cbv
  rw [own_string]
  conv => lhs; cbv
  rw [rset_PacketInFlight]
  try conv => lhs; rw [← lset_PacketInFlight v4 x10 r8]
  conv => lhs; cbv
  try rfl
 rintro ⟨w14, w15⟩
 conv => lhs; cbv
 rw [if_pos (full_PacketInFlight _)]
 conv => lhs; cbv
 rw [own_PacketInFlight]
 conv => lhs; cbv
 try rfl
theorem eLtoConsumer (F : Fns) (fLtoName : HLtoName (F 102)) (fLtoData : HLtoData (F 103)) : HLtoConsumer (EvF F Tryz.f66 (fun _ => [])) := by
 intro a0
 unfold EvF
 obtain ⟨p, hp⟩ := gn prims
 obtain ⟨m_byte, hm_byte⟩ := gn (List.map eY)
 obtain ⟨m_string, hm_string⟩ := gn (List.map eS)
 rw [← hp, ← hm_byte, ← hm_string]
 obtain ⟨_, _, _, _, _, _, _, _, _, _, _, _, _, _, _, p_len, _, _, _, _, _, _, _, _, _, _, p_full, _, _, p_own, p_opn, _⟩ := p
 have full_byte := full_gen eY
 have full_string := full_gen eS
 have own_byte := own_gen eY (fun _ => rfl)
 have own_string := own_gen eS (fun _ => rfl)
 simp only [HLtoName, HLtoData, ← hp, ← hm_byte, ← hm_string] at full_byte full_string own_byte own_string fLtoName fLtoData
 rw [sLtoConsumer]
 conv => lhs; cbv
 rw [fLtoName a0.name]
 refine cO (fun hx2 => ?_) ?_
 ·rw [hx2]; try rfl
 rintro r1 hx2
 rw [hx2]
 conv => lhs; cbv
 rw [fLtoData a0.data]
 refine cO (fun hx4 => ?_) ?_
 ·rw [hx4]; try rfl
 rintro r3 hx4
 rw [hx4]
 conv => lhs; cbv
 rw [if_pos (full_string _)]
 conv => lhs; cbv
 rw [own_string]
 conv => lhs; cbv
 rw [if_pos (full_string _)]
 conv => lhs; cbv
 rw [own_string]
 conv => lhs; cbv
 rw [if_pos (full_byte _)]
 conv => lhs; cbv
 rw [own_byte]
 conv => lhs; cbv
 rw [if_pos (full_string _)]
 conv => lhs; cbv
 rw [own_string]
 conv => lhs; cbv
 try rfl
theorem eLtoConsumerS (F : Fns) (fLtoConsumer : HLtoConsumer (F 66)) : HLtoConsumerS (EvF F Tryz.f27 (fun id => if id = 3 then [0, 3, 4] else [])) := by
 intro a0
 unfold EvF
 obtain ⟨p, hp⟩ := gn prims
 obtain ⟨m_Consumer, hm_Consumer⟩ := gn (List.map eConsumer)
 obtain ⟨m_byte, hm_byte⟩ := gn (List.map eY)
 obtain ⟨m_string, hm_string⟩ := gn (List.map eS)
 rw [← hp, ← hm_Consumer]
 obtain ⟨p_arith, p_cmp, _, _, _, _, _, _, _, _, _, _, _, _, _, p_len, p_int, p_nth, _, _, p_ridx, p_rnth, p_rset, _, _, _, p_full, _, _, p_own, p_opn, _, _, _, _, _, _, _, p_mkN, p_rep, _⟩ := p
 have full_Consumer := full_gen eConsumer
 have full_byte := full_gen eY
 have full_string := full_gen eS
 have lset_Consumer := lset_gen eConsumer
 have mkn_Consumer := @mknF_Consumer
 have nth_Consumer := @nthF_Consumer
 have own_Consumer := own_gen eConsumer (fun _ => rfl)
 have own_byte := own_gen eY (fun _ => rfl)
 have own_string := own_gen eS (fun _ => rfl)
 have rep_Consumer := @repF_Consumer
 have rnth_Consumer := @rnthF_Consumer
 have rset_Consumer := @rsetF_Consumer
 simp only [HLtoConsumer, ← hp, ← hm_Consumer, ← hm_byte, ← hm_string] at full_Consumer full_byte full_string lset_Consumer mkn_Consumer nth_Consumer own_Consumer own_byte own_string rep_Consumer rnth_Consumer rset_Consumer fLtoConsumer
 generalize hal : alp = al
 rw [sLtoConsumerS, ← hp, ← hm_Consumer]
 dsimp only
 conv => lhs; cbv
 rw [mkn_Consumer]
 refine cO (fun hx2 => ?_) ?_
 ·rw [hx2]; try rfl
 rintro x1 hx2
 rw [hx2]
 conv => lhs; cbv
 rw [rep_Consumer _ _ _ hx2]
 conv => lhs; cbv
 refine (loop_al hal (fun x => match x with | (v3, v4) => ⟨[.c (.rd true 75 11 (m_Consumer a0)), dd, dd, .c (.row (0, 0, 0) 75 11 0 (p_len (m_Consumer v4))), .c (.at (.int .i64 v3)), dd, dd, dd, dd, dd, dd, dd, dd, dd, dd, dd, dd, dd, dd, dd, dd, dd, dd], [((0, 0, 0), ⟨true, false, 75, 11, p_opn (m_Consumer v4)⟩)], 1⟩) (sLtoConsumerS_l1 a0) (fun K g => match g with | (v3, v4) => K (.exit 0) ⟨[.c (.rd true 75 11 (m_Consumer a0)), dd, dd, .c (.row (0, 0, 0) 75 11 0 (p_len (m_Consumer v4))), .c (.at (.int .i64 v3)), dd, dd, dd, .c (.at (.int .i64 v3)), .c (.rd true 75 11 (m_Consumer a0)), .c (.at (.int .i64 (p_int (p_len (m_Consumer a0))))), .c (.at (.bool false)), dd, dd, dd, dd, dd, dd, dd, dd, dd, dd, dd], [((0, 0, 0), ⟨true, false, 75, 11, p_opn (m_Consumer v4)⟩)], 2⟩) ?_ (0, x1) _ (rfl)).trans (cL ?_)
 ·rintro K1 hr1 ⟨v3, v4⟩ R1
  rw [sLtoConsumerS_l1, ← hp, ← hm_Consumer]
  dsimp only
  conv => lhs; cbv
  refine cD (fun hb5 => ?_) fun hb5 => ?_
  ·rw [hb5]
   conv => lhs; cbv
   try rfl
  rw [hb5]
  conv => lhs; cbv
  rw [nth_Consumer]
  refine cO (fun hx7 => ?_) ?_
  ·rw [hx7]; try rfl
  rintro x6 hx7
  rw [hx7]
  conv => lhs; cbv
  rw [fLtoConsumer x6]
  refine cO (fun hx9 => ?_) ?_
  ·rw [hx9]; try rfl
  rintro r8 hx9
  rw [hx9]
  conv => lhs; cbv
  refine cO (fun hx11 => ?_) ?_
  ·rw [hx11]; try rfl
  rintro x10 hx11
  rw [hx11]
  conv => lhs; cbv
  rw [rnth_Consumer]
  refine cO (fun hx13 => ?_) ?_
  ·rw [hx13]; try rfl
  rintro x12 hx13
  rw [hx13]
  conv => lhs; cbv
  rw [if_pos (full_string _)]
  conv => lhs; cbv
  rw [own_string]
  conv => lhs; cbv
  rw [if_pos (full_string _)]
  conv => lhs; cbv
  rw [own_string]
  conv => lhs; cbv
  rw [if_pos (full_byte _)]
  conv => lhs; cbv
  rw [own_byte]
  conv => lhs; cbv
  rw [if_pos (full_string _)]
  conv => lhs; cbv
  rw [own_string]
  conv => lhs; cbv
  rw [rset_Consumer]
  try conv => lhs; rw [← lset_Consumer v4 x10 r8]
  conv => lhs; cbv
  try rfl
 rintro ⟨w14, w15⟩
 conv => lhs; cbv
 rw [if_pos (full_Consumer _)]
 conv => lhs; cbv
 rw [own_Consumer]
 conv => lhs; cbv
 try rfl
theorem eLtoNetwork (F : Fns) (fLtoTopology : HLtoTopology (F 21)) (fLtoTrustPolicy : HLtoTrustPolicy (F 22)) (fLtoTableEntryS : HLtoTableEntryS (F 23)) (fLtoNodeS : HLtoNodeS (F 24)) (fLtoIntS : HLtoIntS (F 25)) (fLtoPacketInFlightS : HLtoPacketInFlightS (F 26)) (fLtoConsumerS : HLtoConsumerS (F 27)) : HLtoNetwork (EvF F Tryz.f6 (fun _ => [])) := by
 intro a0
 unfold EvF
 obtain ⟨p, hp⟩ := gn prims
 obtain ⟨m_Consumer, hm_Consumer⟩ := gn (List.map eConsumer)
 obtain ⟨m_Data, hm_Data⟩ := gn (List.map eData)
 obtain ⟨m_Key, hm_Key⟩ := gn (List.map eKey)
 obtain ⟨m_Link, hm_Link⟩ := gn (List.map eLink)
 obtain ⟨m_Name, hm_Name⟩ := gn (List.map eName)
 obtain ⟨m_Node, hm_Node⟩ := gn (List.map eNode)
 obtain ⟨m_PacketInFlight, hm_PacketInFlight⟩ := gn (List.map ePacketInFlight)
 obtain ⟨m_Rule, hm_Rule⟩ := gn (List.map eRule)
 obtain ⟨m_TableEntry, hm_TableEntry⟩ := gn (List.map eTableEntry)
 obtain ⟨m_int, hm_int⟩ := gn (List.map eI)
 rw [← hp, ← hm_Consumer, ← hm_Data, ← hm_Key, ← hm_Link, ← hm_Name, ← hm_Node, ← hm_PacketInFlight, ← hm_Rule, ← hm_TableEntry, ← hm_int]
 obtain ⟨_, _, _, _, _, _, _, _, _, _, _, _, _, _, _, p_len, _, _, _, _, _, _, _, _, _, _, p_full, _, _, p_own, p_opn, _⟩ := p
 have full_Consumer := full_gen eConsumer
 have full_Data := full_gen eData
 have full_Key := full_gen eKey
 have full_Link := full_gen eLink
 have full_Name := full_gen eName
 have full_Node := full_gen eNode
 have full_PacketInFlight := full_gen ePacketInFlight
 have full_Rule := full_gen eRule
 have full_TableEntry := full_gen eTableEntry
 have full_int := full_gen eI
 have own_Consumer := own_gen eConsumer (fun _ => rfl)
 have own_Data := own_gen eData (fun _ => rfl)
 have own_Key := own_gen eKey (fun _ => rfl)
 have own_Link := own_gen eLink (fun _ => rfl)
 have own_Name := own_gen eName (fun _ => rfl)
 have own_Node := own_gen eNode (fun _ => rfl)
 have own_PacketInFlight := own_gen ePacketInFlight (fun _ => rfl)
 have own_Rule := own_gen eRule (fun _ => rfl)
 have own_TableEntry := own_gen eTableEntry (fun _ => rfl)
 have own_int := own_gen eI (fun _ => rfl)
 simp only [HLtoTopology, HLtoTrustPolicy, HLtoTableEntryS, HLtoNodeS, HLtoIntS, HLtoPacketInFlightS, HLtoConsumerS, ← hp, ← hm_Consumer, ← hm_Data, ← hm_Key, ← hm_Link, ← hm_Name, ← hm_Node, ← hm_PacketInFlight, ← hm_Rule, ← hm_TableEntry, ← hm_int] at full_Consumer full_Data full_Key full_Link full_Name full_Node full_PacketInFlight full_Rule full_TableEntry full_int own_Consumer own_Data own_Key own_Link own_Name own_Node own_PacketInFlight own_Rule own_TableEntry own_int fLtoTopology fLtoTrustPolicy fLtoTableEntryS fLtoNodeS fLtoIntS fLtoPacketInFlightS fLtoConsumerS
 rw [sLtoNetwork]
 conv => lhs; cbv
 rw [fLtoTopology a0.topology]
 refine cO (fun hx2 => ?_) ?_
 ·rw [hx2]; try rfl
 rintro r1 hx2
 rw [hx2]
 conv => lhs; cbv
 rw [fLtoTrustPolicy a0.trust]
 refine cO (fun hx4 => ?_) ?_
 ·rw [hx4]; try rfl
 rintro r3 hx4
 rw [hx4]
 conv => lhs; cbv
 rw [fLtoTableEntryS a0.producers]
 refine cO (fun hx6 => ?_) ?_
 ·rw [hx6]; try rfl
 rintro r5 hx6
 rw [hx6]
 conv => lhs; cbv
 rw [fLtoNodeS a0.nodes]
 refine cO (fun hx8 => ?_) ?_
 ·rw [hx8]; try rfl
 rintro r7 hx8
 rw [hx8]
 conv => lhs; cbv
 rw [fLtoIntS a0.failedLinks]
 refine cO (fun hx10 => ?_) ?_
 ·rw [hx10]; try rfl
 rintro r9 hx10
 rw [hx10]
 conv => lhs; cbv
 rw [fLtoPacketInFlightS a0.inFlight]
 refine cO (fun hx12 => ?_) ?_
 ·rw [hx12]; try rfl
 rintro r11 hx12
 rw [hx12]
 conv => lhs; cbv
 rw [fLtoConsumerS a0.consumers]
 refine cO (fun hx14 => ?_) ?_
 ·rw [hx14]; try rfl
 rintro r13 hx14
 rw [hx14]
 conv => lhs; cbv
 rw [if_pos (full_Link _)]
 conv => lhs; cbv
 rw [own_Link]
 conv => lhs; cbv
 rw [if_pos (full_Key _)]
 conv => lhs; cbv
 rw [own_Key]
 conv => lhs; cbv
 rw [if_pos (full_Rule _)]
 conv => lhs; cbv
 rw [own_Rule]
 conv => lhs; cbv
 rw [if_pos (full_Name _)]
 conv => lhs; cbv
 rw [own_Name]
 conv => lhs; cbv
 rw [if_pos (full_Data _)]
 conv => lhs; cbv
 rw [own_Data]
 conv => lhs; cbv
 rw [if_pos (full_TableEntry _)]
 conv => lhs; cbv
 rw [own_TableEntry]
 conv => lhs; cbv
 rw [if_pos (full_Node _)]
 conv => lhs; cbv
 rw [own_Node]
 conv => lhs; cbv
 rw [if_pos (full_int _)]
 conv => lhs; cbv
 rw [own_int]
 conv => lhs; cbv
 rw [if_pos (full_PacketInFlight _)]
 conv => lhs; cbv
 rw [own_PacketInFlight]
 conv => lhs; cbv
 rw [if_pos (full_Consumer _)]
 conv => lhs; cbv
 rw [own_Consumer]
 conv => lhs; cbv
 try rfl
theorem eSl4Copy (F : Fns) : HSl4Copy (EvF F Tryz.f57 (fun _ => [])) := by
 intro a0
 unfold EvF
 obtain ⟨p, hp⟩ := gn prims
 obtain ⟨m_string, hm_string⟩ := gn (List.map eS)
 rw [← hp, ← hm_string]
 obtain ⟨_, _, _, _, _, _, _, _, _, _, _, _, _, _, _, p_len, _, _, _, _, _, _, _, p_rapp, p_rlen, p_addN, p_full, p_fits, _, p_own, p_opn, p_lend, _⟩ := p
 have addn0_string := @addn0F_string
 have full_string := full_gen eS
 have lend_string := @lendF_string
 have own_string := own_gen eS (fun _ => rfl)
 have rapp0_string := @rapp0F_string
 simp only [← hp, ← hm_string] at addn0_string full_string lend_string own_string rapp0_string
 rw [sSl4Copy, ← hp, ← hm_string]
 dsimp only
 conv => lhs; cbv
 rw [lend_string]
 conv => lhs; cbv
 refine cD (fun hb1 => ?_) fun hb1 => ?_
 ·rw [if_neg (fun x => Bool.noConfusion (hb1.symm.trans x.1))]; try rfl
 rw [if_pos ⟨hb1, trivial⟩]
 conv => lhs; cbv
 rw [rapp0_string, addn0_string]
 conv => lhs; cbv
 rw [if_pos (full_string _)]
 conv => lhs; cbv
 rw [own_string]
 conv => lhs; cbv
 try rfl
theorem eSl8Copy (F : Fns) (fSl4Copy : HSl4Copy (F 57)) : HSl8Copy (EvF F Tryz.f20 (fun _ => [])) := by
 intro a0
 unfold EvF
 obtain ⟨p, hp⟩ := gn prims
 obtain ⟨m_byte, hm_byte⟩ := gn (List.map eY)
 obtain ⟨m_string, hm_string⟩ := gn (List.map eS)
 rw [← hp, ← hm_byte, ← hm_string]
 obtain ⟨_, _, _, _, _, _, _, _, _, _, _, _, _, _, _, p_len, _, _, _, _, _, _, _, p_rapp, p_rlen, p_addN, p_full, p_fits, _, p_own, p_opn, p_lend, _⟩ := p
 have addn0_byte := @addn0F_byte
 have full_byte := full_gen eY
 have full_string := full_gen eS
 have lend_byte := @lendF_byte
 have own_byte := own_gen eY (fun _ => rfl)
 have own_string := own_gen eS (fun _ => rfl)
 have rapp0_byte := @rapp0F_byte
 simp only [HSl4Copy, ← hp, ← hm_byte, ← hm_string] at addn0_byte full_byte full_string lend_byte own_byte own_string rapp0_byte fSl4Copy
 rw [sSl8Copy, ← hp, ← hm_byte]
 dsimp only
 conv => lhs; cbv
 rw [fSl4Copy a0.name]
 refine cO (fun hx2 => ?_) ?_
 ·rw [hx2]; try rfl
 rintro r1 hx2
 rw [hx2]
 conv => lhs; cbv
 rw [lend_byte]
 conv => lhs; cbv
 refine cD (fun hb3 => ?_) fun hb3 => ?_
 ·rw [if_neg (fun x => Bool.noConfusion (hb3.symm.trans x.1))]; try rfl
 rw [if_pos ⟨hb3, trivial⟩]
 conv => lhs; cbv
 rw [rapp0_byte, addn0_byte]
 conv => lhs; cbv
 rw [fSl4Copy a0.keyName]
 refine cO (fun hx5 => ?_) ?_
 ·rw [hx5]; try rfl
 rintro r4 hx5
 rw [hx5]
 conv => lhs; cbv
 rw [if_pos (full_string _)]
 conv => lhs; cbv
 rw [own_string]
 conv => lhs; cbv
 rw [if_pos (full_byte _)]
 conv => lhs; cbv
 rw [own_byte]
 conv => lhs; cbv
 rw [if_pos (full_string _)]
 conv => lhs; cbv
 rw [own_string]
 conv => lhs; cbv
 try rfl
theorem eSReceivedData (F : Fns) (fSl8Copy : HSl8Copy (F 20)) : HSReceivedData (EvF F Tryz.f5 (fun id => if id = 3 then [1, 3, 4] else [])) := by
 intro a0
 unfold EvF
 obtain ⟨p, hp⟩ := gn prims
 obtain ⟨m_Consumer, hm_Consumer⟩ := gn (List.map eConsumer)
 obtain ⟨m_Data, hm_Data⟩ := gn (List.map eData)
 obtain ⟨m_Key, hm_Key⟩ := gn (List.map eKey)
 obtain ⟨m_Link, hm_Link⟩ := gn (List.map eLink)
 obtain ⟨m_Name, hm_Name⟩ := gn (List.map eName)
 obtain ⟨m_Node, hm_Node⟩ := gn (List.map eNode)
 obtain ⟨m_PacketInFlight, hm_PacketInFlight⟩ := gn (List.map ePacketInFlight)
 obtain ⟨m_Rule, hm_Rule⟩ := gn (List.map eRule)
 obtain ⟨m_TableEntry, hm_TableEntry⟩ := gn (List.map eTableEntry)
 obtain ⟨m_byte, hm_byte⟩ := gn (List.map eY)
 obtain ⟨m_int, hm_int⟩ := gn (List.map eI)
 obtain ⟨m_string, hm_string⟩ := gn (List.map eS)
 rw [← hp, ← hm_Consumer, ← hm_Data, ← hm_Key, ← hm_Link, ← hm_Name, ← hm_Node, ← hm_PacketInFlight, ← hm_Rule, ← hm_TableEntry, ← hm_int]
 obtain ⟨p_arith, p_cmp, _, _, _, _, _, _, _, _, _, _, _, _, _, p_len, p_int, p_nth, _, _, _, _, _, p_rapp, p_rlen, p_addN, p_full, p_fits, _, p_own, p_opn, _⟩ := p
 have addn_Data := addn_gen eData
 have full_Data := full_gen eData
 have full_byte := full_gen eY
 have full_string := full_gen eS
 have len0_Data := @len0F_Data
 have lit_Data := @litF_Data
 have nth_Consumer := @nthF_Consumer
 have opn0_Data := @opn0F_Data
 have own_Data := own_gen eData (fun _ => rfl)
 have own_byte := own_gen eY (fun _ => rfl)
 have own_string := own_gen eS (fun _ => rfl)
 have rapp_Data := rapp_gen eData
 simp only [HSl8Copy, ← hp, ← hm_Data, ← hm_byte, ← hm_string, ← hm_Consumer] at addn_Data full_Data full_byte full_string len0_Data lit_Data nth_Consumer opn0_Data own_Data own_byte own_string rapp_Data fSl8Copy
 generalize hal : alp = al
 rw [sSReceivedData]
 conv => lhs; cbv
 refine (loop_al hal (fun x => match x with | (v1, v2) => ⟨[dd, .c (.ptr (0, 0, 0) 14 0 0), dd, .c (.row (0, 0, 1) 73 5 0 (p_len (m_Data v2))), .c (.at (.int .i64 v1)), dd, dd, dd, dd, dd, dd, dd, dd, dd, dd, dd, dd, dd, dd, dd, dd, dd, dd, dd, dd, dd, dd, dd, dd, dd, dd, dd], [((0, 0, 0), ⟨false, true, 54, 14, [[.at (.int .i64 a0.topology.size), .rd true 191 2 (m_Link a0.topology.links), .rd true 195 2 (m_Key a0.trust.keys), .rd true 199 2 (m_Rule a0.trust.rules), .rd true 70 1 (m_Name a0.trust.anchors), .rd true 73 5 (m_Data a0.trust.certificates), .rd true 136 2 (m_TableEntry a0.producers), .rd true 146 8 (m_Node a0.nodes), .at (.int .i64 a0.downNodes), .rd true 3 1 (m_int a0.failedLinks), .rd true 151 12 (m_PacketInFlight a0.inFlight), .rd true 75 11 (m_Consumer a0.consumers), .at (.int .i64 a0.now), .at (.int .i64 a0.dropped)]]⟩), ((0, 0, 1), ⟨true, false, 73, 5, p_opn (m_Data v2)⟩)], 1⟩) (sSReceivedData_l1 a0) (fun K g => match g with | (v1, v2) => K (.exit 0) ⟨[dd, .c (.ptr (0, 0, 0) 14 0 0), dd, .c (.row (0, 0, 1) 73 5 0 (p_len (m_Data v2))), .c (.at (.int .i64 v1)), dd, dd, .c (.at (.int .i64 v1)), .c (.ptr (0, 0, 0) 14 0 11), .c (.rd true 75 11 (m_Consumer a0.consumers)), .c (.at (.int .i64 (p_int (p_len (m_Consumer a0.consumers))))), .c (.at (.bool false)), dd, dd, dd, dd, dd, dd, dd, dd, dd, dd, dd, dd, dd, dd, dd, dd, dd, dd, dd, dd], [((0, 0, 0), ⟨false, true, 54, 14, [[.at (.int .i64 a0.topology.size), .rd true 191 2 (m_Link a0.topology.links), .rd true 195 2 (m_Key a0.trust.keys), .rd true 199 2 (m_Rule a0.trust.rules), .rd true 70 1 (m_Name a0.trust.anchors), .rd true 73 5 (m_Data a0.trust.certificates), .rd true 136 2 (m_TableEntry a0.producers), .rd true 146 8 (m_Node a0.nodes), .at (.int .i64 a0.downNodes), .rd true 3 1 (m_int a0.failedLinks), .rd true 151 12 (m_PacketInFlight a0.inFlight), .rd true 75 11 (m_Consumer a0.consumers), .at (.int .i64 a0.now), .at (.int .i64 a0.dropped)]]⟩), ((0, 0, 1), ⟨true, false, 73, 5, p_opn (m_Data v2)⟩)], 2⟩) ?_ (0, []) _ (by simp only [opn0_Data, len0_Data]; rfl)).trans (cL ?_)
 ·rintro K1 hr1 ⟨v1, v2⟩ R1
  rw [sSReceivedData_l1, ← hp, ← hm_Consumer, ← hm_Data]
  dsimp only
  conv => lhs; cbv
  refine cD (fun hb3 => ?_) fun hb3 => ?_
  ·rw [hb3]
   conv => lhs; cbv
   try rfl
  rw [hb3]
  conv => lhs; cbv
  rw [nth_Consumer]
  refine cO (fun hx5 => ?_) ?_
  ·rw [hx5]; try rfl
  rintro x4 hx5
  rw [hx5]
  conv => lhs; cbv
  refine cD (fun hb6 => ?_) fun hb6 => ?_
  ·have hbp := hb6
   conv at hbp => lhs; cbv
   first | rw [hbp] | rw [if_neg (Bool.eq_false_iff.1 hb6)] | rw [hb6] | simp only [hb6]
   conv => lhs; cbv
   try rfl
  have hbp := hb6
  conv at hbp => lhs; cbv
  first | rw [hbp] | rw [if_pos hb6] | rw [hb6] | simp only [hb6]
  conv => lhs; cbv
  rw [nth_Consumer]
  rw [hx5]
  conv => lhs; cbv
  rw [fSl8Copy x4.data]
  refine cO (fun hx9 => ?_) ?_
  ·rw [hx9]; try rfl
  rintro r8 hx9
  rw [hx9]
  conv => lhs; cbv
  rw [if_pos (full_string _)]
  conv => lhs; cbv
  rw [own_string]
  conv => lhs; cbv
  rw [if_pos (full_byte _)]
  conv => lhs; cbv
  rw [own_byte]
  conv => lhs; cbv
  rw [if_pos (full_string _)]
  conv => lhs; cbv
  rw [own_string]
  conv => lhs; cbv
  rw [lit_Data]
  refine cD (fun hb10 => ?_) fun hb10 => ?_
  ·rw [if_neg (fun x => Bool.noConfusion (hb10.symm.trans x.2.1))]; try rfl
  rw [if_pos ⟨full_Data _, hb10, trivial⟩]
  conv => lhs; cbv
  rw [rapp_Data, addn_Data]
  conv => lhs; cbv
  try rfl
 rintro ⟨w11, w12⟩
 conv => lhs; cbv
 rw [if_pos (full_Data _)]
 conv => lhs; cbv
 rw [own_Data]
 conv => lhs; cbv
 try rfl
theorem eCClone_string (F : Fns) : HCClone_string (EvF F Tryz.f110 (fun _ => [])) := by
 intro a0
 unfold EvF
 obtain ⟨p, hp⟩ := gn prims
 obtain ⟨m_string, hm_string⟩ := gn (List.map eS)
 rw [← hp, ← hm_string]
 obtain ⟨_, _, _, _, _, _, _, _, _, _, _, _, _, _, _, p_len, _, _, _, _, _, _, _, p_rapp, p_rlen, p_addN, p_full, p_fits, _, p_own, p_opn, p_lend, _, _, p_both, _⟩ := p
 have h_both : @p_both = @Prims.both prims := congrArg (fun q : Prims => @Prims.both q) hp
 have addn0_string := @addn0F_string
 have fits0_string := @fits0F_string
 have full_string := full_gen eS
 have lend_string := @lendF_string
 have leni_string := @leniF_string
 have nild_string := @nildF_string
 have own_string := own_gen eS (fun _ => rfl)
 have rapp0_string := @rapp0F_string
 simp only [← hp, ← hm_string] at addn0_string fits0_string full_string lend_string nild_string own_string rapp0_string
 simp only [← hp, ← hm_string] at leni_string
 rw [sCClone_string, ← hp, ← hm_string]
 dsimp only
 conv => lhs; cbv
 rw [h_both]
 refine bothO_eq ?_ (fun h0 => ?_)
 ·conv => lhs; cbv
  rw [lend_string]
  conv => lhs; cbv
  refine cD (fun hb1 => ?_) fun hb1 => ?_
  ·rw [if_neg (fun x => Bool.noConfusion (hb1.symm.trans x.1))]; try rfl
  rw [if_pos ⟨hb1, trivial⟩]
  conv => lhs; cbv
  rw [rapp0_string, addn0_string]
  conv => lhs; cbv
  rw [if_pos (full_string _)]
  conv => lhs; cbv
  rw [own_string]
  conv => lhs; cbv
  try rfl
 ·obtain rfl := leni_string _ h0
  rw [fits0_string]
  simp only [cond_true, Option.bind_some, nild_string]
theorem eIcopyName (F : Fns) (fCClone_string : HCClone_string (F 110)) : HIcopyName (EvF F Tryz.f67 (fun _ => [])) := by
 intro a0
 unfold EvF
 obtain ⟨p, hp⟩ := gn prims
 obtain ⟨m_string, hm_string⟩ := gn (List.map eS)
 rw [← hp, ← hm_string]
 obtain ⟨_, _, _, _, _, _, _, _, _, _, _, _, _, _, _, p_len, _, _, _, _, _, _, _, _, _, _, p_full, _, _, p_own, p_opn, _⟩ := p
 have full_string := full_gen eS
 have own_string := own_gen eS (fun _ => rfl)
 simp only [HCClone_string, ← hp, ← hm_string] at full_string own_string fCClone_string
 rw [sIcopyName]
 conv => lhs; cbv
 rw [fCClone_string a0]
 refine cO (fun hx2 => ?_) ?_
 ·rw [hx2]; try rfl
 rintro r1 hx2
 rw [hx2]
 conv => lhs; cbv
 rw [if_pos (full_string _)]
 conv => lhs; cbv
 rw [own_string]
 conv => lhs; cbv
 try rfl
theorem eCClone_byte (F : Fns) : HCClone_byte (EvF F Tryz.f68 (fun _ => [])) := by
 intro a0
 unfold EvF
 obtain ⟨p, hp⟩ := gn prims
 obtain ⟨m_byte, hm_byte⟩ := gn (List.map eY)
 rw [← hp, ← hm_byte]
 obtain ⟨_, _, _, _, _, _, _, _, _, _, _, _, _, _, _, p_len, _, _, _, _, _, _, _, p_rapp, p_rlen, p_addN, p_full, p_fits, _, p_own, p_opn, p_lend, _, _, p_both, _⟩ := p
 have h_both : @p_both = @Prims.both prims := congrArg (fun q : Prims => @Prims.both q) hp
 have addn0_byte := @addn0F_byte
 have fits0_byte := @fits0F_byte
 have full_byte := full_gen eY
 have lend_byte := @lendF_byte
 have leni_byte := @leniF_byte
 have nild_byte := @nildF_byte
 have own_byte := own_gen eY (fun _ => rfl)
 have rapp0_byte := @rapp0F_byte
 simp only [← hp, ← hm_byte] at addn0_byte fits0_byte full_byte lend_byte nild_byte own_byte rapp0_byte
 simp only [← hp, ← hm_byte] at leni_byte
 rw [sCClone_byte, ← hp, ← hm_byte]
 dsimp only
 conv => lhs; cbv
 rw [h_both]
 refine bothO_eq ?_ (fun h0 => ?_)
 ·conv => lhs; cbv
  rw [lend_byte]
  conv => lhs; cbv
  refine cD (fun hb1 => ?_) fun hb1 => ?_
  ·rw [if_neg (fun x => Bool.noConfusion (hb1.symm.trans x.1))]; try rfl
  rw [if_pos ⟨hb1, trivial⟩]
  conv => lhs; cbv
  rw [rapp0_byte, addn0_byte]
  conv => lhs; cbv
  rw [if_pos (full_byte _)]
  conv => lhs; cbv
  rw [own_byte]
  conv => lhs; cbv
  try rfl
 ·obtain rfl := leni_byte _ h0
  rw [fits0_byte]
  simp only [cond_true, Option.bind_some, nild_byte]
theorem eIcopyData (F : Fns) (fIcopyName : HIcopyName (F 67)) (fCClone_byte : HCClone_byte (F 68)) : HIcopyData (EvF F Tryz.f28 (fun _ => [])) := by
 intro a0
 unfold EvF
 obtain ⟨p, hp⟩ := gn prims
 obtain ⟨m_byte, hm_byte⟩ := gn (List.map eY)
 obtain ⟨m_string, hm_string⟩ := gn (List.map eS)
 rw [← hp, ← hm_byte, ← hm_string]
 obtain ⟨_, _, _, _, _, _, _, _, _, _, _, _, _, _, _, p_len, _, _, _, _, _, _, _, _, _, _, p_full, _, _, p_own, p_opn, _⟩ := p
 have full_byte := full_gen eY
 have full_string := full_gen eS
 have own_byte := own_gen eY (fun _ => rfl)
 have own_string := own_gen eS (fun _ => rfl)
 simp only [HIcopyName, HCClone_byte, ← hp, ← hm_byte, ← hm_string] at full_byte full_string own_byte own_string fIcopyName fCClone_byte
 rw [sIcopyData]
 conv => lhs; cbv
 rw [fIcopyName a0.name]
 refine cO (fun hx2 => ?_) ?_
 ·rw [hx2]; try rfl
 rintro r1 hx2
 rw [hx2]
 conv => lhs; cbv
 rw [fCClone_byte a0.content]
 refine cO (fun hx4 => ?_) ?_
 ·rw [hx4]; try rfl
 rintro r3 hx4
 rw [hx4]
 conv => lhs; cbv
 rw [fIcopyName a0.keyName]
 refine cO (fun hx6 => ?_) ?_
 ·rw [hx6]; try rfl
 rintro r5 hx6
 rw [hx6]
 conv => lhs; cbv
 rw [if_pos (full_string _)]
 conv => lhs; cbv
 rw [own_string]
 conv => lhs; cbv
 rw [if_pos (full_byte _)]
 conv => lhs; cbv
 rw [own_byte]
 conv => lhs; cbv
 rw [if_pos (full_string _)]
 conv => lhs; cbv
 rw [own_string]
 conv => lhs; cbv
 try rfl
theorem eIReceivedData (F : Fns) (fIcopyData : HIcopyData (F 28)) : HIReceivedData (EvF F Tryz.f7 (fun id => if id = 3 then [3, 8, 9, 10] else [])) := by
 intro a0
 unfold EvF
 obtain ⟨p, hp⟩ := gn prims
 obtain ⟨m_Consumer, hm_Consumer⟩ := gn (List.map eConsumer)
 obtain ⟨m_Data, hm_Data⟩ := gn (List.map eData)
 obtain ⟨m_Key, hm_Key⟩ := gn (List.map eKey)
 obtain ⟨m_Link, hm_Link⟩ := gn (List.map eLink)
 obtain ⟨m_Name, hm_Name⟩ := gn (List.map eName)
 obtain ⟨m_Node, hm_Node⟩ := gn (List.map eNode)
 obtain ⟨m_PacketInFlight, hm_PacketInFlight⟩ := gn (List.map ePacketInFlight)
 obtain ⟨m_Rule, hm_Rule⟩ := gn (List.map eRule)
 obtain ⟨m_TableEntry, hm_TableEntry⟩ := gn (List.map eTableEntry)
 obtain ⟨m_byte, hm_byte⟩ := gn (List.map eY)
 obtain ⟨m_int, hm_int⟩ := gn (List.map eI)
 obtain ⟨m_string, hm_string⟩ := gn (List.map eS)
 rw [← hp, ← hm_Consumer, ← hm_Data, ← hm_Key, ← hm_Link, ← hm_Name, ← hm_Node, ← hm_PacketInFlight, ← hm_Rule, ← hm_TableEntry, ← hm_int]
 obtain ⟨p_arith, p_cmp, _, _, _, _, _, _, _, _, _, _, _, _, _, p_len, p_int, p_nth, _, _, _, _, _, p_rapp, p_rlen, p_addN, p_full, p_fits, _, p_own, p_opn, _⟩ := p
 have addn_Data := addn_gen eData
 have full_Data := full_gen eData
 have full_byte := full_gen eY
 have full_string := full_gen eS
 have len0_Data := @len0F_Data
 have lit_Data := @litF_Data
 have nth_Consumer := @nthF_Consumer
 have opn0_Data := @opn0F_Data
 have own_Data := own_gen eData (fun _ => rfl)
 have own_byte := own_gen eY (fun _ => rfl)
 have own_string := own_gen eS (fun _ => rfl)
 have rapp_Data := rapp_gen eData
 simp only [HIcopyData, ← hp, ← hm_Data, ← hm_byte, ← hm_string, ← hm_Consumer] at addn_Data full_Data full_byte full_string len0_Data lit_Data nth_Consumer opn0_Data own_Data own_byte own_string rapp_Data fIcopyData
 generalize hal : alp = al
 rw [sIReceivedData]
 conv => lhs; cbv
 refine (loop_al hal (fun x => match x with | (v1, v2) => ⟨[dd, dd, dd, .c (.row (0, 0, 0) 73 5 0 (p_len (m_Data v2))), dd, dd, dd, dd, .c (.rd true 75 11 (m_Consumer a0.consumers)), .c (.at (.int .i64 (p_int (p_len (m_Consumer a0.consumers))))), .c (.at (.int .i64 v1)), dd, dd, dd, dd, dd, dd, dd, dd, dd, dd, dd, dd, dd], [((0, 0, 0), ⟨true, false, 73, 5, p_opn (m_Data v2)⟩)], 1⟩) (sIReceivedData_l1 a0) (fun K g => match g with | (v1, v2) => K (.exit 0) ⟨[dd, dd, dd, .c (.row (0, 0, 0) 73 5 0 (p_len (m_Data v2))), dd, dd, dd, dd, .c (.rd true 75 11 (m_Consumer a0.consumers)), .c (.at (.int .i64 (p_int (p_len (m_Consumer a0.consumers))))), .c (.at (.int .i64 v1)), .c (.at (.bool false)), dd, dd, dd, dd, dd, dd, dd, dd, dd, dd, dd, dd], [((0, 0, 0), ⟨true, false, 73, 5, p_opn (m_Data v2)⟩)], 2⟩) ?_ (0, []) _ (by simp only [opn0_Data, len0_Data]; rfl)).trans (cL ?_)
 ·rintro K1 hr1 ⟨v1, v2⟩ R1
  rw [sIReceivedData_l1, ← hp, ← hm_Consumer, ← hm_Data]
  dsimp only
  conv => lhs; cbv
  refine cD (fun hb3 => ?_) fun hb3 => ?_
  ·rw [hb3]
   conv => lhs; cbv
   try rfl
  rw [hb3]
  conv => lhs; cbv
  rw [nth_Consumer]
  refine cO (fun hx5 => ?_) ?_
  ·rw [hx5]; try rfl
  rintro x4 hx5
  rw [hx5]
  conv => lhs; cbv
  refine cD (fun hb6 => ?_) fun hb6 => ?_
  ·have hbp := hb6
   conv at hbp => lhs; cbv
   first | rw [hbp] | rw [if_neg (Bool.eq_false_iff.1 hb6)] | rw [hb6] | simp only [hb6]
   conv => lhs; cbv
   try rfl
  have hbp := hb6
  conv at hbp => lhs; cbv
  first | rw [hbp] | rw [if_pos hb6] | rw [hb6] | simp only [hb6]
  conv => lhs; cbv
  rw [fIcopyData x4.data]
  refine cO (fun hx8 => ?_) ?_
  ·rw [hx8]; try rfl
  rintro r7 hx8
  rw [hx8]
  conv => lhs; cbv
  rw [if_pos (full_string _)]
  conv => lhs; cbv
  rw [own_string]
  conv => lhs; cbv
  rw [if_pos (full_byte _)]
  conv => lhs; cbv
  rw [own_byte]
  conv => lhs; cbv
  rw [if_pos (full_string _)]
  conv => lhs; cbv
  rw [own_string]
  conv => lhs; cbv
  rw [lit_Data]
  refine cD (fun hb9 => ?_) fun hb9 => ?_
  ·rw [if_neg (fun x => Bool.noConfusion (hb9.symm.trans x.2.1))]; try rfl
  rw [if_pos ⟨full_Data _, hb9, trivial⟩]
  conv => lhs; cbv
  rw [rapp_Data, addn_Data]
  conv => lhs; cbv
  try rfl
 rintro ⟨w10, w11⟩
 conv => lhs; cbv
 rw [if_pos (full_Data _)]
 conv => lhs; cbv
 rw [own_Data]
 conv => lhs; cbv
 try rfl
theorem eLeqStringS (F : Fns) : HLeqStringS (EvF F Tryz.f111 (fun id => if id = 4 then [0, 1, 5] else [])) := by
 intro a0 a1
 unfold EvF
 obtain ⟨p, hp⟩ := gn prims
 obtain ⟨m_string, hm_string⟩ := gn (List.map eS)
 rw [← hp, ← hm_string]
 obtain ⟨p_arith, p_cmp, _, p_scmp, _, _, _, _, _, _, _, _, _, _, _, p_len, p_int, p_nth, _⟩ := p
 have nth_string := @nthF_string
 simp only [← hp, ← hm_string] at nth_string
 generalize hal : alp = al
 rw [sLeqStringS, ← hp, ← hm_string]
 dsimp only
 conv => lhs; cbv
 refine cC (fun hb1 => ?_) fun hb1 => ?_
 ·rw [hb1]
  conv => lhs; cbv
  try rfl
 rw [hb1]
 conv => lhs; cbv
 refine (loop_al hal (fun v2 => ⟨[.c (.rd true 9 1 (m_string a0)), .c (.rd true 9 1 (m_string a1)), dd, dd, dd, .c (.at (.int .i64 v2)), dd, dd, dd, dd, dd, dd, dd, dd, dd, dd, dd, dd, dd, dd, dd, dd, dd, dd, dd, dd], [], 1⟩) (sLeqStringS_l1 a0 a1) (fun K g => match g with | .inl v2 => K (.exit 0) ⟨[.c (.rd true 9 1 (m_string a0)), .c (.rd true 9 1 (m_string a1)), dd, dd, dd, .c (.at (.int .i64 v2)), dd, dd, dd, dd, dd, .c (.at (.int .i64 v2)), .c (.rd true 9 1 (m_string a0)), .c (.at (.int .i64 (p_int (p_len (m_string a0))))), .c (.at (.bool false)), dd, dd, dd, dd, dd, dd, dd, dd, dd, dd, dd], [], 2⟩ | .inr (r) => some [.v (.at (.bool r))]) ?_ 0 _ (rfl)).trans (cL ?_)
 ·rintro K1 hr1 v2 R1
  rw [sLeqStringS_l1, ← hp, ← hm_string]
  dsimp only
  conv => lhs; cbv
  refine cD (fun hb3 => ?_) fun hb3 => ?_
  ·rw [hb3]
   conv => lhs; cbv
   try rfl
  rw [hb3]
  conv => lhs; cbv
  rw [nth_string]
  refine cO (fun hx5 => ?_) ?_
  ·rw [hx5]; try rfl
  rintro x4 hx5
  rw [hx5]
  conv => lhs; cbv
  rw [nth_string]
  refine cO (fun hx7 => ?_) ?_
  ·rw [hx7]; try rfl
  rintro x6 hx7
  rw [hx7]
  conv => lhs; cbv
  refine cD (fun hb8 => ?_) fun hb8 => ?_
  ·rw [hb8]
   conv => lhs; cbv
   try rfl
  rw [hb8]
  conv => lhs; cbv
  rw [hr1]
  conv => lhs; cbv
  try rfl
 rintro (w9 | w10)
 ·conv => lhs; cbv
  try rfl
 rfl
theorem eLeqName (F : Fns) (fLeqStringS : HLeqStringS (F 111)) : HLeqName (EvF F Tryz.f69 (fun _ => [])) := by
 intro a0 a1
 unfold EvF
 obtain ⟨p, hp⟩ := gn prims
 obtain ⟨m_string, hm_string⟩ := gn (List.map eS)
 rw [← hp, ← hm_string]
 obtain ⟨_, _, _, _, _, _, _, _, _, _, _, p_bnot, _⟩ := p
 simp only [HLeqStringS, ← hm_string] at fLeqStringS
 rw [sLeqName, ← hp]
 dsimp only
 conv => lhs; cbv
 rw [fLeqStringS a0 a1]
 refine cO (fun hx2 => ?_) ?_
 ·rw [hx2]; try rfl
 rintro r1 hx2
 rw [hx2]
 conv => lhs; cbv
 refine cC (fun hb3 => ?_) fun hb3 => ?_
 ·rw [hb3]
  conv => lhs; cbv
  try rfl
 rw [hb3]
 conv => lhs; cbv
 try rfl
theorem eLeqByteS (F : Fns) : HLeqByteS (EvF F Tryz.f70 (fun id => if id = 4 then [0, 1, 5] else [])) := by
 intro a0 a1
 unfold EvF
 obtain ⟨p, hp⟩ := gn prims
 obtain ⟨m_byte, hm_byte⟩ := gn (List.map eY)
 rw [← hp, ← hm_byte]
 obtain ⟨p_arith, p_cmp, _, _, _, _, _, _, _, _, _, _, _, _, _, p_len, p_int, p_nth, _, _, _, _, _, _, _, _, _, _, _, _, _, _, _, _, _, p_yI, _⟩ := p
 have nth_byte := @nthF_byte
 simp only [← hp, ← hm_byte] at nth_byte
 generalize hal : alp = al
 rw [sLeqByteS, ← hp, ← hm_byte]
 dsimp only
 conv => lhs; cbv
 refine cC (fun hb1 => ?_) fun hb1 => ?_
 ·rw [hb1]
  conv => lhs; cbv
  try rfl
 rw [hb1]
 conv => lhs; cbv
 refine (loop_al hal (fun v2 => ⟨[.c (.rd true 5 1 (m_byte a0)), .c (.rd true 5 1 (m_byte a1)), dd, dd, dd, .c (.at (.int .i64 v2)), dd, dd, dd, dd, dd, dd, dd, dd, dd, dd, dd, dd, dd, dd, dd, dd, dd, dd, dd, dd], [], 1⟩) (sLeqByteS_l1 a0 a1) (fun K g => match g with | .inl v2 => K (.exit 0) ⟨[.c (.rd true 5 1 (m_byte a0)), .c (.rd true 5 1 (m_byte a1)), dd, dd, dd, .c (.at (.int .i64 v2)), dd, dd, dd, dd, dd, .c (.at (.int .i64 v2)), .c (.rd true 5 1 (m_byte a0)), .c (.at (.int .i64 (p_int (p_len (m_byte a0))))), .c (.at (.bool false)), dd, dd, dd, dd, dd, dd, dd, dd, dd, dd, dd], [], 2⟩ | .inr (r) => some [.v (.at (.bool r))]) ?_ 0 _ (rfl)).trans (cL ?_)
 ·rintro K1 hr1 v2 R1
  rw [sLeqByteS_l1, ← hp, ← hm_byte]
  dsimp only
  conv => lhs; cbv
  refine cD (fun hb3 => ?_) fun hb3 => ?_
  ·rw [hb3]
   conv => lhs; cbv
   try rfl
  rw [hb3]
  conv => lhs; cbv
  rw [nth_byte]
  refine cO (fun hx5 => ?_) ?_
  ·rw [hx5]; try rfl
  rintro x4 hx5
  rw [hx5]
  conv => lhs; cbv
  rw [nth_byte]
  refine cO (fun hx7 => ?_) ?_
  ·rw [hx7]; try rfl
  rintro x6 hx7
  rw [hx7]
  conv => lhs; cbv
  refine cD (fun hb8 => ?_) fun hb8 => ?_
  ·rw [hb8]
   conv => lhs; cbv
   try rfl
  rw [hb8]
  conv => lhs; cbv
  rw [hr1]
  conv => lhs; cbv
  try rfl
 rintro (w9 | w10)
 ·conv => lhs; cbv
  try rfl
 rfl
theorem eLeqData (F : Fns) (fLeqName : HLeqName (F 69)) (fLeqByteS : HLeqByteS (F 70)) : HLeqData (EvF F Tryz.f29 (fun _ => [])) := by
 intro a0 a1
 unfold EvF
 obtain ⟨p, hp⟩ := gn prims
 obtain ⟨m_byte, hm_byte⟩ := gn (List.map eY)
 obtain ⟨m_string, hm_string⟩ := gn (List.map eS)
 rw [← hp, ← hm_byte, ← hm_string]
 obtain ⟨_, p_cmp, _, _, _, _, _, _, _, _, _, p_bnot, _⟩ := p
 simp only [HLeqName, HLeqByteS, ← hm_string, ← hm_byte] at fLeqName fLeqByteS
 rw [sLeqData, ← hp]
 dsimp only
 conv => lhs; cbv
 rw [fLeqName a0.name a1.name]
 refine cO (fun hx2 => ?_) ?_
 ·rw [hx2]; try rfl
 rintro r1 hx2
 rw [hx2]
 conv => lhs; cbv
 refine cC (fun hb3 => ?_) fun hb3 => ?_
 ·rw [hb3]
  conv => lhs; cbv
  try rfl
 rw [hb3]
 conv => lhs; cbv
 rw [fLeqByteS a0.content a1.content]
 refine cO (fun hx5 => ?_) ?_
 ·rw [hx5]; try rfl
 rintro r4 hx5
 rw [hx5]
 conv => lhs; cbv
 refine cC (fun hb6 => ?_) fun hb6 => ?_
 ·rw [hb6]
  conv => lhs; cbv
  try rfl
 rw [hb6]
 conv => lhs; cbv
 rw [fLeqName a0.keyName a1.keyName]
 refine cO (fun hx8 => ?_) ?_
 ·rw [hx8]; try rfl
 rintro r7 hx8
 rw [hx8]
 conv => lhs; cbv
 refine cC (fun hb9 => ?_) fun hb9 => ?_
 ·rw [hb9]
  conv => lhs; cbv
  try rfl
 rw [hb9]
 conv => lhs; cbv
 refine cC (fun hb10 => ?_) fun hb10 => ?_
 ·rw [hb10]
  conv => lhs; cbv
  try rfl
 rw [hb10]
 conv => lhs; cbv
 refine cC (fun hb11 => ?_) fun hb11 => ?_
 ·rw [hb11]
  conv => lhs; cbv
  try rfl
 rw [hb11]
 conv => lhs; cbv
 try rfl
theorem eLeqDataS (F : Fns) (fLeqData : HLeqData (F 29)) : HLeqDataS (EvF F Tryz.f8 (fun id => if id = 4 then [0, 1, 5] else [])) := by
 intro a0 a1
 unfold EvF
 obtain ⟨p, hp⟩ := gn prims
 obtain ⟨m_Data, hm_Data⟩ := gn (List.map eData)
 obtain ⟨m_byte, hm_byte⟩ := gn (List.map eY)
 obtain ⟨m_string, hm_string⟩ := gn (List.map eS)
 rw [← hp, ← hm_Data]
 obtain ⟨p_arith, p_cmp, _, _, _, _, _, _, _, _, _, p_bnot, _, _, _, p_len, p_int, p_nth, _⟩ := p
 have nth_Data := @nthF_Data
 simp only [HLeqData, ← hp, ← hm_Data, ← hm_byte, ← hm_string] at nth_Data fLeqData
 generalize hal : alp = al
 rw [sLeqDataS, ← hp, ← hm_Data]
 dsimp only
 conv => lhs; cbv
 refine cC (fun hb1 => ?_) fun hb1 => ?_
 ·rw [hb1]
  conv => lhs; cbv
  try rfl
 rw [hb1]
 conv => lhs; cbv
 refine (loop_al hal (fun v2 => ⟨[.c (.rd true 73 5 (m_Data a0)), .c (.rd true 73 5 (m_Data a1)), dd, dd, dd, .c (.at (.int .i64 v2)), dd, dd, dd, dd, dd, dd, dd, dd, dd, dd, dd, dd, dd, dd, dd, dd, dd, dd, dd, dd, dd], [], 1⟩) (sLeqDataS_l1 a0 a1) (fun K g => match g with | .inl v2 => K (.exit 0) ⟨[.c (.rd true 73 5 (m_Data a0)), .c (.rd true 73 5 (m_Data a1)), dd, dd, dd, .c (.at (.int .i64 v2)), dd, dd, dd, dd, dd, .c (.at (.int .i64 v2)), .c (.rd true 73 5 (m_Data a0)), .c (.at (.int .i64 (p_int (p_len (m_Data a0))))), .c (.at (.bool false)), dd, dd, dd, dd, dd, dd, dd, dd, dd, dd, dd, dd], [], 2⟩ | .inr (r) => some [.v (.at (.bool r))]) ?_ 0 _ (rfl)).trans (cL ?_)
 ·rintro K1 hr1 v2 R1
  rw [sLeqDataS_l1, ← hp, ← hm_Data]
  dsimp only
  conv => lhs; cbv
  refine cD (fun hb3 => ?_) fun hb3 => ?_
  ·rw [hb3]
   conv => lhs; cbv
   try rfl
  rw [hb3]
  conv => lhs; cbv
  rw [nth_Data]
  refine cO (fun hx5 => ?_) ?_
  ·rw [hx5]; try rfl
  rintro x4 hx5
  rw [hx5]
  conv => lhs; cbv
  rw [nth_Data]
  refine cO (fun hx7 => ?_) ?_
  ·rw [hx7]; try rfl
  rintro x6 hx7
  rw [hx7]
  conv => lhs; cbv
  rw [fLeqData x4 x6]
  refine cO (fun hx9 => ?_) ?_
  ·rw [hx9]; try rfl
  rintro r8 hx9
  rw [hx9]
  conv => lhs; cbv
  refine cD (fun hb10 => ?_) fun hb10 => ?_
  ·rw [hb10]
   conv => lhs; cbv
   try rfl
  rw [hb10]
  conv => lhs; cbv
  rw [hr1]
  conv => lhs; cbv
  try rfl
 rintro (w11 | w12)
 ·conv => lhs; cbv
  try rfl
 rfl
end
end Go.Proofs.YtnomkohiiadkjaaGreat
