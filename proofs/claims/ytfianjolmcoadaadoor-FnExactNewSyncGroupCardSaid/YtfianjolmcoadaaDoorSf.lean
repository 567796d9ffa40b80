/- The code computes these plain functions. Printed by genshal.py. -/
import Derived.Test.YtfianjolmcoadaaDoorSd
namespace Go.Proofs.YtfianjolmcoadaaDoor
open Go.RowKit
set_option linter.unusedVariables false
set_option linter.unusedSimpArgs false
set_option maxRecDepth 100000
noncomputable section

set_option maxHeartbeats 40000000 in
theorem e_s_laws_szLinkS (F : Fns) (a0 : (List DLink)) (a1 : Int) : EvF F Tryd.f25 (fun _ => []) [.v (.sl 92 2 (List.map eLink a0)), .v (.at (.int .i64 a1))] = (s_laws_szLinkS a0 a1).bind fun r => some [.v (.at (.int .i64 r))] := by
  unfold EvF
  obtain ⟨p, hp⟩ := gn prims
  obtain ⟨m_Link, hm_Link⟩ := gn (List.map eLink)
  rw [← hp, ← hm_Link]
  obtain ⟨p_arith, p_cmp, _, _, _, _, _, _, _, _, _, _, _, _, _, p_len, p_int, _⟩ := p
  generalize hal : (fun (F : St → (Ex → St → Option (List Arg)) → Option (List Arg)) lv => aloop F lv fuel) = al
  rw [s_laws_szLinkS, ← hp, ← hm_Link]
  dsimp only
  conv => lhs; cbv
  refine cC (fun hb1 => ?_) fun hb1 => ?_
  · rw [hb1]
    conv => lhs; cbv
    try rfl
  rw [hb1]
  conv => lhs; cbv
  try rfl
set_option maxHeartbeats 40000000 in
theorem e_s_laws_szTopology (F : Fns) (hF_s_laws_szLinkS : Has_s_laws_szLinkS F) (a0 : DTopology) (a1 : Int) : EvF F Tryd.f5 (fun _ => []) [.a [.at (.int .i64 a0.size), .sl 92 2 (List.map eLink a0.links)], .v (.at (.int .i64 a1))] = (s_laws_szTopology a0 a1).bind fun r => some [.v (.at (.int .i64 r))] := by
  unfold EvF
  obtain ⟨p, hp⟩ := gn prims
  obtain ⟨m_Link, hm_Link⟩ := gn (List.map eLink)
  rw [← hp, ← hm_Link]
  obtain ⟨_, p_cmp, _⟩ := p
  simp only [Has_s_laws_szLinkS, ← hm_Link] at hF_s_laws_szLinkS
  generalize hal : (fun (F : St → (Ex → St → Option (List Arg)) → Option (List Arg)) lv => aloop F lv fuel) = al
  rw [s_laws_szTopology, ← hp]
  dsimp only
  conv => lhs; cbv
  rw [hF_s_laws_szLinkS a0.links a1]
  refine cO (fun hx2 => ?_) ?_
  · rw [hx2]; try rfl
  rintro r1 hx2
  rw [hx2]
  conv => lhs; cbv
  refine cC (fun hb3 => ?_) fun hb3 => ?_
  · rw [hb3]
    conv => lhs; cbv
    try rfl
  rw [hb3]
  conv => lhs; cbv
  try rfl
set_option maxHeartbeats 40000000 in
theorem e_s_laws_toLink (F : Fns) (a0 : DLink) : EvF F Tryd.f60 (fun _ => []) [.a [.at (.int .i64 a0.a), .at (.int .i64 a0.b)]] = (s_laws_toLink a0).bind fun r => some [.a [.at (.int .i64 r.a), .at (.int .i64 r.b)]] := by
  unfold EvF
  obtain ⟨p, hp⟩ := gn prims
  rw [← hp]
  generalize hal : (fun (F : St → (Ex → St → Option (List Arg)) → Option (List Arg)) lv => aloop F lv fuel) = al
  rw [s_laws_toLink]
  conv => lhs; cbv
  try rfl
set_option maxHeartbeats 40000000 in
theorem e_s_laws_toLinkS (F : Fns) (hF_s_laws_toLink : Has_s_laws_toLink F) (a0 : (List DLink)) : EvF F Tryd.f29 (fun id => if id = 3 then [0, 3, 4] else []) [.v (.sl 92 2 (List.map eLink a0))] = (s_laws_toLinkS a0).bind fun r => some [.v (.sl 92 2 (List.map eLink r))] := by
  unfold EvF
  obtain ⟨p, hp⟩ := gn prims
  obtain ⟨m_Link, hm_Link⟩ := gn (List.map eLink)
  rw [← hp, ← hm_Link]
  obtain ⟨p_arith, p_cmp, _, _, _, _, _, _, _, _, _, _, _, _, _, p_len, p_int, p_nth, _, _, p_ridx, p_rnth, p_rset, _, _, _, p_full, _, _, p_own, p_opn, _, _, _, _, _, _, _, p_mkN, p_rep, _⟩ := p
  have full_Link := full_gen eLink
  have lset_Link := lset_gen eLink
  have mkn_Link := @mknF_Link
  have nth_Link := @nthF_Link
  have own_Link := own_gen eLink (fun _ => rfl)
  have rep_Link := @repF_Link
  have rnth_Link := @rnthF_Link
  have rset_Link := @rsetF_Link
  simp only [Has_s_laws_toLink, ← hp, ← hm_Link] at full_Link lset_Link mkn_Link nth_Link own_Link rep_Link rnth_Link rset_Link hF_s_laws_toLink
  generalize hal : (fun (F : St → (Ex → St → Option (List Arg)) → Option (List Arg)) lv => aloop F lv fuel) = al
  rw [s_laws_toLinkS, ← hp, ← hm_Link]
  dsimp only
  conv => lhs; cbv
  rw [mkn_Link]
  refine cO (fun hx2 => ?_) ?_
  · rw [hx2]; try rfl
  rintro x1 hx2
  rw [hx2]
  conv => lhs; cbv
  rw [rep_Link _ _ _ hx2]
  conv => lhs; cbv
  refine (loop_al hal (fun x => match x with | (v3, v4) => ⟨[.c (.rd true 92 2 (m_Link a0)), dd, dd, .c (.row (0, 0, 0) 92 2 0 (p_len (m_Link v4))), .c (.at (.int .i64 v3)), dd, dd, dd, dd, dd, dd, dd, dd, dd, dd, dd, dd, dd, dd, dd, dd, dd, dd], [((0, 0, 0), ⟨true, false, 92, 2, p_opn (m_Link v4)⟩)], 1⟩) (s_laws_toLinkS_l1 a0) (fun K g => match g with | (v3, v4) => K (.exit 0) ⟨[.c (.rd true 92 2 (m_Link a0)), dd, dd, .c (.row (0, 0, 0) 92 2 0 (p_len (m_Link v4))), .c (.at (.int .i64 v3)), dd, dd, dd, .c (.at (.int .i64 v3)), .c (.rd true 92 2 (m_Link a0)), .c (.at (.int .i64 (p_int (p_len (m_Link a0))))), .c (.at (.bool false)), dd, dd, dd, dd, dd, dd, dd, dd, dd, dd, dd], [((0, 0, 0), ⟨true, false, 92, 2, p_opn (m_Link v4)⟩)], 2⟩) ?_ (0, x1) _ (rfl)).trans (cL ?_)
  · rintro K1 hr1 ⟨v3, v4⟩ R1
    rw [s_laws_toLinkS_l1, ← hp, ← hm_Link]
    dsimp only
    conv => lhs; cbv
    refine cD (fun hb5 => ?_) fun hb5 => ?_
    · rw [hb5]
      conv => lhs; cbv
      try rfl
    rw [hb5]
    conv => lhs; cbv
    rw [nth_Link]
    refine cO (fun hx7 => ?_) ?_
    · rw [hx7]; try rfl
    rintro x6 hx7
    rw [hx7]
    conv => lhs; cbv
    rw [hF_s_laws_toLink x6]
    refine cO (fun hx9 => ?_) ?_
    · rw [hx9]; try rfl
    rintro r8 hx9
    rw [hx9]
    conv => lhs; cbv
    refine cO (fun hx11 => ?_) ?_
    · rw [hx11]; try rfl
    rintro x10 hx11
    rw [hx11]
    conv => lhs; cbv
    rw [rnth_Link]
    refine cO (fun hx13 => ?_) ?_
    · rw [hx13]; try rfl
    rintro x12 hx13
    rw [hx13]
    conv => lhs; cbv
    rw [rset_Link]
    try conv => lhs; rw [← lset_Link v4 x10 r8]
    conv => lhs; cbv
    try rfl
  rintro ⟨w14, w15⟩
  conv => lhs; cbv
  rw [if_pos (full_Link _)]
  conv => lhs; cbv
  rw [own_Link]
  conv => lhs; cbv
  try rfl
set_option maxHeartbeats 40000000 in
theorem e_s_laws_toTopology (F : Fns) (hF_s_laws_toLinkS : Has_s_laws_toLinkS F) (a0 : DTopology) : EvF F Tryd.f7 (fun _ => []) [.a [.at (.int .i64 a0.size), .sl 92 2 (List.map eLink a0.links)]] = (s_laws_toTopology a0).bind fun r => some [.a [.at (.int .i64 r.size), .sl 92 2 (List.map eLink r.links)]] := by
  unfold EvF
  obtain ⟨p, hp⟩ := gn prims
  obtain ⟨m_Link, hm_Link⟩ := gn (List.map eLink)
  rw [← hp, ← hm_Link]
  obtain ⟨_, _, _, _, _, _, _, _, _, _, _, _, _, _, _, p_len, _, _, _, _, _, _, _, _, _, _, p_full, _, _, p_own, p_opn, _⟩ := p
  have full_Link := full_gen eLink
  have own_Link := own_gen eLink (fun _ => rfl)
  simp only [Has_s_laws_toLinkS, ← hp, ← hm_Link] at full_Link own_Link hF_s_laws_toLinkS
  generalize hal : (fun (F : St → (Ex → St → Option (List Arg)) → Option (List Arg)) lv => aloop F lv fuel) = al
  rw [s_laws_toTopology]
  conv => lhs; cbv
  rw [hF_s_laws_toLinkS a0.links]
  refine cO (fun hx2 => ?_) ?_
  · rw [hx2]; try rfl
  rintro r1 hx2
  rw [hx2]
  conv => lhs; cbv
  rw [if_pos (full_Link _)]
  conv => lhs; cbv
  rw [own_Link]
  conv => lhs; cbv
  try rfl
set_option maxHeartbeats 40000000 in
theorem e_s_spec_l1In (F : Fns) (a0 : Int) (a1 : Int) (a2 : Int) : EvF F Tryd.f57 (fun _ => []) [.v (.at (.int .i64 a0)), .v (.at (.int .i64 a1)), .v (.at (.int .i64 a2))] = (s_spec_l1In a0 a1 a2).bind fun r => some [.v (.at (.bool r))] := by
  unfold EvF
  obtain ⟨p, hp⟩ := gn prims
  rw [← hp]
  obtain ⟨_, p_cmp, _⟩ := p
  generalize hal : (fun (F : St → (Ex → St → Option (List Arg)) → Option (List Arg)) lv => aloop F lv fuel) = al
  rw [s_spec_l1In, ← hp]
  dsimp only
  conv => lhs; cbv
  refine cC (fun hb1 => ?_) fun hb1 => ?_
  · rw [hb1]
    conv => lhs; cbv
    try rfl
  rw [hb1]
  conv => lhs; cbv
  try rfl
set_option maxHeartbeats 40000000 in
theorem e_s_spec_l19Pair (F : Fns) (a0 : DLink) (a1 : DLink) : EvF F Tryd.f58 (fun _ => []) [.a [.at (.int .i64 a0.a), .at (.int .i64 a0.b)], .a [.at (.int .i64 a1.a), .at (.int .i64 a1.b)]] = (s_spec_l19Pair a0 a1).bind fun r => some [.v (.at (.bool r))] := by
  unfold EvF
  obtain ⟨p, hp⟩ := gn prims
  rw [← hp]
  obtain ⟨_, p_cmp, _⟩ := p
  generalize hal : (fun (F : St → (Ex → St → Option (List Arg)) → Option (List Arg)) lv => aloop F lv fuel) = al
  rw [s_spec_l19Pair, ← hp]
  dsimp only
  conv => lhs; cbv
  refine cC (fun hb1 => ?_) fun hb1 => ?_
  · rw [hb1]
    conv => lhs; cbv
    try rfl
  rw [hb1]
  conv => lhs; cbv
  refine cC (fun hb2 => ?_) fun hb2 => ?_
  · rw [hb2]
    conv => lhs; cbv
    try rfl
  rw [hb2]
  conv => lhs; cbv
  try rfl
set_option maxHeartbeats 40000000 in
theorem e_s_spec_ValidTopology (F : Fns) (hF_s_spec_l1In : Has_s_spec_l1In F) (hF_s_spec_l19Pair : Has_s_spec_l19Pair F) (a0 : DTopology) : EvF F Tryd.f26 (fun id => if id = 2 then [1, 3] else []) [.a [.at (.int .i64 a0.size), .sl 92 2 (List.map eLink a0.links)]] = (s_spec_ValidTopology a0).bind fun r => some [.v (.at (.bool r))] := by
  unfold EvF
  obtain ⟨p, hp⟩ := gn prims
  obtain ⟨m_Link, hm_Link⟩ := gn (List.map eLink)
  rw [← hp, ← hm_Link]
  obtain ⟨p_arith, p_cmp, _, _, _, _, _, _, _, _, _, p_bnot, _, _, _, p_len, p_int, p_nth, _⟩ := p
  have nth_Link := @nthF_Link
  simp only [Has_s_spec_l1In, Has_s_spec_l19Pair, ← hp, ← hm_Link] at nth_Link hF_s_spec_l1In hF_s_spec_l19Pair
  generalize hal : (fun (F : St → (Ex → St → Option (List Arg)) → Option (List Arg)) lv => aloop F lv fuel) = al
  rw [s_spec_ValidTopology]
  conv => lhs; cbv
  refine (loop_al hal (fun v1 => ⟨[dd, .c (.ptr (0, 0, 0) 2 0 0), dd, .c (.at (.int .i64 v1)), dd, dd, dd, dd, dd, dd, dd, dd, dd, dd, dd, dd, dd, dd, dd, dd, dd, dd, dd, dd, dd, dd, dd, dd, dd, dd, dd, dd, dd, dd, dd, dd, dd, dd, dd, dd, dd, dd, dd, dd, dd, dd, dd, dd, dd, dd, dd, dd, dd, dd, dd, dd, dd, dd], [((0, 0, 0), ⟨false, true, 28, 2, [[.at (.int .i64 a0.size), .rd true 92 2 (m_Link a0.links)]]⟩)], 1⟩) (s_spec_ValidTopology_l1 a0) (fun K g => match g with | .inl v1 => K (.exit 0) ⟨[dd, .c (.ptr (0, 0, 0) 2 0 0), dd, .c (.at (.int .i64 v1)), dd, .c (.at (.int .i64 v1)), .c (.ptr (0, 0, 0) 2 0 1), .c (.rd true 92 2 (m_Link a0.links)), .c (.at (.int .i64 (p_int (p_len (m_Link a0.links))))), .c (.at (.bool false)), dd, dd, dd, dd, dd, dd, dd, dd, dd, dd, dd, dd, dd, dd, dd, dd, dd, dd, dd, dd, dd, dd, dd, dd, dd, dd, dd, dd, dd, dd, dd, dd, dd, dd, dd, dd, dd, dd, dd, dd, dd, dd, dd, dd, dd, dd, dd, dd], [((0, 0, 0), ⟨false, true, 28, 2, [[.at (.int .i64 a0.size), .rd true 92 2 (m_Link a0.links)]]⟩)], 2⟩ | .inr (r) => some [.v (.at (.bool r))]) ?_ 0 _ (rfl)).trans (cL ?_)
  · rintro K1 hr1 v1 R1
    rw [s_spec_ValidTopology_l1, ← hp, ← hm_Link]
    dsimp only
    conv => lhs; cbv
    refine cD (fun hb2 => ?_) fun hb2 => ?_
    · rw [hb2]
      conv => lhs; cbv
      try rfl
    rw [hb2]
    conv => lhs; cbv
    rw [nth_Link]
    refine cO (fun hx4 => ?_) ?_
    · rw [hx4]; try rfl
    rintro x3 hx4
    rw [hx4]
    conv => lhs; cbv
    rw [hF_s_spec_l1In x3.a 0 (p_arith .sub .i64 a0.size 1)]
    refine cO (fun hx6 => ?_) ?_
    · rw [hx6]; try rfl
    rintro r5 hx6
    rw [hx6]
    conv => lhs; cbv
    refine cC (fun hb7 => ?_) fun hb7 => ?_
    · rw [hb7]
      conv => lhs; cbv
      rw [hr1]
      conv => lhs; cbv
      try rfl
    rw [hb7]
    conv => lhs; cbv
    rw [hF_s_spec_l1In x3.b 0 (p_arith .sub .i64 a0.size 1)]
    refine cO (fun hx9 => ?_) ?_
    · rw [hx9]; try rfl
    rintro r8 hx9
    rw [hx9]
    conv => lhs; cbv
    refine cC (fun hb10 => ?_) fun hb10 => ?_
    · rw [hb10]
      conv => lhs; cbv
      rw [hr1]
      conv => lhs; cbv
      try rfl
    rw [hb10]
    conv => lhs; cbv
    refine cC (fun hb11 => ?_) fun hb11 => ?_
    · rw [hb11]
      conv => lhs; cbv
      rw [hr1]
      conv => lhs; cbv
      try rfl
    rw [hb11]
    conv => lhs; cbv
    refine cD (fun hb12 => ?_) fun hb12 => ?_
    · rw [hb12]
      conv => lhs; cbv
      try rfl
    rw [hb12]
    conv => lhs; cbv
    rw [nth_Link]
    refine cO (fun hx14 => ?_) ?_
    · rw [hx14]; try rfl
    rintro x13 hx14
    rw [hx14]
    conv => lhs; cbv
    rw [hF_s_spec_l19Pair x13 x3]
    refine cO (fun hx16 => ?_) ?_
    · rw [hx16]; try rfl
    rintro r15 hx16
    rw [hx16]
    conv => lhs; cbv
    refine cD (fun hb17 => ?_) fun hb17 => ?_
    · rw [hb17]
      conv => lhs; cbv
      try rfl
    rw [hb17]
    conv => lhs; cbv
    rw [hr1]
    conv => lhs; cbv
    try rfl
  rintro (w18 | w21)
  · conv => lhs; cbv
    rw [hF_s_spec_l1In a0.size 1 6]
    refine cO (fun hx20 => ?_) ?_
    · rw [hx20]; try rfl
    rintro r19 hx20
    rw [hx20]
    conv => lhs; cbv
    try rfl
  rfl
set_option maxHeartbeats 40000000 in
theorem e_s_spec_FormatInt (F : Fns) (a0 : Int) : EvF F Tryd.f44 (fun id => if id = 5 then [0, 3, 4] else []) [.v (.at (.int .i64 a0))] = (s_spec_FormatInt a0).bind fun r => some [.v (.at (.string r))] := by
  unfold EvF
  obtain ⟨p, hp⟩ := gn prims
  obtain ⟨m_byte, hm_byte⟩ := gn (List.map eY)
  rw [← hp]
  obtain ⟨p_arith, p_cmp, p_wrap, _, p_scat, p_catOk, _, _, _, _, p_str, _, _, _, _, _, _, _, _, _, _, _, _, _, _, _, _, _, _, _, _, _, _, _, _, p_yI, p_ofB, p_byW, _⟩ := p
  have mcons_byte := @mconsF_byte
  have nild_byte := @nildF_byte
  have str_byte := @strF_byte
  have wy_byte := @wyF_byte
  simp only [← hp, ← hm_byte] at mcons_byte nild_byte str_byte wy_byte
  generalize hal : (fun (F : St → (Ex → St → Option (List Arg)) → Option (List Arg)) lv => aloop F lv fuel) = al
  rw [s_spec_FormatInt, ← hp]
  dsimp only
  conv => lhs; cbv
  refine cC (fun hb1 => ?_) fun hb1 => ?_
  · rw [hb1]
    conv => lhs; cbv
    try rfl
  rw [hb1]
  conv => lhs; cbv
  refine (loop_al hal (fun x => match x with | (v2, v3) => ⟨[.c (.at (.int .i64 a0)), dd, dd, .c (.at (.string v2)), .c (.at (.int .i64 v3)), dd, dd, dd, dd, dd, dd, dd, dd, dd, dd, dd, dd, dd, dd, dd, dd, dd, dd, dd, dd, dd, dd, dd, dd, dd, dd], [], 1⟩) (s_spec_FormatInt_l1) (fun K g => match g with | (v2, v3) => K (.exit 0) ⟨[.c (.at (.int .i64 a0)), dd, dd, .c (.at (.string v2)), .c (.at (.int .i64 v3)), dd, dd, dd, dd, .c (.at (.int .i64 v3)), .c (.at (.bool false)), dd, dd, dd, dd, dd, dd, dd, dd, dd, dd, dd, dd, dd, dd, dd, dd, dd, dd, dd, dd], [], 2⟩) ?_ ((ByteArray.mk (Array.mk [])), a0) _ (rfl)).trans (cL ?_)
  · rintro K1 hr1 ⟨v2, v3⟩ R1
    rw [s_spec_FormatInt_l1, ← hp]
    dsimp only
    conv => lhs; cbv
    refine cD (fun hb4 => ?_) fun hb4 => ?_
    · rw [hb4]
      conv => lhs; cbv
      try rfl
    rw [hb4]
    conv => lhs; cbv
    refine cC (fun hb5 => ?_) fun hb5 => ?_
    · rw [if_pos hb5]
      try rw [hb5]
      conv => lhs; cbv
      try rfl
    rw [if_neg (Bool.eq_false_iff.1 hb5)]
    try rw [hb5]
    conv => lhs; cbv
    refine cC (fun hb6 => ?_) fun hb6 => ?_
    · rw [hb6]
      conv => lhs; cbv
      rw [wy_byte]
      conv => lhs; cbv
      rw [← (show (m_byte [(p_byW (p_arith .add .i64 48 (p_arith .sub .i64 0 (p_arith .rem .i64 v3 10))))]) = [[DT.at (.int .u8 (p_yI (p_byW (p_arith .add .i64 48 (p_arith .sub .i64 0 (p_arith .rem .i64 v3 10))))))]] by rw [mcons_byte, nild_byte])]
      rw [str_byte]
      conv => lhs; cbv
      refine cD (fun hb7 => ?_) fun hb7 => ?_
      · rw [if_neg (Bool.eq_false_iff.1 hb7)]
        try rw [hb7]
        conv => lhs; cbv
        try rfl
      rw [if_pos hb7]
      try rw [hb7]
      conv => lhs; cbv
      rw [if_neg (Bool.eq_false_iff.1 hb5)]
      conv => lhs; cbv
      try rfl
    rw [hb6]
    conv => lhs; cbv
    rw [wy_byte]
    conv => lhs; cbv
    rw [← (show (m_byte [(p_byW (p_arith .add .i64 48 (p_arith .rem .i64 v3 10)))]) = [[DT.at (.int .u8 (p_yI (p_byW (p_arith .add .i64 48 (p_arith .rem .i64 v3 10)))))]] by rw [mcons_byte, nild_byte])]
    rw [str_byte]
    conv => lhs; cbv
    refine cD (fun hb8 => ?_) fun hb8 => ?_
    · rw [if_neg (Bool.eq_false_iff.1 hb8)]
      try rw [hb8]
      conv => lhs; cbv
      try rfl
    rw [if_pos hb8]
    try rw [hb8]
    conv => lhs; cbv
    rw [if_neg (Bool.eq_false_iff.1 hb5)]
    conv => lhs; cbv
    try rfl
  rintro ⟨w9, w10⟩
  conv => lhs; cbv
  refine cD (fun hb11 => ?_) fun hb11 => ?_
  · rw [hb11]
    conv => lhs; cbv
    try rfl
  rw [hb11]
  conv => lhs; cbv
  refine cC (fun hb12 => ?_) fun hb12 => ?_
  · rw [if_pos hb12]
    try rw [hb12]
    conv => lhs; cbv
    try rfl
  rw [if_neg (Bool.eq_false_iff.1 hb12)]
  try rw [hb12]
  conv => lhs; cbv
  try rfl
set_option maxHeartbeats 40000000 in
theorem e_s_spec_l37Name (F : Fns) (hF_s_spec_FormatInt : Has_s_spec_FormatInt F) (a0 : Int) : EvF F Tryd.f28 (fun _ => []) [.v (.at (.int .i64 a0))] = (s_spec_l37Name a0).bind fun r => some [.a [.sl 9 1 (List.map eS r)]] := by
  unfold EvF
  obtain ⟨p, hp⟩ := gn prims
  obtain ⟨m_string, hm_string⟩ := gn (List.map eS)
  rw [← hp, ← hm_string]
  have mcons_string := @mconsF_string
  have nild_string := @nildF_string
  simp only [Has_s_spec_FormatInt, ← hm_string] at mcons_string nild_string hF_s_spec_FormatInt
  generalize hal : (fun (F : St → (Ex → St → Option (List Arg)) → Option (List Arg)) lv => aloop F lv fuel) = al
  rw [s_spec_l37Name]
  conv => lhs; cbv
  rw [hF_s_spec_FormatInt a0]
  refine cO (fun hx2 => ?_) ?_
  · rw [hx2]; try rfl
  rintro r1 hx2
  rw [hx2]
  conv => lhs; cbv
  first | done | rfl | (simp only [Option.bind_some, mcons_string, nild_string]; try rfl)
set_option maxHeartbeats 40000000 in
theorem e_s_spec_l4Copy (F : Fns) (a0 : (List ByteArray)) : EvF F Tryd.f59 (fun _ => []) [.a [.sl 9 1 (List.map eS a0)]] = (s_spec_l4Copy a0).bind fun r => some [.a [.sl 9 1 (List.map eS r)]] := by
  unfold EvF
  obtain ⟨p, hp⟩ := gn prims
  obtain ⟨m_string, hm_string⟩ := gn (List.map eS)
  rw [← hp, ← hm_string]
  obtain ⟨_, _, _, _, _, _, _, _, _, _, _, _, _, _, _, p_len, _, _, _, _, _, _, _, p_rapp, p_rlen, p_addN, p_full, p_fits, _, p_own, p_opn, p_lend, _⟩ := p
  have addn0_string := @addn0F_string
  have full_string := full_gen eS
  have lend_string := @lendF_string
  have own_string := own_gen eS (fun _ => rfl)
  have rapp0_string := @rapp0F_string
  simp only [← hp, ← hm_string] at addn0_string full_string lend_string own_string rapp0_string
  generalize hal : (fun (F : St → (Ex → St → Option (List Arg)) → Option (List Arg)) lv => aloop F lv fuel) = al
  rw [s_spec_l4Copy, ← hp, ← hm_string]
  dsimp only
  conv => lhs; cbv
  rw [lend_string]
  conv => lhs; cbv
  refine cD (fun hb1 => ?_) fun hb1 => ?_
  · rw [if_neg (fun x => Bool.noConfusion (hb1.symm.trans x.1))]; try rfl
  rw [if_pos ⟨hb1, trivial⟩]
  conv => lhs; cbv
  rw [rapp0_string, addn0_string]
  conv => lhs; cbv
  rw [if_pos (full_string _)]
  conv => lhs; cbv
  rw [own_string]
  conv => lhs; cbv
  try rfl
set_option maxHeartbeats 40000000 in
theorem e_s_spec_NewMember (F : Fns) (hF_s_spec_l4Copy : Has_s_spec_l4Copy F) (a0 : (List ByteArray)) : EvF F Tryd.f27 (fun _ => []) [.a [.sl 9 1 (List.map eS a0)]] = (s_spec_NewMember a0).bind fun r => some [.a [.sl 9 1 (List.map eS r.name), .sl 124 2 (List.map eTableEntry r.vector), .sl 126 3 (List.map ePublication r.publications)]] := by
  unfold EvF
  obtain ⟨p, hp⟩ := gn prims
  obtain ⟨m_Publication, hm_Publication⟩ := gn (List.map ePublication)
  obtain ⟨m_TableEntry, hm_TableEntry⟩ := gn (List.map eTableEntry)
  obtain ⟨m_string, hm_string⟩ := gn (List.map eS)
  rw [← hp, ← hm_Publication, ← hm_TableEntry, ← hm_string]
  obtain ⟨_, _, _, _, _, _, _, _, _, _, _, _, _, _, _, p_len, _, _, _, _, _, _, _, _, _, _, p_full, _, _, p_own, p_opn, _⟩ := p
  have full_string := full_gen eS
  have nild_Publication := @nildF_Publication
  have nild_TableEntry := @nildF_TableEntry
  have own_string := own_gen eS (fun _ => rfl)
  simp only [Has_s_spec_l4Copy, ← hp, ← hm_string, ← hm_Publication, ← hm_TableEntry] at full_string nild_Publication nild_TableEntry own_string hF_s_spec_l4Copy
  generalize hal : (fun (F : St → (Ex → St → Option (List Arg)) → Option (List Arg)) lv => aloop F lv fuel) = al
  rw [s_spec_NewMember]
  conv => lhs; cbv
  rw [hF_s_spec_l4Copy a0]
  refine cO (fun hx2 => ?_) ?_
  · rw [hx2]; try rfl
  rintro r1 hx2
  rw [hx2]
  conv => lhs; cbv
  rw [if_pos (full_string _)]
  conv => lhs; cbv
  rw [own_string]
  conv => lhs; cbv
  first | done | rfl | (simp only [Option.bind_some, nild_TableEntry, nild_Publication]; try rfl)
set_option maxHeartbeats 40000000 in
theorem e_s_spec_NewSyncGroup (F : Fns) (hF_s_spec_ValidTopology : Has_s_spec_ValidTopology F) (hF_s_spec_l37Name : Has_s_spec_l37Name F) (hF_s_spec_NewMember : Has_s_spec_NewMember F) (a0 : DTopology) : EvF F Tryd.f6 (fun id => if id = 5 then [1, 2, 3, 4] else []) [.a [.at (.int .i64 a0.size), .sl 92 2 (List.map eLink a0.links)]] = (s_spec_NewSyncGroup a0).bind fun r => some [.a [.at (.int .i64 r.topology.size), .sl 92 2 (List.map eLink r.topology.links), .sl 69 3 (List.map eMember r.members)]] := by
  unfold EvF
  obtain ⟨p, hp⟩ := gn prims
  obtain ⟨m_Link, hm_Link⟩ := gn (List.map eLink)
  obtain ⟨m_Member, hm_Member⟩ := gn (List.map eMember)
  obtain ⟨m_Publication, hm_Publication⟩ := gn (List.map ePublication)
  obtain ⟨m_TableEntry, hm_TableEntry⟩ := gn (List.map eTableEntry)
  obtain ⟨m_string, hm_string⟩ := gn (List.map eS)
  rw [← hp, ← hm_Link, ← hm_Member]
  obtain ⟨p_arith, p_cmp, _, _, _, _, _, _, _, _, _, p_bnot, _, _, _, p_len, _, _, _, _, _, _, _, p_rapp, p_rlen, p_addN, p_full, p_fits, p_frz, p_own, p_opn, p_lend, _⟩ := p
  have addn_Member := addn_gen eMember
  have addn0_Link := @addn0F_Link
  have frz_string := frz_gen eS (fun _ => rfl)
  have full_Link := full_gen eLink
  have full_Member := full_gen eMember
  have full_Publication := full_gen ePublication
  have full_TableEntry := full_gen eTableEntry
  have full_string := full_gen eS
  have len0_Link := @len0F_Link
  have len0_Member := @len0F_Member
  have lend_Link := @lendF_Link
  have lit_Member := @litF_Member
  have nild_Link := @nildF_Link
  have nild_Member := @nildF_Member
  have opn0_Link := @opn0F_Link
  have opn0_Member := @opn0F_Member
  have own_Link := own_gen eLink (fun _ => rfl)
  have own_Member := own_gen eMember (fun _ => rfl)
  have own_Publication := own_gen ePublication (fun _ => rfl)
  have own_TableEntry := own_gen eTableEntry (fun _ => rfl)
  have own_string := own_gen eS (fun _ => rfl)
  have rapp_Member := rapp_gen eMember
  have rapp0_Link := @rapp0F_Link
  simp only [Has_s_spec_ValidTopology, Has_s_spec_l37Name, Has_s_spec_NewMember, ← hp, ← hm_Member, ← hm_Link, ← hm_string, ← hm_Publication, ← hm_TableEntry] at addn_Member addn0_Link frz_string full_Link full_Member full_Publication full_TableEntry full_string len0_Link len0_Member lend_Link lit_Member nild_Link nild_Member opn0_Link opn0_Member own_Link own_Member own_Publication own_TableEntry own_string rapp_Member rapp0_Link hF_s_spec_ValidTopology hF_s_spec_l37Name hF_s_spec_NewMember
  generalize hal : (fun (F : St → (Ex → St → Option (List Arg)) → Option (List Arg)) lv => aloop F lv fuel) = al
  rw [s_spec_NewSyncGroup, ← hp, ← hm_Link]
  dsimp only
  conv => lhs; cbv
  rw [hF_s_spec_ValidTopology a0]
  refine cO (fun hx2 => ?_) ?_
  · rw [hx2]; try rfl
  rintro r1 hx2
  rw [hx2]
  conv => lhs; cbv
  refine cC (fun hb3 => ?_) fun hb3 => ?_
  · rw [hb3]
    conv => lhs; cbv
    first | done | rfl | (simp only [Option.bind_some, nild_Link, nild_Member]; try rfl)
  rw [hb3]
  conv => lhs; cbv
  rw [lend_Link]
  conv => lhs; cbv
  refine cD (fun hb4 => ?_) fun hb4 => ?_
  · rw [if_neg (fun x => Bool.noConfusion (hb4.symm.trans x.1))]; try rfl
  rw [if_pos ⟨hb4, trivial⟩]
  conv => lhs; cbv
  rw [rapp0_Link, addn0_Link]
  conv => lhs; cbv
  refine (loop_al hal (fun x => match x with | (v5, v6) => ⟨[dd, .c (.ptr (0, 0, 0) 2 0 0), .c (.ptr (0, 0, 1) 3 0 0), .c (.ptr (0, 0, 4) 3 0 0), .c (.at (.int .i64 v5)), dd, dd, dd, dd, dd, dd, dd, dd, dd, dd, dd, dd, dd, dd, dd, dd, dd, dd, dd, dd, dd, dd, dd, dd, dd, dd, dd, dd, dd], [((0, 0, 4), ⟨false, true, 31, 3, [[.at (.int .i64 a0.size), .row (0, 0, 5) 92 2 0 (p_len (m_Link a0.links)), .row (0, 0, 6) 69 3 0 (p_len (m_Member v6))]]⟩), ((0, 0, 1), ⟨false, true, 31, 3, [[.at (.int .i64 0), .row (0, 0, 2) 92 2 0 (p_len (m_Link [])), .row (0, 0, 3) 69 3 0 (p_len (m_Member []))]]⟩), ((0, 0, 0), ⟨false, true, 28, 2, [[.at (.int .i64 a0.size), .rd true 92 2 (m_Link a0.links)]]⟩), ((0, 0, 2), ⟨true, false, 92, 2, p_opn (m_Link [])⟩), ((0, 0, 3), ⟨true, false, 69, 3, p_opn (m_Member [])⟩), ((0, 0, 5), ⟨true, false, 92, 2, p_opn (m_Link a0.links)⟩), ((0, 0, 6), ⟨true, false, 69, 3, p_opn (m_Member v6)⟩)], 1⟩) (s_spec_NewSyncGroup_l1 a0) (fun K g => match g with | (v5, v6) => K (.exit 0) ⟨[dd, .c (.ptr (0, 0, 0) 2 0 0), .c (.ptr (0, 0, 1) 3 0 0), .c (.ptr (0, 0, 4) 3 0 0), .c (.at (.int .i64 v5)), dd, dd, dd, dd, dd, dd, dd, dd, dd, dd, dd, dd, dd, .c (.at (.int .i64 v5)), .c (.ptr (0, 0, 0) 2 0 0), .c (.at (.int .i64 a0.size)), .c (.at (.bool false)), dd, dd, dd, dd, dd, dd, dd, dd, dd, dd, dd, dd], [((0, 0, 4), ⟨false, true, 31, 3, [[.at (.int .i64 a0.size), .row (0, 0, 5) 92 2 0 (p_len (m_Link a0.links)), .row (0, 0, 6) 69 3 0 (p_len (m_Member v6))]]⟩), ((0, 0, 1), ⟨false, true, 31, 3, [[.at (.int .i64 0), .row (0, 0, 2) 92 2 0 (p_len (m_Link [])), .row (0, 0, 3) 69 3 0 (p_len (m_Member []))]]⟩), ((0, 0, 0), ⟨false, true, 28, 2, [[.at (.int .i64 a0.size), .rd true 92 2 (m_Link a0.links)]]⟩), ((0, 0, 2), ⟨true, false, 92, 2, p_opn (m_Link [])⟩), ((0, 0, 3), ⟨true, false, 69, 3, p_opn (m_Member [])⟩), ((0, 0, 5), ⟨true, false, 92, 2, p_opn (m_Link a0.links)⟩), ((0, 0, 6), ⟨true, false, 69, 3, p_opn (m_Member v6)⟩)], 2⟩) ?_ (0, []) _ (by simp only [opn0_Link, len0_Link, opn0_Member, len0_Member]; rfl)).trans (cL ?_)
  · rintro K1 hr1 ⟨v5, v6⟩ R1
    rw [s_spec_NewSyncGroup_l1, ← hp, ← hm_Member]
    dsimp only
    conv => lhs; cbv
    refine cD (fun hb7 => ?_) fun hb7 => ?_
    · rw [hb7]
      conv => lhs; cbv
      try rfl
    rw [hb7]
    conv => lhs; cbv
    rw [hF_s_spec_l37Name v5]
    refine cO (fun hx9 => ?_) ?_
    · rw [hx9]; try rfl
    rintro r8 hx9
    rw [hx9]
    conv => lhs; cbv
    rw [frz_string]
    conv => lhs; cbv
    rw [hF_s_spec_NewMember r8]
    refine cO (fun hx11 => ?_) ?_
    · rw [hx11]; try rfl
    rintro r10 hx11
    rw [hx11]
    conv => lhs; cbv
    rw [if_pos (full_string _)]
    conv => lhs; cbv
    rw [own_string]
    conv => lhs; cbv
    rw [if_pos (full_TableEntry _)]
    conv => lhs; cbv
    rw [own_TableEntry]
    conv => lhs; cbv
    rw [if_pos (full_Publication _)]
    conv => lhs; cbv
    rw [own_Publication]
    conv => lhs; cbv
    rw [lit_Member]
    refine cD (fun hb12 => ?_) fun hb12 => ?_
    · rw [if_neg (fun x => Bool.noConfusion (hb12.symm.trans x.2.1))]; try rfl
    rw [if_pos ⟨full_Member _, hb12, trivial⟩]
    conv => lhs; cbv
    rw [rapp_Member, addn_Member]
    conv => lhs; cbv
    try rfl
  rintro ⟨w13, w14⟩
  conv => lhs; cbv
  rw [if_pos (full_Link _)]
  conv => lhs; cbv
  rw [own_Link]
  conv => lhs; cbv
  rw [if_pos (full_Member _)]
  conv => lhs; cbv
  rw [own_Member]
  conv => lhs; cbv
  try rfl
set_option maxHeartbeats 40000000 in
theorem e_s_impl_InRange (F : Fns) (a0 : Int) (a1 : Int) (a2 : Int) : EvF F Tryd.f61 (fun _ => []) [.v (.at (.int .i64 a0)), .v (.at (.int .i64 a1)), .v (.at (.int .i64 a2))] = (s_impl_InRange a0 a1 a2).bind fun r => some [.v (.at (.bool r))] := by
  unfold EvF
  obtain ⟨p, hp⟩ := gn prims
  rw [← hp]
  obtain ⟨_, p_cmp, _⟩ := p
  generalize hal : (fun (F : St → (Ex → St → Option (List Arg)) → Option (List Arg)) lv => aloop F lv fuel) = al
  rw [s_impl_InRange, ← hp]
  dsimp only
  conv => lhs; cbv
  refine cC (fun hb1 => ?_) fun hb1 => ?_
  · rw [hb1]
    conv => lhs; cbv
    try rfl
  rw [hb1]
  conv => lhs; cbv
  try rfl
set_option maxHeartbeats 40000000 in
theorem e_s_cmp_isNaN_int (F : Fns) (a0 : Int) : EvF F Tryd.f94 (fun _ => []) [.v (.at (.int .i64 a0))] = (s_cmp_isNaN_int a0).bind fun r => some [.v (.at (.bool r))] := by
  unfold EvF
  obtain ⟨p, hp⟩ := gn prims
  rw [← hp]
  obtain ⟨_, p_cmp, _⟩ := p
  generalize hal : (fun (F : St → (Ex → St → Option (List Arg)) → Option (List Arg)) lv => aloop F lv fuel) = al
  rw [s_cmp_isNaN_int, ← hp]
  dsimp only
  conv => lhs; cbv
  try rfl
set_option maxHeartbeats 40000000 in
theorem e_s_cmp_Compare_int (F : Fns) (hF_s_cmp_isNaN_int : Has_s_cmp_isNaN_int F) (a0 : Int) (a1 : Int) : EvF F Tryd.f84 (fun _ => []) [.v (.at (.int .i64 a0)), .v (.at (.int .i64 a1))] = (s_cmp_Compare_int a0 a1).bind fun r => some [.v (.at (.int .i64 r))] := by
  unfold EvF
  obtain ⟨p, hp⟩ := gn prims
  rw [← hp]
  obtain ⟨_, p_cmp, _⟩ := p
  simp only [Has_s_cmp_isNaN_int] at hF_s_cmp_isNaN_int
  generalize hal : (fun (F : St → (Ex → St → Option (List Arg)) → Option (List Arg)) lv => aloop F lv fuel) = al
  rw [s_cmp_Compare_int, ← hp]
  dsimp only
  conv => lhs; cbv
  rw [hF_s_cmp_isNaN_int a0]
  refine cO (fun hx2 => ?_) ?_
  · rw [hx2]; try rfl
  rintro r1 hx2
  rw [hx2]
  conv => lhs; cbv
  rw [hF_s_cmp_isNaN_int a1]
  refine cO (fun hx4 => ?_) ?_
  · rw [hx4]; try rfl
  rintro r3 hx4
  rw [hx4]
  conv => lhs; cbv
  refine cC (fun hb5 => ?_) fun hb5 => ?_
  · rw [hb5]
    conv => lhs; cbv
    refine cC (fun hb6 => ?_) fun hb6 => ?_
    · rw [hb6]
      conv => lhs; cbv
      try rfl
    rw [hb6]
    conv => lhs; cbv
    try rfl
  rw [hb5]
  conv => lhs; cbv
  refine cC (fun hb7 => ?_) fun hb7 => ?_
  · rw [hb7]
    conv => lhs; cbv
    try rfl
  rw [hb7]
  conv => lhs; cbv
  refine cC (fun hb8 => ?_) fun hb8 => ?_
  · rw [hb8]
    conv => lhs; cbv
    try rfl
  rw [hb8]
  conv => lhs; cbv
  refine cC (fun hb9 => ?_) fun hb9 => ?_
  · rw [hb9]
    conv => lhs; cbv
    try rfl
  rw [hb9]
  conv => lhs; cbv
  try rfl
set_option maxHeartbeats 40000000 in
theorem e_s_cmp_Or_int (F : Fns) (a0 : (List Int)) : EvF F Tryd.f83 (fun id => if id = 3 then [3, 6, 7, 8] else []) [.v (.sl 3 1 (List.map eI a0))] = (s_cmp_Or_int a0).bind fun r => some [.v (.at (.int .i64 r))] := by
  unfold EvF
  obtain ⟨p, hp⟩ := gn prims
  obtain ⟨m_int, hm_int⟩ := gn (List.map eI)
  rw [← hp, ← hm_int]
  obtain ⟨p_arith, p_cmp, _, _, _, _, _, _, _, _, _, _, _, _, _, p_len, p_int, p_nth, _⟩ := p
  have nth_int := @nthF_int
  simp only [← hp, ← hm_int] at nth_int
  generalize hal : (fun (F : St → (Ex → St → Option (List Arg)) → Option (List Arg)) lv => aloop F lv fuel) = al
  rw [s_cmp_Or_int]
  conv => lhs; cbv
  refine (loop_al hal (fun v1 => ⟨[dd, dd, dd, .c (.at (.int .i64 0)), dd, dd, .c (.rd true 3 1 (m_int a0)), .c (.at (.int .i64 (p_int (p_len (m_int a0))))), .c (.at (.int .i64 v1)), dd, dd, dd, dd, dd, dd, dd, dd, dd], [], 1⟩) (s_cmp_Or_int_l1 a0) (fun K g => match g with | .inl v1 => K (.exit 0) ⟨[dd, dd, dd, .c (.at (.int .i64 0)), dd, dd, .c (.rd true 3 1 (m_int a0)), .c (.at (.int .i64 (p_int (p_len (m_int a0))))), .c (.at (.int .i64 v1)), .c (.at (.bool false)), dd, dd, dd, dd, dd, dd, dd, dd], [], 2⟩ | .inr (r) => some [.v (.at (.int .i64 r))]) ?_ 0 _ (rfl)).trans (cL ?_)
  · rintro K1 hr1 v1 R1
    rw [s_cmp_Or_int_l1, ← hp, ← hm_int]
    dsimp only
    conv => lhs; cbv
    refine cD (fun hb2 => ?_) fun hb2 => ?_
    · rw [hb2]
      conv => lhs; cbv
      try rfl
    rw [hb2]
    conv => lhs; cbv
    rw [nth_int]
    refine cO (fun hx4 => ?_) ?_
    · rw [hx4]; try rfl
    rintro x3 hx4
    rw [hx4]
    conv => lhs; cbv
    refine cD (fun hb5 => ?_) fun hb5 => ?_
    · rw [hb5]
      conv => lhs; cbv
      try rfl
    rw [hb5]
    conv => lhs; cbv
    rw [hr1]
    conv => lhs; cbv
    try rfl
  rintro (w6 | w7)
  · conv => lhs; cbv
    try rfl
  rfl
set_option maxHeartbeats 40000000 in
theorem e_s_impl_compareLinks (F : Fns) (hF_s_cmp_Compare_int : Has_s_cmp_Compare_int F) (hF_s_cmp_Or_int : Has_s_cmp_Or_int F) (a0 : DLink) (a1 : DLink) : EvF F Tryd.f62 (fun _ => []) [.a [.at (.int .i64 a0.a), .at (.int .i64 a0.b)], .a [.at (.int .i64 a1.a), .at (.int .i64 a1.b)]] = (s_impl_compareLinks a0 a1).bind fun r => some [.v (.at (.int .i64 r))] := by
  unfold EvF
  obtain ⟨p, hp⟩ := gn prims
  obtain ⟨m_int, hm_int⟩ := gn (List.map eI)
  rw [← hp]
  have mcons_int := @mconsF_int
  have nild_int := @nildF_int
  simp only [Has_s_cmp_Compare_int, Has_s_cmp_Or_int, ← hm_int] at mcons_int nild_int hF_s_cmp_Compare_int hF_s_cmp_Or_int
  generalize hal : (fun (F : St → (Ex → St → Option (List Arg)) → Option (List Arg)) lv => aloop F lv fuel) = al
  rw [s_impl_compareLinks]
  conv => lhs; cbv
  rw [hF_s_cmp_Compare_int a0.a a1.a]
  refine cO (fun hx2 => ?_) ?_
  · rw [hx2]; try rfl
  rintro r1 hx2
  rw [hx2]
  conv => lhs; cbv
  rw [hF_s_cmp_Compare_int a0.b a1.b]
  refine cO (fun hx4 => ?_) ?_
  · rw [hx4]; try rfl
  rintro r3 hx4
  rw [hx4]
  conv => lhs; cbv
  have hc := hF_s_cmp_Or_int [r1, r3]
  simp only [mcons_int, nild_int] at hc
  rw [hc]
  clear hc
  refine cO (fun hx6 => ?_) ?_
  · rw [hx6]; try rfl
  rintro r5 hx6
  rw [hx6]
  conv => lhs; cbv
  try rfl
set_option maxHeartbeats 40000000 in
theorem e_s_impl_ValidTopology (F : Fns) (hF_s_impl_InRange : Has_s_impl_InRange F) (hF_s_impl_compareLinks : Has_s_impl_compareLinks F) (a0 : DTopology) : EvF F Tryd.f30 (fun id => if id = 2 then [1, 6, 7, 8] else []) [.a [.at (.int .i64 a0.size), .sl 92 2 (List.map eLink a0.links)]] = (s_impl_ValidTopology a0).bind fun r => some [.v (.at (.bool r))] := by
  unfold EvF
  obtain ⟨p, hp⟩ := gn prims
  obtain ⟨m_Link, hm_Link⟩ := gn (List.map eLink)
  rw [← hp, ← hm_Link]
  obtain ⟨p_arith, p_cmp, _, _, _, _, _, _, _, _, _, p_bnot, _, _, _, p_len, p_int, p_nth, _⟩ := p
  have nth_Link := @nthF_Link
  simp only [Has_s_impl_InRange, Has_s_impl_compareLinks, ← hp, ← hm_Link] at nth_Link hF_s_impl_InRange hF_s_impl_compareLinks
  generalize hal : (fun (F : St → (Ex → St → Option (List Arg)) → Option (List Arg)) lv => aloop F lv fuel) = al
  rw [s_impl_ValidTopology]
  conv => lhs; cbv
  refine (loop_al hal (fun v1 => ⟨[dd, .c (.ptr (0, 0, 0) 2 0 0), dd, dd, dd, dd, .c (.rd true 92 2 (m_Link a0.links)), .c (.at (.int .i64 (p_int (p_len (m_Link a0.links))))), .c (.at (.int .i64 v1)), dd, dd, dd, dd, dd, dd, dd, dd, dd, dd, dd, dd, dd, dd, dd, dd, dd, dd, dd, dd, dd, dd, dd, dd, dd, dd, dd, dd, dd, dd, dd, dd, dd, dd, dd, dd, dd, dd, dd, dd, dd, dd], [((0, 0, 0), ⟨false, true, 28, 2, [[.at (.int .i64 a0.size), .rd true 92 2 (m_Link a0.links)]]⟩)], 1⟩) (s_impl_ValidTopology_l1 a0) (fun K g => match g with | .inl v1 => K (.exit 0) ⟨[dd, .c (.ptr (0, 0, 0) 2 0 0), dd, dd, dd, dd, .c (.rd true 92 2 (m_Link a0.links)), .c (.at (.int .i64 (p_int (p_len (m_Link a0.links))))), .c (.at (.int .i64 v1)), .c (.at (.bool false)), dd, dd, dd, dd, dd, dd, dd, dd, dd, dd, dd, dd, dd, dd, dd, dd, dd, dd, dd, dd, dd, dd, dd, dd, dd, dd, dd, dd, dd, dd, dd, dd, dd, dd, dd, dd, dd, dd, dd, dd, dd], [((0, 0, 0), ⟨false, true, 28, 2, [[.at (.int .i64 a0.size), .rd true 92 2 (m_Link a0.links)]]⟩)], 2⟩ | .inr (r) => some [.v (.at (.bool r))]) ?_ 0 _ (rfl)).trans (cL ?_)
  · rintro K1 hr1 v1 R1
    rw [s_impl_ValidTopology_l1, ← hp, ← hm_Link]
    dsimp only
    conv => lhs; cbv
    refine cD (fun hb2 => ?_) fun hb2 => ?_
    · rw [hb2]
      conv => lhs; cbv
      try rfl
    rw [hb2]
    conv => lhs; cbv
    rw [nth_Link]
    refine cO (fun hx4 => ?_) ?_
    · rw [hx4]; try rfl
    rintro x3 hx4
    rw [hx4]
    conv => lhs; cbv
    rw [hF_s_impl_InRange x3.a 0 (p_arith .sub .i64 a0.size 1)]
    refine cO (fun hx6 => ?_) ?_
    · rw [hx6]; try rfl
    rintro r5 hx6
    rw [hx6]
    conv => lhs; cbv
    refine cC (fun hb7 => ?_) fun hb7 => ?_
    · rw [hb7]
      conv => lhs; cbv
      rw [hr1]
      conv => lhs; cbv
      try rfl
    rw [hb7]
    conv => lhs; cbv
    rw [hF_s_impl_InRange x3.b (p_arith .add .i64 x3.a 1) (p_arith .sub .i64 a0.size 1)]
    refine cO (fun hx9 => ?_) ?_
    · rw [hx9]; try rfl
    rintro r8 hx9
    rw [hx9]
    conv => lhs; cbv
    refine cC (fun hb10 => ?_) fun hb10 => ?_
    · rw [hb10]
      conv => lhs; cbv
      rw [hr1]
      conv => lhs; cbv
      try rfl
    rw [hb10]
    conv => lhs; cbv
    refine cD (fun hb11 => ?_) fun hb11 => ?_
    · rw [hb11]
      conv => lhs; cbv
      try rfl
    rw [hb11]
    conv => lhs; cbv
    rw [nth_Link]
    refine cO (fun hx13 => ?_) ?_
    · rw [hx13]; try rfl
    rintro x12 hx13
    rw [hx13]
    conv => lhs; cbv
    rw [hF_s_impl_compareLinks x12 x3]
    refine cO (fun hx15 => ?_) ?_
    · rw [hx15]; try rfl
    rintro r14 hx15
    rw [hx15]
    conv => lhs; cbv
    refine cD (fun hb16 => ?_) fun hb16 => ?_
    · rw [hb16]
      conv => lhs; cbv
      try rfl
    rw [hb16]
    conv => lhs; cbv
    rw [hr1]
    conv => lhs; cbv
    try rfl
  rintro (w17 | w20)
  · conv => lhs; cbv
    rw [hF_s_impl_InRange a0.size 1 6]
    refine cO (fun hx19 => ?_) ?_
    · rw [hx19]; try rfl
    rintro r18 hx19
    rw [hx19]
    conv => lhs; cbv
    try rfl
  rfl
set_option maxHeartbeats 40000000 in
theorem e_s_slices_Clone_Link (F : Fns) (a0 : (List DLink)) : EvF F Tryd.f63 (fun _ => []) [.v (.sl 92 2 (List.map eLink a0))] = (s_slices_Clone_Link a0).bind fun r => some [.v (.sl 92 2 (List.map eLink r))] := by
  unfold EvF
  obtain ⟨p, hp⟩ := gn prims
  obtain ⟨m_Link, hm_Link⟩ := gn (List.map eLink)
  rw [← hp, ← hm_Link]
  obtain ⟨_, _, _, _, _, _, _, _, _, _, _, _, _, _, _, p_len, _, _, _, _, _, _, _, p_rapp, p_rlen, p_addN, p_full, p_fits, _, p_own, p_opn, p_lend, _, _, p_both, _⟩ := p
  have h_both : @p_both = @Prims.both prims := congrArg (fun q : Prims => @Prims.both q) hp
  have addn0_Link := @addn0F_Link
  have fits0_Link := @fits0F_Link
  have full_Link := full_gen eLink
  have lend_Link := @lendF_Link
  have leni_Link := @leniF_Link
  have nild_Link := @nildF_Link
  have own_Link := own_gen eLink (fun _ => rfl)
  have rapp0_Link := @rapp0F_Link
  simp only [← hp, ← hm_Link] at addn0_Link fits0_Link full_Link lend_Link nild_Link own_Link rapp0_Link
  simp only [← hp, ← hm_Link] at leni_Link
  generalize hal : (fun (F : St → (Ex → St → Option (List Arg)) → Option (List Arg)) lv => aloop F lv fuel) = al
  rw [s_slices_Clone_Link, ← hp, ← hm_Link]
  dsimp only
  conv => lhs; cbv
  rw [h_both]
  refine bothO_eq ?_ (fun h0 => ?_)
  · conv => lhs; cbv
    rw [lend_Link]
    conv => lhs; cbv
    refine cD (fun hb1 => ?_) fun hb1 => ?_
    · rw [if_neg (fun x => Bool.noConfusion (hb1.symm.trans x.1))]; try rfl
    rw [if_pos ⟨hb1, trivial⟩]
    conv => lhs; cbv
    rw [rapp0_Link, addn0_Link]
    conv => lhs; cbv
    rw [if_pos (full_Link _)]
    conv => lhs; cbv
    rw [own_Link]
    conv => lhs; cbv
    try rfl
  · obtain rfl := leni_Link _ h0
    rw [fits0_Link]
    simp only [cond_true, Option.bind_some, nild_Link]
set_option maxHeartbeats 40000000 in
theorem e_s_impl_copyTopology (F : Fns) (hF_s_slices_Clone_Link : Has_s_slices_Clone_Link F) (a0 : DTopology) : EvF F Tryd.f31 (fun _ => []) [.a [.at (.int .i64 a0.size), .sl 92 2 (List.map eLink a0.links)]] = (s_impl_copyTopology a0).bind fun r => some [.a [.at (.int .i64 r.size), .sl 92 2 (List.map eLink r.links)]] := by
  unfold EvF
  obtain ⟨p, hp⟩ := gn prims
  obtain ⟨m_Link, hm_Link⟩ := gn (List.map eLink)
  rw [← hp, ← hm_Link]
  obtain ⟨_, _, _, _, _, _, _, _, _, _, _, _, _, _, _, p_len, _, _, _, _, _, _, _, _, _, _, p_full, _, _, p_own, p_opn, _⟩ := p
  have full_Link := full_gen eLink
  have own_Link := own_gen eLink (fun _ => rfl)
  simp only [Has_s_slices_Clone_Link, ← hp, ← hm_Link] at full_Link own_Link hF_s_slices_Clone_Link
  generalize hal : (fun (F : St → (Ex → St → Option (List Arg)) → Option (List Arg)) lv => aloop F lv fuel) = al
  rw [s_impl_copyTopology]
  conv => lhs; cbv
  rw [hF_s_slices_Clone_Link a0.links]
  refine cO (fun hx2 => ?_) ?_
  · rw [hx2]; try rfl
  rintro r1 hx2
  rw [hx2]
  conv => lhs; cbv
  rw [if_pos (full_Link _)]
  conv => lhs; cbv
  rw [own_Link]
  conv => lhs; cbv
  try rfl
set_option maxHeartbeats 40000000 in
theorem e_s_impl_FormatInt (F : Fns) (hF_s_strconv_Itoa : Has_s_strconv_Itoa F) (a0 : Int) : EvF F Tryd.f49 (fun _ => []) [.v (.at (.int .i64 a0))] = (s_impl_FormatInt a0).bind fun r => some [.v (.at (.string r))] := by
  unfold EvF
  obtain ⟨p, hp⟩ := gn prims
  rw [← hp]
  simp only [Has_s_strconv_Itoa] at hF_s_strconv_Itoa
  generalize hal : (fun (F : St → (Ex → St → Option (List Arg)) → Option (List Arg)) lv => aloop F lv fuel) = al
  rw [s_impl_FormatInt]
  conv => lhs; cbv
  rw [hF_s_strconv_Itoa a0]
  refine cO (fun hx2 => ?_) ?_
  · rw [hx2]; try rfl
  rintro r1 hx2
  rw [hx2]
  conv => lhs; cbv
  try rfl
set_option maxHeartbeats 40000000 in
theorem e_s_impl_memberName (F : Fns) (hF_s_impl_FormatInt : Has_s_impl_FormatInt F) (a0 : Int) : EvF F Tryd.f33 (fun _ => []) [.v (.at (.int .i64 a0))] = (s_impl_memberName a0).bind fun r => some [.a [.sl 9 1 (List.map eS r)]] := by
  unfold EvF
  obtain ⟨p, hp⟩ := gn prims
  obtain ⟨m_string, hm_string⟩ := gn (List.map eS)
  rw [← hp, ← hm_string]
  have mcons_string := @mconsF_string
  have nild_string := @nildF_string
  simp only [Has_s_impl_FormatInt, ← hm_string] at mcons_string nild_string hF_s_impl_FormatInt
  generalize hal : (fun (F : St → (Ex → St → Option (List Arg)) → Option (List Arg)) lv => aloop F lv fuel) = al
  rw [s_impl_memberName]
  conv => lhs; cbv
  rw [hF_s_impl_FormatInt a0]
  refine cO (fun hx2 => ?_) ?_
  · rw [hx2]; try rfl
  rintro r1 hx2
  rw [hx2]
  conv => lhs; cbv
  first | done | rfl | (simp only [Option.bind_some, mcons_string, nild_string]; try rfl)
set_option maxHeartbeats 40000000 in
theorem e_s_slices_Clone_string (F : Fns) (a0 : (List ByteArray)) : EvF F Tryd.f77 (fun _ => []) [.v (.sl 9 1 (List.map eS a0))] = (s_slices_Clone_string a0).bind fun r => some [.v (.sl 9 1 (List.map eS r))] := by
  unfold EvF
  obtain ⟨p, hp⟩ := gn prims
  obtain ⟨m_string, hm_string⟩ := gn (List.map eS)
  rw [← hp, ← hm_string]
  obtain ⟨_, _, _, _, _, _, _, _, _, _, _, _, _, _, _, p_len, _, _, _, _, _, _, _, p_rapp, p_rlen, p_addN, p_full, p_fits, _, p_own, p_opn, p_lend, _, _, p_both, _⟩ := p
  have h_both : @p_both = @Prims.both prims := congrArg (fun q : Prims => @Prims.both q) hp
  have addn0_string := @addn0F_string
  have fits0_string := @fits0F_string
  have full_string := full_gen eS
  have lend_string := @lendF_string
  have leni_string := @leniF_string
  have nild_string := @nildF_string
  have own_string := own_gen eS (fun _ => rfl)
  have rapp0_string := @rapp0F_string
  simp only [← hp, ← hm_string] at addn0_string fits0_string full_string lend_string nild_string own_string rapp0_string
  simp only [← hp, ← hm_string] at leni_string
  generalize hal : (fun (F : St → (Ex → St → Option (List Arg)) → Option (List Arg)) lv => aloop F lv fuel) = al
  rw [s_slices_Clone_string, ← hp, ← hm_string]
  dsimp only
  conv => lhs; cbv
  rw [h_both]
  refine bothO_eq ?_ (fun h0 => ?_)
  · conv => lhs; cbv
    rw [lend_string]
    conv => lhs; cbv
    refine cD (fun hb1 => ?_) fun hb1 => ?_
    · rw [if_neg (fun x => Bool.noConfusion (hb1.symm.trans x.1))]; try rfl
    rw [if_pos ⟨hb1, trivial⟩]
    conv => lhs; cbv
    rw [rapp0_string, addn0_string]
    conv => lhs; cbv
    rw [if_pos (full_string _)]
    conv => lhs; cbv
    rw [own_string]
    conv => lhs; cbv
    try rfl
  · obtain rfl := leni_string _ h0
    rw [fits0_string]
    simp only [cond_true, Option.bind_some, nild_string]
set_option maxHeartbeats 40000000 in
theorem e_s_impl_copyName (F : Fns) (hF_s_slices_Clone_string : Has_s_slices_Clone_string F) (a0 : (List ByteArray)) : EvF F Tryd.f64 (fun _ => []) [.a [.sl 9 1 (List.map eS a0)]] = (s_impl_copyName a0).bind fun r => some [.a [.sl 9 1 (List.map eS r)]] := by
  unfold EvF
  obtain ⟨p, hp⟩ := gn prims
  obtain ⟨m_string, hm_string⟩ := gn (List.map eS)
  rw [← hp, ← hm_string]
  obtain ⟨_, _, _, _, _, _, _, _, _, _, _, _, _, _, _, p_len, _, _, _, _, _, _, _, _, _, _, p_full, _, _, p_own, p_opn, _⟩ := p
  have full_string := full_gen eS
  have own_string := own_gen eS (fun _ => rfl)
  simp only [Has_s_slices_Clone_string, ← hp, ← hm_string] at full_string own_string hF_s_slices_Clone_string
  generalize hal : (fun (F : St → (Ex → St → Option (List Arg)) → Option (List Arg)) lv => aloop F lv fuel) = al
  rw [s_impl_copyName]
  conv => lhs; cbv
  rw [hF_s_slices_Clone_string a0]
  refine cO (fun hx2 => ?_) ?_
  · rw [hx2]; try rfl
  rintro r1 hx2
  rw [hx2]
  conv => lhs; cbv
  rw [if_pos (full_string _)]
  conv => lhs; cbv
  rw [own_string]
  conv => lhs; cbv
  try rfl
set_option maxHeartbeats 40000000 in
theorem e_s_impl_NewMember (F : Fns) (hF_s_impl_copyName : Has_s_impl_copyName F) (a0 : (List ByteArray)) : EvF F Tryd.f32 (fun _ => []) [.a [.sl 9 1 (List.map eS a0)]] = (s_impl_NewMember a0).bind fun r => some [.a [.sl 9 1 (List.map eS r.name), .sl 124 2 (List.map eTableEntry r.vector), .sl 126 3 (List.map ePublication r.publications)]] := by
  unfold EvF
  obtain ⟨p, hp⟩ := gn prims
  obtain ⟨m_Publication, hm_Publication⟩ := gn (List.map ePublication)
  obtain ⟨m_TableEntry, hm_TableEntry⟩ := gn (List.map eTableEntry)
  obtain ⟨m_string, hm_string⟩ := gn (List.map eS)
  rw [← hp, ← hm_Publication, ← hm_TableEntry, ← hm_string]
  obtain ⟨_, _, _, _, _, _, _, _, _, _, _, _, _, _, _, p_len, _, _, _, _, _, _, _, _, _, _, p_full, _, _, p_own, p_opn, _⟩ := p
  have full_string := full_gen eS
  have nild_Publication := @nildF_Publication
  have nild_TableEntry := @nildF_TableEntry
  have own_string := own_gen eS (fun _ => rfl)
  simp only [Has_s_impl_copyName, ← hp, ← hm_string, ← hm_Publication, ← hm_TableEntry] at full_string nild_Publication nild_TableEntry own_string hF_s_impl_copyName
  generalize hal : (fun (F : St → (Ex → St → Option (List Arg)) → Option (List Arg)) lv => aloop F lv fuel) = al
  rw [s_impl_NewMember]
  conv => lhs; cbv
  rw [hF_s_impl_copyName a0]
  refine cO (fun hx2 => ?_) ?_
  · rw [hx2]; try rfl
  rintro r1 hx2
  rw [hx2]
  conv => lhs; cbv
  rw [if_pos (full_string _)]
  conv => lhs; cbv
  rw [own_string]
  conv => lhs; cbv
  first | done | rfl | (simp only [Option.bind_some, nild_TableEntry, nild_Publication]; try rfl)
set_option maxHeartbeats 40000000 in
theorem e_s_impl_NewSyncGroup (F : Fns) (hF_s_impl_ValidTopology : Has_s_impl_ValidTopology F) (hF_s_impl_copyTopology : Has_s_impl_copyTopology F) (hF_s_impl_memberName : Has_s_impl_memberName F) (hF_s_impl_NewMember : Has_s_impl_NewMember F) (a0 : DTopology) : EvF F Tryd.f8 (fun id => if id = 5 then [2, 3, 13, 14] else []) [.a [.at (.int .i64 a0.size), .sl 92 2 (List.map eLink a0.links)]] = (s_impl_NewSyncGroup a0).bind fun r => some [.a [.at (.int .i64 r.topology.size), .sl 92 2 (List.map eLink r.topology.links), .sl 69 3 (List.map eMember r.members)]] := by
  unfold EvF
  obtain ⟨p, hp⟩ := gn prims
  obtain ⟨m_Link, hm_Link⟩ := gn (List.map eLink)
  obtain ⟨m_Member, hm_Member⟩ := gn (List.map eMember)
  obtain ⟨m_Publication, hm_Publication⟩ := gn (List.map ePublication)
  obtain ⟨m_TableEntry, hm_TableEntry⟩ := gn (List.map eTableEntry)
  obtain ⟨m_string, hm_string⟩ := gn (List.map eS)
  rw [← hp, ← hm_Link, ← hm_Member]
  obtain ⟨p_arith, p_cmp, _, _, _, _, _, _, _, _, _, p_bnot, _, _, _, p_len, _, _, _, _, _, _, _, p_rapp, p_rlen, p_addN, p_full, p_fits, p_frz, p_own, p_opn, _⟩ := p
  have addn_Member := addn_gen eMember
  have frz_string := frz_gen eS (fun _ => rfl)
  have full_Link := full_gen eLink
  have full_Member := full_gen eMember
  have full_Publication := full_gen ePublication
  have full_TableEntry := full_gen eTableEntry
  have full_string := full_gen eS
  have len0_Link := @len0F_Link
  have len0_Member := @len0F_Member
  have lit_Member := @litF_Member
  have nild_Link := @nildF_Link
  have nild_Member := @nildF_Member
  have opn0_Link := @opn0F_Link
  have opn0_Member := @opn0F_Member
  have own_Link := own_gen eLink (fun _ => rfl)
  have own_Member := own_gen eMember (fun _ => rfl)
  have own_Publication := own_gen ePublication (fun _ => rfl)
  have own_TableEntry := own_gen eTableEntry (fun _ => rfl)
  have own_string := own_gen eS (fun _ => rfl)
  have rapp_Member := rapp_gen eMember
  simp only [Has_s_impl_ValidTopology, Has_s_impl_copyTopology, Has_s_impl_memberName, Has_s_impl_NewMember, ← hp, ← hm_Member, ← hm_string, ← hm_Link, ← hm_Publication, ← hm_TableEntry] at addn_Member frz_string full_Link full_Member full_Publication full_TableEntry full_string len0_Link len0_Member lit_Member nild_Link nild_Member opn0_Link opn0_Member own_Link own_Member own_Publication own_TableEntry own_string rapp_Member hF_s_impl_ValidTopology hF_s_impl_copyTopology hF_s_impl_memberName hF_s_impl_NewMember
  generalize hal : (fun (F : St → (Ex → St → Option (List Arg)) → Option (List Arg)) lv => aloop F lv fuel) = al
  rw [s_impl_NewSyncGroup, ← hp]
  dsimp only
  conv => lhs; cbv
  rw [hF_s_impl_ValidTopology a0]
  refine cO (fun hx2 => ?_) ?_
  · rw [hx2]; try rfl
  rintro r1 hx2
  rw [hx2]
  conv => lhs; cbv
  refine cC (fun hb3 => ?_) fun hb3 => ?_
  · rw [hb3]
    conv => lhs; cbv
    first | done | rfl | (simp only [Option.bind_some, nild_Link, nild_Member]; try rfl)
  rw [hb3]
  conv => lhs; cbv
  rw [hF_s_impl_copyTopology a0]
  refine cO (fun hx5 => ?_) ?_
  · rw [hx5]; try rfl
  rintro r4 hx5
  rw [hx5]
  conv => lhs; cbv
  refine (loop_al hal (fun x => match x with | (v6, v7) => ⟨[dd, dd, .c (.ptr (0, 0, 0) 3 0 0), .c (.ptr (0, 0, 3) 3 0 0), dd, dd, dd, dd, dd, dd, dd, dd, dd, .c (.at (.int .i64 a0.size)), .c (.at (.int .i64 v6)), dd, dd, dd, dd, dd, dd, dd, dd, dd, dd, dd, dd], [((0, 0, 3), ⟨false, true, 31, 3, [[.at (.int .i64 r4.size), .row (0, 0, 4) 92 2 0 (p_len (m_Link r4.links)), .row (0, 0, 5) 69 3 0 (p_len (m_Member v7))]]⟩), ((0, 0, 0), ⟨false, true, 31, 3, [[.at (.int .i64 0), .row (0, 0, 1) 92 2 0 (p_len (m_Link [])), .row (0, 0, 2) 69 3 0 (p_len (m_Member []))]]⟩), ((0, 0, 1), ⟨true, false, 92, 2, p_opn (m_Link [])⟩), ((0, 0, 2), ⟨true, false, 69, 3, p_opn (m_Member [])⟩), ((0, 0, 4), ⟨true, false, 92, 2, p_opn (m_Link r4.links)⟩), ((0, 0, 5), ⟨true, false, 69, 3, p_opn (m_Member v7)⟩)], 1⟩) (s_impl_NewSyncGroup_l1 a0) (fun K g => match g with | (v6, v7) => K (.exit 0) ⟨[dd, dd, .c (.ptr (0, 0, 0) 3 0 0), .c (.ptr (0, 0, 3) 3 0 0), dd, dd, dd, dd, dd, dd, dd, dd, dd, .c (.at (.int .i64 a0.size)), .c (.at (.int .i64 v6)), .c (.at (.bool false)), dd, dd, dd, dd, dd, dd, dd, dd, dd, dd, dd], [((0, 0, 3), ⟨false, true, 31, 3, [[.at (.int .i64 r4.size), .row (0, 0, 4) 92 2 0 (p_len (m_Link r4.links)), .row (0, 0, 5) 69 3 0 (p_len (m_Member v7))]]⟩), ((0, 0, 0), ⟨false, true, 31, 3, [[.at (.int .i64 0), .row (0, 0, 1) 92 2 0 (p_len (m_Link [])), .row (0, 0, 2) 69 3 0 (p_len (m_Member []))]]⟩), ((0, 0, 1), ⟨true, false, 92, 2, p_opn (m_Link [])⟩), ((0, 0, 2), ⟨true, false, 69, 3, p_opn (m_Member [])⟩), ((0, 0, 4), ⟨true, false, 92, 2, p_opn (m_Link r4.links)⟩), ((0, 0, 5), ⟨true, false, 69, 3, p_opn (m_Member v7)⟩)], 2⟩) ?_ (0, []) _ (by simp only [opn0_Link, len0_Link, opn0_Member, len0_Member]; rfl)).trans (cL ?_)
  · rintro K1 hr1 ⟨v6, v7⟩ R1
    rw [s_impl_NewSyncGroup_l1, ← hp, ← hm_Member]
    dsimp only
    conv => lhs; cbv
    refine cD (fun hb8 => ?_) fun hb8 => ?_
    · rw [hb8]
      conv => lhs; cbv
      try rfl
    rw [hb8]
    conv => lhs; cbv
    rw [hF_s_impl_memberName v6]
    refine cO (fun hx10 => ?_) ?_
    · rw [hx10]; try rfl
    rintro r9 hx10
    rw [hx10]
    conv => lhs; cbv
    rw [frz_string]
    conv => lhs; cbv
    rw [hF_s_impl_NewMember r9]
    refine cO (fun hx12 => ?_) ?_
    · rw [hx12]; try rfl
    rintro r11 hx12
    rw [hx12]
    conv => lhs; cbv
    rw [if_pos (full_string _)]
    conv => lhs; cbv
    rw [own_string]
    conv => lhs; cbv
    rw [if_pos (full_TableEntry _)]
    conv => lhs; cbv
    rw [own_TableEntry]
    conv => lhs; cbv
    rw [if_pos (full_Publication _)]
    conv => lhs; cbv
    rw [own_Publication]
    conv => lhs; cbv
    rw [lit_Member]
    refine cD (fun hb13 => ?_) fun hb13 => ?_
    · rw [if_neg (fun x => Bool.noConfusion (hb13.symm.trans x.2.1))]; try rfl
    rw [if_pos ⟨full_Member _, hb13, trivial⟩]
    conv => lhs; cbv
    rw [rapp_Member, addn_Member]
    conv => lhs; cbv
    try rfl
  rintro ⟨w14, w15⟩
  conv => lhs; cbv
  rw [if_pos (full_Link _)]
  conv => lhs; cbv
  rw [own_Link]
  conv => lhs; cbv
  rw [if_pos (full_Member _)]
  conv => lhs; cbv
  rw [own_Member]
  conv => lhs; cbv
  try rfl
set_option maxHeartbeats 40000000 in
theorem e_s_laws_eqLink (F : Fns) (a0 : DLink) (a1 : DLink) : EvF F Tryd.f66 (fun _ => []) [.a [.at (.int .i64 a0.a), .at (.int .i64 a0.b)], .a [.at (.int .i64 a1.a), .at (.int .i64 a1.b)]] = (s_laws_eqLink a0 a1).bind fun r => some [.v (.at (.bool r))] := by
  unfold EvF
  obtain ⟨p, hp⟩ := gn prims
  rw [← hp]
  obtain ⟨_, p_cmp, _⟩ := p
  generalize hal : (fun (F : St → (Ex → St → Option (List Arg)) → Option (List Arg)) lv => aloop F lv fuel) = al
  rw [s_laws_eqLink, ← hp]
  dsimp only
  conv => lhs; cbv
  refine cC (fun hb1 => ?_) fun hb1 => ?_
  · rw [hb1]
    conv => lhs; cbv
    try rfl
  rw [hb1]
  conv => lhs; cbv
  refine cC (fun hb2 => ?_) fun hb2 => ?_
  · rw [hb2]
    conv => lhs; cbv
    try rfl
  rw [hb2]
  conv => lhs; cbv
  try rfl
set_option maxHeartbeats 40000000 in
theorem e_s_laws_eqLinkS (F : Fns) (hF_s_laws_eqLink : Has_s_laws_eqLink F) (a0 : (List DLink)) (a1 : (List DLink)) : EvF F Tryd.f35 (fun id => if id = 4 then [0, 1, 5] else []) [.v (.sl 92 2 (List.map eLink a0)), .v (.sl 92 2 (List.map eLink a1))] = (s_laws_eqLinkS a0 a1).bind fun r => some [.v (.at (.bool r))] := by
  unfold EvF
  obtain ⟨p, hp⟩ := gn prims
  obtain ⟨m_Link, hm_Link⟩ := gn (List.map eLink)
  rw [← hp, ← hm_Link]
  obtain ⟨p_arith, p_cmp, _, _, _, _, _, _, _, _, _, p_bnot, _, _, _, p_len, p_int, p_nth, _⟩ := p
  have nth_Link := @nthF_Link
  simp only [Has_s_laws_eqLink, ← hp, ← hm_Link] at nth_Link hF_s_laws_eqLink
  generalize hal : (fun (F : St → (Ex → St → Option (List Arg)) → Option (List Arg)) lv => aloop F lv fuel) = al
  rw [s_laws_eqLinkS, ← hp, ← hm_Link]
  dsimp only
  conv => lhs; cbv
  refine cC (fun hb1 => ?_) fun hb1 => ?_
  · rw [hb1]
    conv => lhs; cbv
    try rfl
  rw [hb1]
  conv => lhs; cbv
  refine (loop_al hal (fun v2 => ⟨[.c (.rd true 92 2 (m_Link a0)), .c (.rd true 92 2 (m_Link a1)), dd, dd, dd, .c (.at (.int .i64 v2)), dd, dd, dd, dd, dd, dd, dd, dd, dd, dd, dd, dd, dd, dd, dd, dd, dd, dd, dd, dd, dd], [], 1⟩) (s_laws_eqLinkS_l1 a0 a1) (fun K g => match g with | .inl v2 => K (.exit 0) ⟨[.c (.rd true 92 2 (m_Link a0)), .c (.rd true 92 2 (m_Link a1)), dd, dd, dd, .c (.at (.int .i64 v2)), dd, dd, dd, dd, dd, .c (.at (.int .i64 v2)), .c (.rd true 92 2 (m_Link a0)), .c (.at (.int .i64 (p_int (p_len (m_Link a0))))), .c (.at (.bool false)), dd, dd, dd, dd, dd, dd, dd, dd, dd, dd, dd, dd], [], 2⟩ | .inr (r) => some [.v (.at (.bool r))]) ?_ 0 _ (rfl)).trans (cL ?_)
  · rintro K1 hr1 v2 R1
    rw [s_laws_eqLinkS_l1, ← hp, ← hm_Link]
    dsimp only
    conv => lhs; cbv
    refine cD (fun hb3 => ?_) fun hb3 => ?_
    · rw [hb3]
      conv => lhs; cbv
      try rfl
    rw [hb3]
    conv => lhs; cbv
    rw [nth_Link]
    refine cO (fun hx5 => ?_) ?_
    · rw [hx5]; try rfl
    rintro x4 hx5
    rw [hx5]
    conv => lhs; cbv
    rw [nth_Link]
    refine cO (fun hx7 => ?_) ?_
    · rw [hx7]; try rfl
    rintro x6 hx7
    rw [hx7]
    conv => lhs; cbv
    rw [hF_s_laws_eqLink x4 x6]
    refine cO (fun hx9 => ?_) ?_
    · rw [hx9]; try rfl
    rintro r8 hx9
    rw [hx9]
    conv => lhs; cbv
    refine cD (fun hb10 => ?_) fun hb10 => ?_
    · rw [hb10]
      conv => lhs; cbv
      try rfl
    rw [hb10]
    conv => lhs; cbv
    rw [hr1]
    conv => lhs; cbv
    try rfl
  rintro (w11 | w12)
  · conv => lhs; cbv
    try rfl
  rfl
set_option maxHeartbeats 40000000 in
theorem e_s_laws_eqTopology (F : Fns) (hF_s_laws_eqLinkS : Has_s_laws_eqLinkS F) (a0 : DTopology) (a1 : DTopology) : EvF F Tryd.f10 (fun _ => []) [.a [.at (.int .i64 a0.size), .sl 92 2 (List.map eLink a0.links)], .a [.at (.int .i64 a1.size), .sl 92 2 (List.map eLink a1.links)]] = (s_laws_eqTopology a0 a1).bind fun r => some [.v (.at (.bool r))] := by
  unfold EvF
  obtain ⟨p, hp⟩ := gn prims
  obtain ⟨m_Link, hm_Link⟩ := gn (List.map eLink)
  rw [← hp, ← hm_Link]
  obtain ⟨_, p_cmp, _, _, _, _, _, _, _, _, _, p_bnot, _⟩ := p
  simp only [Has_s_laws_eqLinkS, ← hm_Link] at hF_s_laws_eqLinkS
  generalize hal : (fun (F : St → (Ex → St → Option (List Arg)) → Option (List Arg)) lv => aloop F lv fuel) = al
  rw [s_laws_eqTopology, ← hp]
  dsimp only
  conv => lhs; cbv
  refine cC (fun hb1 => ?_) fun hb1 => ?_
  · rw [hb1]
    conv => lhs; cbv
    try rfl
  rw [hb1]
  conv => lhs; cbv
  rw [hF_s_laws_eqLinkS a0.links a1.links]
  refine cO (fun hx3 => ?_) ?_
  · rw [hx3]; try rfl
  rintro r2 hx3
  rw [hx3]
  conv => lhs; cbv
  refine cC (fun hb4 => ?_) fun hb4 => ?_
  · rw [hb4]
    conv => lhs; cbv
    try rfl
  rw [hb4]
  conv => lhs; cbv
  try rfl
set_option maxHeartbeats 40000000 in
theorem e_s_laws_eqStringS (F : Fns) (a0 : (List ByteArray)) (a1 : (List ByteArray)) : EvF F Tryd.f50 (fun id => if id = 4 then [0, 1, 5] else []) [.v (.sl 9 1 (List.map eS a0)), .v (.sl 9 1 (List.map eS a1))] = (s_laws_eqStringS a0 a1).bind fun r => some [.v (.at (.bool r))] := by
  unfold EvF
  obtain ⟨p, hp⟩ := gn prims
  obtain ⟨m_string, hm_string⟩ := gn (List.map eS)
  rw [← hp, ← hm_string]
  obtain ⟨p_arith, p_cmp, _, p_scmp, _, _, _, _, _, _, _, _, _, _, _, p_len, p_int, p_nth, _⟩ := p
  have nth_string := @nthF_string
  simp only [← hp, ← hm_string] at nth_string
  generalize hal : (fun (F : St → (Ex → St → Option (List Arg)) → Option (List Arg)) lv => aloop F lv fuel) = al
  rw [s_laws_eqStringS, ← hp, ← hm_string]
  dsimp only
  conv => lhs; cbv
  refine cC (fun hb1 => ?_) fun hb1 => ?_
  · rw [hb1]
    conv => lhs; cbv
    try rfl
  rw [hb1]
  conv => lhs; cbv
  refine (loop_al hal (fun v2 => ⟨[.c (.rd true 9 1 (m_string a0)), .c (.rd true 9 1 (m_string a1)), dd, dd, dd, .c (.at (.int .i64 v2)), dd, dd, dd, dd, dd, dd, dd, dd, dd, dd, dd, dd, dd, dd, dd, dd, dd, dd, dd, dd], [], 1⟩) (s_laws_eqStringS_l1 a0 a1) (fun K g => match g with | .inl v2 => K (.exit 0) ⟨[.c (.rd true 9 1 (m_string a0)), .c (.rd true 9 1 (m_string a1)), dd, dd, dd, .c (.at (.int .i64 v2)), dd, dd, dd, dd, dd, .c (.at (.int .i64 v2)), .c (.rd true 9 1 (m_string a0)), .c (.at (.int .i64 (p_int (p_len (m_string a0))))), .c (.at (.bool false)), dd, dd, dd, dd, dd, dd, dd, dd, dd, dd, dd], [], 2⟩ | .inr (r) => some [.v (.at (.bool r))]) ?_ 0 _ (rfl)).trans (cL ?_)
  · rintro K1 hr1 v2 R1
    rw [s_laws_eqStringS_l1, ← hp, ← hm_string]
    dsimp only
    conv => lhs; cbv
    refine cD (fun hb3 => ?_) fun hb3 => ?_
    · rw [hb3]
      conv => lhs; cbv
      try rfl
    rw [hb3]
    conv => lhs; cbv
    rw [nth_string]
    refine cO (fun hx5 => ?_) ?_
    · rw [hx5]; try rfl
    rintro x4 hx5
    rw [hx5]
    conv => lhs; cbv
    rw [nth_string]
    refine cO (fun hx7 => ?_) ?_
    · rw [hx7]; try rfl
    rintro x6 hx7
    rw [hx7]
    conv => lhs; cbv
    refine cD (fun hb8 => ?_) fun hb8 => ?_
    · rw [hb8]
      conv => lhs; cbv
      try rfl
    rw [hb8]
    conv => lhs; cbv
    rw [hr1]
    conv => lhs; cbv
    try rfl
  rintro (w9 | w10)
  · conv => lhs; cbv
    try rfl
  rfl
set_option maxHeartbeats 40000000 in
theorem e_s_laws_eqName (F : Fns) (hF_s_laws_eqStringS : Has_s_laws_eqStringS F) (a0 : (List ByteArray)) (a1 : (List ByteArray)) : EvF F Tryd.f20 (fun _ => []) [.a [.sl 9 1 (List.map eS a0)], .a [.sl 9 1 (List.map eS a1)]] = (s_laws_eqName a0 a1).bind fun r => some [.v (.at (.bool r))] := by
  unfold EvF
  obtain ⟨p, hp⟩ := gn prims
  obtain ⟨m_string, hm_string⟩ := gn (List.map eS)
  rw [← hp, ← hm_string]
  obtain ⟨_, _, _, _, _, _, _, _, _, _, _, p_bnot, _⟩ := p
  simp only [Has_s_laws_eqStringS, ← hm_string] at hF_s_laws_eqStringS
  generalize hal : (fun (F : St → (Ex → St → Option (List Arg)) → Option (List Arg)) lv => aloop F lv fuel) = al
  rw [s_laws_eqName, ← hp]
  dsimp only
  conv => lhs; cbv
  rw [hF_s_laws_eqStringS a0 a1]
  refine cO (fun hx2 => ?_) ?_
  · rw [hx2]; try rfl
  rintro r1 hx2
  rw [hx2]
  conv => lhs; cbv
  refine cC (fun hb3 => ?_) fun hb3 => ?_
  · rw [hb3]
    conv => lhs; cbv
    try rfl
  rw [hb3]
  conv => lhs; cbv
  try rfl
set_option maxHeartbeats 40000000 in
theorem e_s_laws_eqTableEntry (F : Fns) (hF_s_laws_eqName : Has_s_laws_eqName F) (a0 : DTableEntry) (a1 : DTableEntry) : EvF F Tryd.f99 (fun _ => []) [.a [.sl 9 1 (List.map eS a0.name), .at (.int .i64 a0.value)], .a [.sl 9 1 (List.map eS a1.name), .at (.int .i64 a1.value)]] = (s_laws_eqTableEntry a0 a1).bind fun r => some [.v (.at (.bool r))] := by
  unfold EvF
  obtain ⟨p, hp⟩ := gn prims
  obtain ⟨m_string, hm_string⟩ := gn (List.map eS)
  rw [← hp, ← hm_string]
  obtain ⟨_, p_cmp, _, _, _, _, _, _, _, _, _, p_bnot, _⟩ := p
  simp only [Has_s_laws_eqName, ← hm_string] at hF_s_laws_eqName
  generalize hal : (fun (F : St → (Ex → St → Option (List Arg)) → Option (List Arg)) lv => aloop F lv fuel) = al
  rw [s_laws_eqTableEntry, ← hp]
  dsimp only
  conv => lhs; cbv
  rw [hF_s_laws_eqName a0.name a1.name]
  refine cO (fun hx2 => ?_) ?_
  · rw [hx2]; try rfl
  rintro r1 hx2
  rw [hx2]
  conv => lhs; cbv
  refine cC (fun hb3 => ?_) fun hb3 => ?_
  · rw [hb3]
    conv => lhs; cbv
    try rfl
  rw [hb3]
  conv => lhs; cbv
  refine cC (fun hb4 => ?_) fun hb4 => ?_
  · rw [hb4]
    conv => lhs; cbv
    try rfl
  rw [hb4]
  conv => lhs; cbv
  try rfl
set_option maxHeartbeats 40000000 in
theorem e_s_laws_eqTableEntryS (F : Fns) (hF_s_laws_eqTableEntry : Has_s_laws_eqTableEntry F) (a0 : (List DTableEntry)) (a1 : (List DTableEntry)) : EvF F Tryd.f95 (fun id => if id = 4 then [0, 1, 5] else []) [.v (.sl 124 2 (List.map eTableEntry a0)), .v (.sl 124 2 (List.map eTableEntry a1))] = (s_laws_eqTableEntryS a0 a1).bind fun r => some [.v (.at (.bool r))] := by
  unfold EvF
  obtain ⟨p, hp⟩ := gn prims
  obtain ⟨m_TableEntry, hm_TableEntry⟩ := gn (List.map eTableEntry)
  obtain ⟨m_string, hm_string⟩ := gn (List.map eS)
  rw [← hp, ← hm_TableEntry]
  obtain ⟨p_arith, p_cmp, _, _, _, _, _, _, _, _, _, p_bnot, _, _, _, p_len, p_int, p_nth, _⟩ := p
  have nth_TableEntry := @nthF_TableEntry
  simp only [Has_s_laws_eqTableEntry, ← hp, ← hm_TableEntry, ← hm_string] at nth_TableEntry hF_s_laws_eqTableEntry
  generalize hal : (fun (F : St → (Ex → St → Option (List Arg)) → Option (List Arg)) lv => aloop F lv fuel) = al
  rw [s_laws_eqTableEntryS, ← hp, ← hm_TableEntry]
  dsimp only
  conv => lhs; cbv
  refine cC (fun hb1 => ?_) fun hb1 => ?_
  · rw [hb1]
    conv => lhs; cbv
    try rfl
  rw [hb1]
  conv => lhs; cbv
  refine (loop_al hal (fun v2 => ⟨[.c (.rd true 124 2 (m_TableEntry a0)), .c (.rd true 124 2 (m_TableEntry a1)), dd, dd, dd, .c (.at (.int .i64 v2)), dd, dd, dd, dd, dd, dd, dd, dd, dd, dd, dd, dd, dd, dd, dd, dd, dd, dd, dd, dd, dd], [], 1⟩) (s_laws_eqTableEntryS_l1 a0 a1) (fun K g => match g with | .inl v2 => K (.exit 0) ⟨[.c (.rd true 124 2 (m_TableEntry a0)), .c (.rd true 124 2 (m_TableEntry a1)), dd, dd, dd, .c (.at (.int .i64 v2)), dd, dd, dd, dd, dd, .c (.at (.int .i64 v2)), .c (.rd true 124 2 (m_TableEntry a0)), .c (.at (.int .i64 (p_int (p_len (m_TableEntry a0))))), .c (.at (.bool false)), dd, dd, dd, dd, dd, dd, dd, dd, dd, dd, dd, dd], [], 2⟩ | .inr (r) => some [.v (.at (.bool r))]) ?_ 0 _ (rfl)).trans (cL ?_)
  · rintro K1 hr1 v2 R1
    rw [s_laws_eqTableEntryS_l1, ← hp, ← hm_TableEntry]
    dsimp only
    conv => lhs; cbv
    refine cD (fun hb3 => ?_) fun hb3 => ?_
    · rw [hb3]
      conv => lhs; cbv
      try rfl
    rw [hb3]
    conv => lhs; cbv
    rw [nth_TableEntry]
    refine cO (fun hx5 => ?_) ?_
    · rw [hx5]; try rfl
    rintro x4 hx5
    rw [hx5]
    conv => lhs; cbv
    rw [nth_TableEntry]
    refine cO (fun hx7 => ?_) ?_
    · rw [hx7]; try rfl
    rintro x6 hx7
    rw [hx7]
    conv => lhs; cbv
    rw [hF_s_laws_eqTableEntry x4 x6]
    refine cO (fun hx9 => ?_) ?_
    · rw [hx9]; try rfl
    rintro r8 hx9
    rw [hx9]
    conv => lhs; cbv
    refine cD (fun hb10 => ?_) fun hb10 => ?_
    · rw [hb10]
      conv => lhs; cbv
      try rfl
    rw [hb10]
    conv => lhs; cbv
    rw [hr1]
    conv => lhs; cbv
    try rfl
  rintro (w11 | w12)
  · conv => lhs; cbv
    try rfl
  rfl
set_option maxHeartbeats 40000000 in
theorem e_s_laws_eqStateVector (F : Fns) (hF_s_laws_eqTableEntryS : Has_s_laws_eqTableEntryS F) (a0 : (List DTableEntry)) (a1 : (List DTableEntry)) : EvF F Tryd.f85 (fun _ => []) [.a [.sl 124 2 (List.map eTableEntry a0)], .a [.sl 124 2 (List.map eTableEntry a1)]] = (s_laws_eqStateVector a0 a1).bind fun r => some [.v (.at (.bool r))] := by
  unfold EvF
  obtain ⟨p, hp⟩ := gn prims
  obtain ⟨m_TableEntry, hm_TableEntry⟩ := gn (List.map eTableEntry)
  rw [← hp, ← hm_TableEntry]
  obtain ⟨_, _, _, _, _, _, _, _, _, _, _, p_bnot, _⟩ := p
  simp only [Has_s_laws_eqTableEntryS, ← hm_TableEntry] at hF_s_laws_eqTableEntryS
  generalize hal : (fun (F : St → (Ex → St → Option (List Arg)) → Option (List Arg)) lv => aloop F lv fuel) = al
  rw [s_laws_eqStateVector, ← hp]
  dsimp only
  conv => lhs; cbv
  rw [hF_s_laws_eqTableEntryS a0 a1]
  refine cO (fun hx2 => ?_) ?_
  · rw [hx2]; try rfl
  rintro r1 hx2
  rw [hx2]
  conv => lhs; cbv
  refine cC (fun hb3 => ?_) fun hb3 => ?_
  · rw [hb3]
    conv => lhs; cbv
    try rfl
  rw [hb3]
  conv => lhs; cbv
  try rfl
set_option maxHeartbeats 40000000 in
theorem e_s_laws_eqByteS (F : Fns) (a0 : (List UInt8)) (a1 : (List UInt8)) : EvF F Tryd.f100 (fun id => if id = 4 then [0, 1, 5] else []) [.v (.sl 5 1 (List.map eY a0)), .v (.sl 5 1 (List.map eY a1))] = (s_laws_eqByteS a0 a1).bind fun r => some [.v (.at (.bool r))] := by
  unfold EvF
  obtain ⟨p, hp⟩ := gn prims
  obtain ⟨m_byte, hm_byte⟩ := gn (List.map eY)
  rw [← hp, ← hm_byte]
  obtain ⟨p_arith, p_cmp, _, _, _, _, _, _, _, _, _, _, _, _, _, p_len, p_int, p_nth, _, _, _, _, _, _, _, _, _, _, _, _, _, _, _, _, _, p_yI, _⟩ := p
  have nth_byte := @nthF_byte
  simp only [← hp, ← hm_byte] at nth_byte
  generalize hal : (fun (F : St → (Ex → St → Option (List Arg)) → Option (List Arg)) lv => aloop F lv fuel) = al
  rw [s_laws_eqByteS, ← hp, ← hm_byte]
  dsimp only
  conv => lhs; cbv
  refine cC (fun hb1 => ?_) fun hb1 => ?_
  · rw [hb1]
    conv => lhs; cbv
    try rfl
  rw [hb1]
  conv => lhs; cbv
  refine (loop_al hal (fun v2 => ⟨[.c (.rd true 5 1 (m_byte a0)), .c (.rd true 5 1 (m_byte a1)), dd, dd, dd, .c (.at (.int .i64 v2)), dd, dd, dd, dd, dd, dd, dd, dd, dd, dd, dd, dd, dd, dd, dd, dd, dd, dd, dd, dd], [], 1⟩) (s_laws_eqByteS_l1 a0 a1) (fun K g => match g with | .inl v2 => K (.exit 0) ⟨[.c (.rd true 5 1 (m_byte a0)), .c (.rd true 5 1 (m_byte a1)), dd, dd, dd, .c (.at (.int .i64 v2)), dd, dd, dd, dd, dd, .c (.at (.int .i64 v2)), .c (.rd true 5 1 (m_byte a0)), .c (.at (.int .i64 (p_int (p_len (m_byte a0))))), .c (.at (.bool false)), dd, dd, dd, dd, dd, dd, dd, dd, dd, dd, dd], [], 2⟩ | .inr (r) => some [.v (.at (.bool r))]) ?_ 0 _ (rfl)).trans (cL ?_)
  · rintro K1 hr1 v2 R1
    rw [s_laws_eqByteS_l1, ← hp, ← hm_byte]
    dsimp only
    conv => lhs; cbv
    refine cD (fun hb3 => ?_) fun hb3 => ?_
    · rw [hb3]
      conv => lhs; cbv
      try rfl
    rw [hb3]
    conv => lhs; cbv
    rw [nth_byte]
    refine cO (fun hx5 => ?_) ?_
    · rw [hx5]; try rfl
    rintro x4 hx5
    rw [hx5]
    conv => lhs; cbv
    rw [nth_byte]
    refine cO (fun hx7 => ?_) ?_
    · rw [hx7]; try rfl
    rintro x6 hx7
    rw [hx7]
    conv => lhs; cbv
    refine cD (fun hb8 => ?_) fun hb8 => ?_
    · rw [hb8]
      conv => lhs; cbv
      try rfl
    rw [hb8]
    conv => lhs; cbv
    rw [hr1]
    conv => lhs; cbv
    try rfl
  rintro (w9 | w10)
  · conv => lhs; cbv
    try rfl
  rfl
set_option maxHeartbeats 40000000 in
theorem e_s_laws_eqPublication (F : Fns) (hF_s_laws_eqName : Has_s_laws_eqName F) (hF_s_laws_eqByteS : Has_s_laws_eqByteS F) (a0 : DPublication) (a1 : DPublication) : EvF F Tryd.f96 (fun _ => []) [.a [.sl 9 1 (List.map eS a0.publisher), .at (.int .i64 a0.seq), .sl 5 1 (List.map eY a0.content)], .a [.sl 9 1 (List.map eS a1.publisher), .at (.int .i64 a1.seq), .sl 5 1 (List.map eY a1.content)]] = (s_laws_eqPublication a0 a1).bind fun r => some [.v (.at (.bool r))] := by
  unfold EvF
  obtain ⟨p, hp⟩ := gn prims
  obtain ⟨m_byte, hm_byte⟩ := gn (List.map eY)
  obtain ⟨m_string, hm_string⟩ := gn (List.map eS)
  rw [← hp, ← hm_byte, ← hm_string]
  obtain ⟨_, p_cmp, _, _, _, _, _, _, _, _, _, p_bnot, _⟩ := p
  simp only [Has_s_laws_eqName, Has_s_laws_eqByteS, ← hm_string, ← hm_byte] at hF_s_laws_eqName hF_s_laws_eqByteS
  generalize hal : (fun (F : St → (Ex → St → Option (List Arg)) → Option (List Arg)) lv => aloop F lv fuel) = al
  rw [s_laws_eqPublication, ← hp]
  dsimp only
  conv => lhs; cbv
  rw [hF_s_laws_eqName a0.publisher a1.publisher]
  refine cO (fun hx2 => ?_) ?_
  · rw [hx2]; try rfl
  rintro r1 hx2
  rw [hx2]
  conv => lhs; cbv
  refine cC (fun hb3 => ?_) fun hb3 => ?_
  · rw [hb3]
    conv => lhs; cbv
    try rfl
  rw [hb3]
  conv => lhs; cbv
  refine cC (fun hb4 => ?_) fun hb4 => ?_
  · rw [hb4]
    conv => lhs; cbv
    try rfl
  rw [hb4]
  conv => lhs; cbv
  rw [hF_s_laws_eqByteS a0.content a1.content]
  refine cO (fun hx6 => ?_) ?_
  · rw [hx6]; try rfl
  rintro r5 hx6
  rw [hx6]
  conv => lhs; cbv
  refine cC (fun hb7 => ?_) fun hb7 => ?_
  · rw [hb7]
    conv => lhs; cbv
    try rfl
  rw [hb7]
  conv => lhs; cbv
  try rfl
set_option maxHeartbeats 40000000 in
theorem e_s_laws_eqPublicationS (F : Fns) (hF_s_laws_eqPublication : Has_s_laws_eqPublication F) (a0 : (List DPublication)) (a1 : (List DPublication)) : EvF F Tryd.f86 (fun id => if id = 4 then [0, 1, 5] else []) [.v (.sl 126 3 (List.map ePublication a0)), .v (.sl 126 3 (List.map ePublication a1))] = (s_laws_eqPublicationS a0 a1).bind fun r => some [.v (.at (.bool r))] := by
  unfold EvF
  obtain ⟨p, hp⟩ := gn prims
  obtain ⟨m_Publication, hm_Publication⟩ := gn (List.map ePublication)
  obtain ⟨m_byte, hm_byte⟩ := gn (List.map eY)
  obtain ⟨m_string, hm_string⟩ := gn (List.map eS)
  rw [← hp, ← hm_Publication]
  obtain ⟨p_arith, p_cmp, _, _, _, _, _, _, _, _, _, p_bnot, _, _, _, p_len, p_int, p_nth, _⟩ := p
  have nth_Publication := @nthF_Publication
  simp only [Has_s_laws_eqPublication, ← hp, ← hm_Publication, ← hm_byte, ← hm_string] at nth_Publication hF_s_laws_eqPublication
  generalize hal : (fun (F : St → (Ex → St → Option (List Arg)) → Option (List Arg)) lv => aloop F lv fuel) = al
  rw [s_laws_eqPublicationS, ← hp, ← hm_Publication]
  dsimp only
  conv => lhs; cbv
  refine cC (fun hb1 => ?_) fun hb1 => ?_
  · rw [hb1]
    conv => lhs; cbv
    try rfl
  rw [hb1]
  conv => lhs; cbv
  refine (loop_al hal (fun v2 => ⟨[.c (.rd true 126 3 (m_Publication a0)), .c (.rd true 126 3 (m_Publication a1)), dd, dd, dd, .c (.at (.int .i64 v2)), dd, dd, dd, dd, dd, dd, dd, dd, dd, dd, dd, dd, dd, dd, dd, dd, dd, dd, dd, dd, dd], [], 1⟩) (s_laws_eqPublicationS_l1 a0 a1) (fun K g => match g with | .inl v2 => K (.exit 0) ⟨[.c (.rd true 126 3 (m_Publication a0)), .c (.rd true 126 3 (m_Publication a1)), dd, dd, dd, .c (.at (.int .i64 v2)), dd, dd, dd, dd, dd, .c (.at (.int .i64 v2)), .c (.rd true 126 3 (m_Publication a0)), .c (.at (.int .i64 (p_int (p_len (m_Publication a0))))), .c (.at (.bool false)), dd, dd, dd, dd, dd, dd, dd, dd, dd, dd, dd, dd], [], 2⟩ | .inr (r) => some [.v (.at (.bool r))]) ?_ 0 _ (rfl)).trans (cL ?_)
  · rintro K1 hr1 v2 R1
    rw [s_laws_eqPublicationS_l1, ← hp, ← hm_Publication]
    dsimp only
    conv => lhs; cbv
    refine cD (fun hb3 => ?_) fun hb3 => ?_
    · rw [hb3]
      conv => lhs; cbv
      try rfl
    rw [hb3]
    conv => lhs; cbv
    rw [nth_Publication]
    refine cO (fun hx5 => ?_) ?_
    · rw [hx5]; try rfl
    rintro x4 hx5
    rw [hx5]
    conv => lhs; cbv
    rw [nth_Publication]
    refine cO (fun hx7 => ?_) ?_
    · rw [hx7]; try rfl
    rintro x6 hx7
    rw [hx7]
    conv => lhs; cbv
    rw [hF_s_laws_eqPublication x4 x6]
    refine cO (fun hx9 => ?_) ?_
    · rw [hx9]; try rfl
    rintro r8 hx9
    rw [hx9]
    conv => lhs; cbv
    refine cD (fun hb10 => ?_) fun hb10 => ?_
    · rw [hb10]
      conv => lhs; cbv
      try rfl
    rw [hb10]
    conv => lhs; cbv
    rw [hr1]
    conv => lhs; cbv
    try rfl
  rintro (w11 | w12)
  · conv => lhs; cbv
    try rfl
  rfl
set_option maxHeartbeats 40000000 in
theorem e_s_laws_eqMember (F : Fns) (hF_s_laws_eqName : Has_s_laws_eqName F) (hF_s_laws_eqStateVector : Has_s_laws_eqStateVector F) (hF_s_laws_eqPublicationS : Has_s_laws_eqPublicationS F) (a0 : DMember) (a1 : DMember) : EvF F Tryd.f65 (fun _ => []) [.a [.sl 9 1 (List.map eS a0.name), .sl 124 2 (List.map eTableEntry a0.vector), .sl 126 3 (List.map ePublication a0.publications)], .a [.sl 9 1 (List.map eS a1.name), .sl 124 2 (List.map eTableEntry a1.vector), .sl 126 3 (List.map ePublication a1.publications)]] = (s_laws_eqMember a0 a1).bind fun r => some [.v (.at (.bool r))] := by
  unfold EvF
  obtain ⟨p, hp⟩ := gn prims
  obtain ⟨m_Publication, hm_Publication⟩ := gn (List.map ePublication)
  obtain ⟨m_TableEntry, hm_TableEntry⟩ := gn (List.map eTableEntry)
  obtain ⟨m_string, hm_string⟩ := gn (List.map eS)
  rw [← hp, ← hm_Publication, ← hm_TableEntry, ← hm_string]
  obtain ⟨_, _, _, _, _, _, _, _, _, _, _, p_bnot, _⟩ := p
  simp only [Has_s_laws_eqName, Has_s_laws_eqStateVector, Has_s_laws_eqPublicationS, ← hm_string, ← hm_TableEntry, ← hm_Publication] at hF_s_laws_eqName hF_s_laws_eqStateVector hF_s_laws_eqPublicationS
  generalize hal : (fun (F : St → (Ex → St → Option (List Arg)) → Option (List Arg)) lv => aloop F lv fuel) = al
  rw [s_laws_eqMember, ← hp]
  dsimp only
  conv => lhs; cbv
  rw [hF_s_laws_eqName a0.name a1.name]
  refine cO (fun hx2 => ?_) ?_
  · rw [hx2]; try rfl
  rintro r1 hx2
  rw [hx2]
  conv => lhs; cbv
  refine cC (fun hb3 => ?_) fun hb3 => ?_
  · rw [hb3]
    conv => lhs; cbv
    try rfl
  rw [hb3]
  conv => lhs; cbv
  rw [hF_s_laws_eqStateVector a0.vector a1.vector]
  refine cO (fun hx5 => ?_) ?_
  · rw [hx5]; try rfl
  rintro r4 hx5
  rw [hx5]
  conv => lhs; cbv
  refine cC (fun hb6 => ?_) fun hb6 => ?_
  · rw [hb6]
    conv => lhs; cbv
    try rfl
  rw [hb6]
  conv => lhs; cbv
  rw [hF_s_laws_eqPublicationS a0.publications a1.publications]
  refine cO (fun hx8 => ?_) ?_
  · rw [hx8]; try rfl
  rintro r7 hx8
  rw [hx8]
  conv => lhs; cbv
  refine cC (fun hb9 => ?_) fun hb9 => ?_
  · rw [hb9]
    conv => lhs; cbv
    try rfl
  rw [hb9]
  conv => lhs; cbv
  try rfl
set_option maxHeartbeats 40000000 in
theorem e_s_laws_eqMemberS (F : Fns) (hF_s_laws_eqMember : Has_s_laws_eqMember F) (a0 : (List DMember)) (a1 : (List DMember)) : EvF F Tryd.f34 (fun id => if id = 4 then [0, 1, 5] else []) [.v (.sl 69 3 (List.map eMember a0)), .v (.sl 69 3 (List.map eMember a1))] = (s_laws_eqMemberS a0 a1).bind fun r => some [.v (.at (.bool r))] := by
  unfold EvF
  obtain ⟨p, hp⟩ := gn prims
  obtain ⟨m_Member, hm_Member⟩ := gn (List.map eMember)
  obtain ⟨m_Publication, hm_Publication⟩ := gn (List.map ePublication)
  obtain ⟨m_TableEntry, hm_TableEntry⟩ := gn (List.map eTableEntry)
  obtain ⟨m_string, hm_string⟩ := gn (List.map eS)
  rw [← hp, ← hm_Member]
  obtain ⟨p_arith, p_cmp, _, _, _, _, _, _, _, _, _, p_bnot, _, _, _, p_len, p_int, p_nth, _⟩ := p
  have nth_Member := @nthF_Member
  simp only [Has_s_laws_eqMember, ← hp, ← hm_Member, ← hm_Publication, ← hm_TableEntry, ← hm_string] at nth_Member hF_s_laws_eqMember
  generalize hal : (fun (F : St → (Ex → St → Option (List Arg)) → Option (List Arg)) lv => aloop F lv fuel) = al
  rw [s_laws_eqMemberS, ← hp, ← hm_Member]
  dsimp only
  conv => lhs; cbv
  refine cC (fun hb1 => ?_) fun hb1 => ?_
  · rw [hb1]
    conv => lhs; cbv
    try rfl
  rw [hb1]
  conv => lhs; cbv
  refine (loop_al hal (fun v2 => ⟨[.c (.rd true 69 3 (m_Member a0)), .c (.rd true 69 3 (m_Member a1)), dd, dd, dd, .c (.at (.int .i64 v2)), dd, dd, dd, dd, dd, dd, dd, dd, dd, dd, dd, dd, dd, dd, dd, dd, dd, dd, dd, dd, dd], [], 1⟩) (s_laws_eqMemberS_l1 a0 a1) (fun K g => match g with | .inl v2 => K (.exit 0) ⟨[.c (.rd true 69 3 (m_Member a0)), .c (.rd true 69 3 (m_Member a1)), dd, dd, dd, .c (.at (.int .i64 v2)), dd, dd, dd, dd, dd, .c (.at (.int .i64 v2)), .c (.rd true 69 3 (m_Member a0)), .c (.at (.int .i64 (p_int (p_len (m_Member a0))))), .c (.at (.bool false)), dd, dd, dd, dd, dd, dd, dd, dd, dd, dd, dd, dd], [], 2⟩ | .inr (r) => some [.v (.at (.bool r))]) ?_ 0 _ (rfl)).trans (cL ?_)
  · rintro K1 hr1 v2 R1
    rw [s_laws_eqMemberS_l1, ← hp, ← hm_Member]
    dsimp only
    conv => lhs; cbv
    refine cD (fun hb3 => ?_) fun hb3 => ?_
    · rw [hb3]
      conv => lhs; cbv
      try rfl
    rw [hb3]
    conv => lhs; cbv
    rw [nth_Member]
    refine cO (fun hx5 => ?_) ?_
    · rw [hx5]; try rfl
    rintro x4 hx5
    rw [hx5]
    conv => lhs; cbv
    rw [nth_Member]
    refine cO (fun hx7 => ?_) ?_
    · rw [hx7]; try rfl
    rintro x6 hx7
    rw [hx7]
    conv => lhs; cbv
    rw [hF_s_laws_eqMember x4 x6]
    refine cO (fun hx9 => ?_) ?_
    · rw [hx9]; try rfl
    rintro r8 hx9
    rw [hx9]
    conv => lhs; cbv
    refine cD (fun hb10 => ?_) fun hb10 => ?_
    · rw [hb10]
      conv => lhs; cbv
      try rfl
    rw [hb10]
    conv => lhs; cbv
    rw [hr1]
    conv => lhs; cbv
    try rfl
  rintro (w11 | w12)
  · conv => lhs; cbv
    try rfl
  rfl
set_option maxHeartbeats 40000000 in
theorem e_s_laws_eqSyncGroup (F : Fns) (hF_s_laws_eqTopology : Has_s_laws_eqTopology F) (hF_s_laws_eqMemberS : Has_s_laws_eqMemberS F) (a0 : DSyncGroup) (a1 : DSyncGroup) : EvF F Tryd.f9 (fun _ => []) [.a [.at (.int .i64 a0.topology.size), .sl 92 2 (List.map eLink a0.topology.links), .sl 69 3 (List.map eMember a0.members)], .a [.at (.int .i64 a1.topology.size), .sl 92 2 (List.map eLink a1.topology.links), .sl 69 3 (List.map eMember a1.members)]] = (s_laws_eqSyncGroup a0 a1).bind fun r => some [.v (.at (.bool r))] := by
  unfold EvF
  obtain ⟨p, hp⟩ := gn prims
  obtain ⟨m_Link, hm_Link⟩ := gn (List.map eLink)
  obtain ⟨m_Member, hm_Member⟩ := gn (List.map eMember)
  rw [← hp, ← hm_Link, ← hm_Member]
  obtain ⟨_, _, _, _, _, _, _, _, _, _, _, p_bnot, _⟩ := p
  simp only [Has_s_laws_eqTopology, Has_s_laws_eqMemberS, ← hm_Link, ← hm_Member] at hF_s_laws_eqTopology hF_s_laws_eqMemberS
  generalize hal : (fun (F : St → (Ex → St → Option (List Arg)) → Option (List Arg)) lv => aloop F lv fuel) = al
  rw [s_laws_eqSyncGroup, ← hp]
  dsimp only
  conv => lhs; cbv
  rw [hF_s_laws_eqTopology a0.topology a1.topology]
  refine cO (fun hx2 => ?_) ?_
  · rw [hx2]; try rfl
  rintro r1 hx2
  rw [hx2]
  conv => lhs; cbv
  refine cC (fun hb3 => ?_) fun hb3 => ?_
  · rw [hb3]
    conv => lhs; cbv
    try rfl
  rw [hb3]
  conv => lhs; cbv
  rw [hF_s_laws_eqMemberS a0.members a1.members]
  refine cO (fun hx5 => ?_) ?_
  · rw [hx5]; try rfl
  rintro r4 hx5
  rw [hx5]
  conv => lhs; cbv
  refine cC (fun hb6 => ?_) fun hb6 => ?_
  · rw [hb6]
    conv => lhs; cbv
    try rfl
  rw [hb6]
  conv => lhs; cbv
  try rfl
set_option maxHeartbeats 40000000 in
theorem e_s_laws_heldLinkS (F : Fns) (a0 : (List DLink)) (a1 : Int) : EvF F Tryd.f69 (fun id => if id = 2 then [0, 1, 5] else []) [.v (.sl 92 2 (List.map eLink a0)), .v (.at (.int .i64 a1))] = (s_laws_heldLinkS a0 a1).bind fun r => some [.v (.at (.int .i64 r))] := by
  unfold EvF
  obtain ⟨p, hp⟩ := gn prims
  obtain ⟨m_Link, hm_Link⟩ := gn (List.map eLink)
  rw [← hp, ← hm_Link]
  obtain ⟨p_arith, p_cmp, _, _, _, _, _, _, _, _, _, _, _, _, _, p_len, p_int, p_nth, _⟩ := p
  have nth_Link := @nthF_Link
  simp only [← hp, ← hm_Link] at nth_Link
  generalize hal : (fun (F : St → (Ex → St → Option (List Arg)) → Option (List Arg)) lv => aloop F lv fuel) = al
  rw [s_laws_heldLinkS]
  conv => lhs; cbv
  refine (loop_al hal (fun x => match x with | (v1, v2) => ⟨[.c (.rd true 92 2 (m_Link a0)), .c (.at (.int .i64 v1)), dd, dd, dd, .c (.at (.int .i64 v2)), dd, dd, dd, dd, dd, dd, dd, dd, dd, dd, dd, dd, dd, dd, dd, dd, dd, dd, dd, dd, dd, dd, dd, dd, dd], [], 1⟩) (s_laws_heldLinkS_l1 a0) (fun K g => match g with | .inl (v1, v2) => K (.exit 0) ⟨[.c (.rd true 92 2 (m_Link a0)), .c (.at (.int .i64 v1)), dd, dd, dd, .c (.at (.int .i64 v2)), .c (.at (.int .i64 v2)), .c (.rd true 92 2 (m_Link a0)), .c (.at (.int .i64 (p_int (p_len (m_Link a0))))), .c (.at (.bool false)), dd, dd, dd, dd, dd, dd, dd, dd, dd, dd, dd, dd, dd, dd, dd, dd, dd, dd, dd, dd, dd], [], 2⟩ | .inr (r) => some [.v (.at (.int .i64 r))]) ?_ (a1, 0) _ (rfl)).trans (cL ?_)
  · rintro K1 hr1 ⟨v1, v2⟩ R1
    rw [s_laws_heldLinkS_l1, ← hp, ← hm_Link]
    dsimp only
    conv => lhs; cbv
    refine cD (fun hb3 => ?_) fun hb3 => ?_
    · rw [hb3]
      conv => lhs; cbv
      try rfl
    rw [hb3]
    conv => lhs; cbv
    rw [nth_Link]
    refine cO (fun hx5 => ?_) ?_
    · rw [hx5]; try rfl
    rintro x4 hx5
    rw [hx5]
    conv => lhs; cbv
    refine cC (fun hb6 => ?_) fun hb6 => ?_
    · rw [hb6]
      conv => lhs; cbv
      rw [hr1]
      conv => lhs; cbv
      try rfl
    rw [hb6]
    conv => lhs; cbv
    rw [nth_Link]
    rw [hx5]
    conv => lhs; cbv
    refine cD (fun hb8 => ?_) fun hb8 => ?_
    · rw [hb8]
      conv => lhs; cbv
      try rfl
    rw [hb8]
    conv => lhs; cbv
    rw [hr1]
    conv => lhs; cbv
    try rfl
  rintro (⟨w9, w10⟩ | w11)
  · conv => lhs; cbv
    try rfl
  rfl
set_option maxHeartbeats 40000000 in
theorem e_s_laws_heldTopology (F : Fns) (hF_s_laws_heldLinkS : Has_s_laws_heldLinkS F) (a0 : DTopology) (a1 : Int) : EvF F Tryd.f38 (fun _ => []) [.a [.at (.int .i64 a0.size), .sl 92 2 (List.map eLink a0.links)], .v (.at (.int .i64 a1))] = (s_laws_heldTopology a0 a1).bind fun r => some [.v (.at (.int .i64 r))] := by
  unfold EvF
  obtain ⟨p, hp⟩ := gn prims
  obtain ⟨m_Link, hm_Link⟩ := gn (List.map eLink)
  rw [← hp, ← hm_Link]
  obtain ⟨_, p_cmp, _⟩ := p
  simp only [Has_s_laws_heldLinkS, ← hm_Link] at hF_s_laws_heldLinkS
  generalize hal : (fun (F : St → (Ex → St → Option (List Arg)) → Option (List Arg)) lv => aloop F lv fuel) = al
  rw [s_laws_heldTopology, ← hp]
  dsimp only
  conv => lhs; cbv
  rw [hF_s_laws_heldLinkS a0.links a1]
  refine cO (fun hx2 => ?_) ?_
  · rw [hx2]; try rfl
  rintro r1 hx2
  rw [hx2]
  conv => lhs; cbv
  refine cC (fun hb3 => ?_) fun hb3 => ?_
  · rw [hb3]
    conv => lhs; cbv
    try rfl
  rw [hb3]
  conv => lhs; cbv
  try rfl
set_option maxHeartbeats 40000000 in
theorem e_s_laws_markText (F : Fns) (a0 : Int) : EvF F Tryd.f82 (fun id => if id = 4 then [0, 3] else []) [.v (.at (.int .i64 a0))] = (s_laws_markText a0).bind fun r => some [.v (.at (.string r))] := by
  unfold EvF
  obtain ⟨p, hp⟩ := gn prims
  obtain ⟨m_byte, hm_byte⟩ := gn (List.map eY)
  rw [← hp]
  obtain ⟨p_arith, p_cmp, p_wrap, _, p_scat, p_catOk, _, _, _, _, p_str, _, _, _, _, _, _, _, _, _, _, _, _, _, _, _, _, _, _, _, _, _, _, _, _, p_yI, p_ofB, p_byW, _⟩ := p
  have mcons_byte := @mconsF_byte
  have nild_byte := @nildF_byte
  have str_byte := @strF_byte
  have wy_byte := @wyF_byte
  simp only [← hp, ← hm_byte] at mcons_byte nild_byte str_byte wy_byte
  generalize hal : (fun (F : St → (Ex → St → Option (List Arg)) → Option (List Arg)) lv => aloop F lv fuel) = al
  rw [s_laws_markText, ← hp]
  dsimp only
  conv => lhs; cbv
  refine cC (fun hb1 => ?_) fun hb1 => ?_
  · rw [hb1]
    conv => lhs; cbv
    try rfl
  rw [hb1]
  conv => lhs; cbv
  refine (loop_al hal (fun x => match x with | (v2, v3) => ⟨[.c (.at (.int .i64 v2)), dd, dd, .c (.at (.string v3)), dd, dd, dd, dd, dd, dd, dd, dd, dd, dd, dd, dd, dd, dd, dd, dd], [], 1⟩) (s_laws_markText_l1) (fun K g => match g with | (v2, v3) => K (.exit 0) ⟨[.c (.at (.int .i64 v2)), dd, dd, .c (.at (.string v3)), dd, dd, .c (.at (.int .i64 v2)), .c (.at (.bool false)), dd, dd, dd, dd, dd, dd, dd, dd, dd, dd, dd, dd], [], 2⟩) ?_ (a0, (ByteArray.mk (Array.mk []))) _ (rfl)).trans (cL ?_)
  · rintro K1 hr1 ⟨v2, v3⟩ R1
    rw [s_laws_markText_l1, ← hp]
    dsimp only
    conv => lhs; cbv
    refine cD (fun hb4 => ?_) fun hb4 => ?_
    · rw [hb4]
      conv => lhs; cbv
      try rfl
    rw [hb4]
    conv => lhs; cbv
    refine cC (fun hb5 => ?_) fun hb5 => ?_
    · rw [if_pos hb5]
      try rw [hb5]
      conv => lhs; cbv
      try rfl
    rw [if_neg (Bool.eq_false_iff.1 hb5)]
    try rw [hb5]
    conv => lhs; cbv
    rw [wy_byte]
    conv => lhs; cbv
    rw [← (show (m_byte [(p_byW (p_arith .add .i64 48 (p_arith .rem .i64 v2 10)))]) = [[DT.at (.int .u8 (p_yI (p_byW (p_arith .add .i64 48 (p_arith .rem .i64 v2 10)))))]] by rw [mcons_byte, nild_byte])]
    rw [str_byte]
    conv => lhs; cbv
    refine cD (fun hb6 => ?_) fun hb6 => ?_
    · rw [if_neg (Bool.eq_false_iff.1 hb6)]
      try rw [hb6]
      conv => lhs; cbv
      try rfl
    rw [if_pos hb6]
    try rw [hb6]
    conv => lhs; cbv
    rw [if_neg (Bool.eq_false_iff.1 hb5)]
    conv => lhs; cbv
    try rfl
  rintro ⟨w7, w8⟩
  conv => lhs; cbv
  refine cC (fun hb9 => ?_) fun hb9 => ?_
  · rw [if_pos hb9]
    try rw [hb9]
    conv => lhs; cbv
    try rfl
  rw [if_neg (Bool.eq_false_iff.1 hb9)]
  try rw [hb9]
  conv => lhs; cbv
  try rfl
set_option maxHeartbeats 40000000 in
theorem e_s_laws_heldStringS (F : Fns) (hF_s_laws_markText : Has_s_laws_markText F) (a0 : (List ByteArray)) (a1 : Int) : EvF F Tryd.f56 (fun id => if id = 2 then [0, 1, 5] else []) [.v (.sl 9 1 (List.map eS a0)), .v (.at (.int .i64 a1))] = (s_laws_heldStringS a0 a1).bind fun r => some [.v (.at (.int .i64 r))] := by
  unfold EvF
  obtain ⟨p, hp⟩ := gn prims
  obtain ⟨m_string, hm_string⟩ := gn (List.map eS)
  rw [← hp, ← hm_string]
  obtain ⟨p_arith, p_cmp, _, p_scmp, _, _, _, _, _, _, _, _, _, _, _, p_len, p_int, p_nth, _⟩ := p
  have nth_string := @nthF_string
  simp only [Has_s_laws_markText, ← hp, ← hm_string] at nth_string hF_s_laws_markText
  generalize hal : (fun (F : St → (Ex → St → Option (List Arg)) → Option (List Arg)) lv => aloop F lv fuel) = al
  rw [s_laws_heldStringS]
  conv => lhs; cbv
  refine (loop_al hal (fun x => match x with | (v1, v2) => ⟨[.c (.rd true 9 1 (m_string a0)), .c (.at (.int .i64 v1)), dd, dd, dd, .c (.at (.int .i64 v2)), dd, dd, dd, dd, dd, dd, dd, dd, dd, dd, dd, dd, dd, dd, dd, dd], [], 1⟩) (s_laws_heldStringS_l1 a0) (fun K g => match g with | .inl (v1, v2) => K (.exit 0) ⟨[.c (.rd true 9 1 (m_string a0)), .c (.at (.int .i64 v1)), dd, dd, dd, .c (.at (.int .i64 v2)), .c (.at (.int .i64 v2)), .c (.rd true 9 1 (m_string a0)), .c (.at (.int .i64 (p_int (p_len (m_string a0))))), .c (.at (.bool false)), dd, dd, dd, dd, dd, dd, dd, dd, dd, dd, dd, dd], [], 2⟩ | .inr (r) => some [.v (.at (.int .i64 r))]) ?_ (a1, 0) _ (rfl)).trans (cL ?_)
  · rintro K1 hr1 ⟨v1, v2⟩ R1
    rw [s_laws_heldStringS_l1, ← hp, ← hm_string]
    dsimp only
    conv => lhs; cbv
    refine cD (fun hb3 => ?_) fun hb3 => ?_
    · rw [hb3]
      conv => lhs; cbv
      try rfl
    rw [hb3]
    conv => lhs; cbv
    rw [nth_string]
    refine cO (fun hx5 => ?_) ?_
    · rw [hx5]; try rfl
    rintro x4 hx5
    rw [hx5]
    conv => lhs; cbv
    rw [hF_s_laws_markText v1]
    refine cO (fun hx7 => ?_) ?_
    · rw [hx7]; try rfl
    rintro r6 hx7
    rw [hx7]
    conv => lhs; cbv
    refine cD (fun hb8 => ?_) fun hb8 => ?_
    · rw [hb8]
      conv => lhs; cbv
      try rfl
    rw [hb8]
    conv => lhs; cbv
    rw [hr1]
    conv => lhs; cbv
    try rfl
  rintro (⟨w9, w10⟩ | w11)
  · conv => lhs; cbv
    try rfl
  rfl
set_option maxHeartbeats 40000000 in
theorem e_s_laws_heldTableEntryS (F : Fns) (hF_s_laws_heldStringS : Has_s_laws_heldStringS F) (a0 : (List DTableEntry)) (a1 : Int) : EvF F Tryd.f70 (fun id => if id = 2 then [0, 1, 5] else []) [.v (.sl 124 2 (List.map eTableEntry a0)), .v (.at (.int .i64 a1))] = (s_laws_heldTableEntryS a0 a1).bind fun r => some [.v (.at (.int .i64 r))] := by
  unfold EvF
  obtain ⟨p, hp⟩ := gn prims
  obtain ⟨m_TableEntry, hm_TableEntry⟩ := gn (List.map eTableEntry)
  obtain ⟨m_string, hm_string⟩ := gn (List.map eS)
  rw [← hp, ← hm_TableEntry]
  obtain ⟨p_arith, p_cmp, _, _, _, _, _, _, _, _, _, _, _, _, _, p_len, p_int, p_nth, _⟩ := p
  have nth_TableEntry := @nthF_TableEntry
  simp only [Has_s_laws_heldStringS, ← hp, ← hm_TableEntry, ← hm_string] at nth_TableEntry hF_s_laws_heldStringS
  generalize hal : (fun (F : St → (Ex → St → Option (List Arg)) → Option (List Arg)) lv => aloop F lv fuel) = al
  rw [s_laws_heldTableEntryS]
  conv => lhs; cbv
  refine (loop_al hal (fun x => match x with | (v1, v2) => ⟨[.c (.rd true 124 2 (m_TableEntry a0)), .c (.at (.int .i64 v1)), dd, dd, dd, .c (.at (.int .i64 v2)), dd, dd, dd, dd, dd, dd, dd, dd, dd, dd, dd, dd, dd, dd, dd, dd, dd, dd, dd, dd, dd, dd, dd, dd, dd, dd], [], 1⟩) (s_laws_heldTableEntryS_l1 a0) (fun K g => match g with | .inl (v1, v2) => K (.exit 0) ⟨[.c (.rd true 124 2 (m_TableEntry a0)), .c (.at (.int .i64 v1)), dd, dd, dd, .c (.at (.int .i64 v2)), .c (.at (.int .i64 v2)), .c (.rd true 124 2 (m_TableEntry a0)), .c (.at (.int .i64 (p_int (p_len (m_TableEntry a0))))), .c (.at (.bool false)), dd, dd, dd, dd, dd, dd, dd, dd, dd, dd, dd, dd, dd, dd, dd, dd, dd, dd, dd, dd, dd, dd], [], 2⟩ | .inr (r) => some [.v (.at (.int .i64 r))]) ?_ (a1, 0) _ (rfl)).trans (cL ?_)
  · rintro K1 hr1 ⟨v1, v2⟩ R1
    rw [s_laws_heldTableEntryS_l1, ← hp, ← hm_TableEntry]
    dsimp only
    conv => lhs; cbv
    refine cD (fun hb3 => ?_) fun hb3 => ?_
    · rw [hb3]
      conv => lhs; cbv
      try rfl
    rw [hb3]
    conv => lhs; cbv
    rw [nth_TableEntry]
    refine cO (fun hx5 => ?_) ?_
    · rw [hx5]; try rfl
    rintro x4 hx5
    rw [hx5]
    conv => lhs; cbv
    rw [hF_s_laws_heldStringS x4.name v1]
    refine cO (fun hx7 => ?_) ?_
    · rw [hx7]; try rfl
    rintro r6 hx7
    rw [hx7]
    conv => lhs; cbv
    refine cC (fun hb8 => ?_) fun hb8 => ?_
    · rw [hb8]
      conv => lhs; cbv
      rw [hr1]
      conv => lhs; cbv
      try rfl
    rw [hb8]
    conv => lhs; cbv
    rw [nth_TableEntry]
    rw [hx5]
    conv => lhs; cbv
    refine cD (fun hb10 => ?_) fun hb10 => ?_
    · rw [hb10]
      conv => lhs; cbv
      try rfl
    rw [hb10]
    conv => lhs; cbv
    rw [hr1]
    conv => lhs; cbv
    try rfl
  rintro (⟨w11, w12⟩ | w13)
  · conv => lhs; cbv
    try rfl
  rfl
set_option maxHeartbeats 40000000 in
theorem e_s_laws_heldByteS (F : Fns) (a0 : (List UInt8)) (a1 : Int) : EvF F Tryd.f88 (fun id => if id = 2 then [0, 1, 5] else []) [.v (.sl 5 1 (List.map eY a0)), .v (.at (.int .i64 a1))] = (s_laws_heldByteS a0 a1).bind fun r => some [.v (.at (.int .i64 r))] := by
  unfold EvF
  obtain ⟨p, hp⟩ := gn prims
  obtain ⟨m_byte, hm_byte⟩ := gn (List.map eY)
  rw [← hp, ← hm_byte]
  obtain ⟨p_arith, p_cmp, p_wrap, _, _, _, _, _, _, _, _, _, _, _, _, p_len, p_int, p_nth, _, _, _, _, _, _, _, _, _, _, _, _, _, _, _, _, _, p_yI, _, p_byW, _⟩ := p
  have nth_byte := @nthF_byte
  have wy_byte := @wyF_byte
  simp only [← hp, ← hm_byte] at nth_byte wy_byte
  generalize hal : (fun (F : St → (Ex → St → Option (List Arg)) → Option (List Arg)) lv => aloop F lv fuel) = al
  rw [s_laws_heldByteS]
  conv => lhs; cbv
  refine (loop_al hal (fun x => match x with | (v1, v2) => ⟨[.c (.rd true 5 1 (m_byte a0)), .c (.at (.int .i64 v1)), dd, dd, dd, .c (.at (.int .i64 v2)), dd, dd, dd, dd, dd, dd, dd, dd, dd, dd, dd, dd, dd, dd, dd, dd], [], 1⟩) (s_laws_heldByteS_l1 a0) (fun K g => match g with | .inl (v1, v2) => K (.exit 0) ⟨[.c (.rd true 5 1 (m_byte a0)), .c (.at (.int .i64 v1)), dd, dd, dd, .c (.at (.int .i64 v2)), .c (.at (.int .i64 v2)), .c (.rd true 5 1 (m_byte a0)), .c (.at (.int .i64 (p_int (p_len (m_byte a0))))), .c (.at (.bool false)), dd, dd, dd, dd, dd, dd, dd, dd, dd, dd, dd, dd], [], 2⟩ | .inr (r) => some [.v (.at (.int .i64 r))]) ?_ (a1, 0) _ (rfl)).trans (cL ?_)
  · rintro K1 hr1 ⟨v1, v2⟩ R1
    rw [s_laws_heldByteS_l1, ← hp, ← hm_byte]
    dsimp only
    conv => lhs; cbv
    refine cD (fun hb3 => ?_) fun hb3 => ?_
    · rw [hb3]
      conv => lhs; cbv
      try rfl
    rw [hb3]
    conv => lhs; cbv
    rw [nth_byte]
    refine cO (fun hx5 => ?_) ?_
    · rw [hx5]; try rfl
    rintro x4 hx5
    rw [hx5]
    conv => lhs; cbv
    rw [wy_byte]
    conv => lhs; cbv
    refine cD (fun hb6 => ?_) fun hb6 => ?_
    · rw [hb6]
      conv => lhs; cbv
      try rfl
    rw [hb6]
    conv => lhs; cbv
    rw [hr1]
    conv => lhs; cbv
    try rfl
  rintro (⟨w7, w8⟩ | w9)
  · conv => lhs; cbv
    try rfl
  rfl
set_option maxHeartbeats 40000000 in
theorem e_s_laws_heldPublicationS (F : Fns) (hF_s_laws_heldStringS : Has_s_laws_heldStringS F) (hF_s_laws_heldByteS : Has_s_laws_heldByteS F) (a0 : (List DPublication)) (a1 : Int) : EvF F Tryd.f71 (fun id => if id = 2 then [0, 1, 5] else []) [.v (.sl 126 3 (List.map ePublication a0)), .v (.at (.int .i64 a1))] = (s_laws_heldPublicationS a0 a1).bind fun r => some [.v (.at (.int .i64 r))] := by
  unfold EvF
  obtain ⟨p, hp⟩ := gn prims
  obtain ⟨m_Publication, hm_Publication⟩ := gn (List.map ePublication)
  obtain ⟨m_byte, hm_byte⟩ := gn (List.map eY)
  obtain ⟨m_string, hm_string⟩ := gn (List.map eS)
  rw [← hp, ← hm_Publication]
  obtain ⟨p_arith, p_cmp, _, _, _, _, _, _, _, _, _, _, _, _, _, p_len, p_int, p_nth, _⟩ := p
  have nth_Publication := @nthF_Publication
  simp only [Has_s_laws_heldStringS, Has_s_laws_heldByteS, ← hp, ← hm_Publication, ← hm_byte, ← hm_string] at nth_Publication hF_s_laws_heldStringS hF_s_laws_heldByteS
  generalize hal : (fun (F : St → (Ex → St → Option (List Arg)) → Option (List Arg)) lv => aloop F lv fuel) = al
  rw [s_laws_heldPublicationS]
  conv => lhs; cbv
  refine (loop_al hal (fun x => match x with | (v1, v2) => ⟨[.c (.rd true 126 3 (m_Publication a0)), .c (.at (.int .i64 v1)), dd, dd, dd, .c (.at (.int .i64 v2)), dd, dd, dd, dd, dd, dd, dd, dd, dd, dd, dd, dd, dd, dd, dd, dd, dd, dd, dd, dd, dd, dd, dd, dd, dd, dd, dd, dd, dd, dd, dd, dd, dd, dd, dd], [], 1⟩) (s_laws_heldPublicationS_l1 a0) (fun K g => match g with | .inl (v1, v2) => K (.exit 0) ⟨[.c (.rd true 126 3 (m_Publication a0)), .c (.at (.int .i64 v1)), dd, dd, dd, .c (.at (.int .i64 v2)), .c (.at (.int .i64 v2)), .c (.rd true 126 3 (m_Publication a0)), .c (.at (.int .i64 (p_int (p_len (m_Publication a0))))), .c (.at (.bool false)), dd, dd, dd, dd, dd, dd, dd, dd, dd, dd, dd, dd, dd, dd, dd, dd, dd, dd, dd, dd, dd, dd, dd, dd, dd, dd, dd, dd, dd, dd, dd], [], 2⟩ | .inr (r) => some [.v (.at (.int .i64 r))]) ?_ (a1, 0) _ (rfl)).trans (cL ?_)
  · rintro K1 hr1 ⟨v1, v2⟩ R1
    rw [s_laws_heldPublicationS_l1, ← hp, ← hm_Publication]
    dsimp only
    conv => lhs; cbv
    refine cD (fun hb3 => ?_) fun hb3 => ?_
    · rw [hb3]
      conv => lhs; cbv
      try rfl
    rw [hb3]
    conv => lhs; cbv
    rw [nth_Publication]
    refine cO (fun hx5 => ?_) ?_
    · rw [hx5]; try rfl
    rintro x4 hx5
    rw [hx5]
    conv => lhs; cbv
    rw [hF_s_laws_heldStringS x4.publisher v1]
    refine cO (fun hx7 => ?_) ?_
    · rw [hx7]; try rfl
    rintro r6 hx7
    rw [hx7]
    conv => lhs; cbv
    refine cC (fun hb8 => ?_) fun hb8 => ?_
    · rw [hb8]
      conv => lhs; cbv
      rw [hr1]
      conv => lhs; cbv
      try rfl
    rw [hb8]
    conv => lhs; cbv
    rw [nth_Publication]
    rw [hx5]
    conv => lhs; cbv
    refine cC (fun hb10 => ?_) fun hb10 => ?_
    · rw [hb10]
      conv => lhs; cbv
      rw [hr1]
      conv => lhs; cbv
      try rfl
    rw [hb10]
    conv => lhs; cbv
    rw [nth_Publication]
    rw [hx5]
    conv => lhs; cbv
    rw [hF_s_laws_heldByteS x4.content (p_arith .add .i64 r6 1)]
    refine cO (fun hx13 => ?_) ?_
    · rw [hx13]; try rfl
    rintro r12 hx13
    rw [hx13]
    conv => lhs; cbv
    refine cD (fun hb14 => ?_) fun hb14 => ?_
    · rw [hb14]
      conv => lhs; cbv
      try rfl
    rw [hb14]
    conv => lhs; cbv
    rw [hr1]
    conv => lhs; cbv
    try rfl
  rintro (⟨w15, w16⟩ | w17)
  · conv => lhs; cbv
    try rfl
  rfl
set_option maxHeartbeats 40000000 in
theorem e_s_laws_heldMemberS (F : Fns) (hF_s_laws_heldStringS : Has_s_laws_heldStringS F) (hF_s_laws_heldTableEntryS : Has_s_laws_heldTableEntryS F) (hF_s_laws_heldPublicationS : Has_s_laws_heldPublicationS F) (a0 : (List DMember)) (a1 : Int) : EvF F Tryd.f39 (fun id => if id = 2 then [0, 1, 5] else []) [.v (.sl 69 3 (List.map eMember a0)), .v (.at (.int .i64 a1))] = (s_laws_heldMemberS a0 a1).bind fun r => some [.v (.at (.int .i64 r))] := by
  unfold EvF
  obtain ⟨p, hp⟩ := gn prims
  obtain ⟨m_Member, hm_Member⟩ := gn (List.map eMember)
  obtain ⟨m_Publication, hm_Publication⟩ := gn (List.map ePublication)
  obtain ⟨m_TableEntry, hm_TableEntry⟩ := gn (List.map eTableEntry)
  obtain ⟨m_string, hm_string⟩ := gn (List.map eS)
  rw [← hp, ← hm_Member]
  obtain ⟨p_arith, p_cmp, _, _, _, _, _, _, _, _, _, _, _, _, _, p_len, p_int, p_nth, _⟩ := p
  have nth_Member := @nthF_Member
  simp only [Has_s_laws_heldStringS, Has_s_laws_heldTableEntryS, Has_s_laws_heldPublicationS, ← hp, ← hm_Member, ← hm_Publication, ← hm_TableEntry, ← hm_string] at nth_Member hF_s_laws_heldStringS hF_s_laws_heldTableEntryS hF_s_laws_heldPublicationS
  generalize hal : (fun (F : St → (Ex → St → Option (List Arg)) → Option (List Arg)) lv => aloop F lv fuel) = al
  rw [s_laws_heldMemberS]
  conv => lhs; cbv
  refine (loop_al hal (fun x => match x with | (v1, v2) => ⟨[.c (.rd true 69 3 (m_Member a0)), .c (.at (.int .i64 v1)), dd, dd, dd, .c (.at (.int .i64 v2)), dd, dd, dd, dd, dd, dd, dd, dd, dd, dd, dd, dd, dd, dd, dd, dd, dd, dd, dd, dd, dd, dd, dd, dd, dd, dd, dd, dd, dd, dd, dd, dd, dd, dd, dd, dd], [], 1⟩) (s_laws_heldMemberS_l1 a0) (fun K g => match g with | .inl (v1, v2) => K (.exit 0) ⟨[.c (.rd true 69 3 (m_Member a0)), .c (.at (.int .i64 v1)), dd, dd, dd, .c (.at (.int .i64 v2)), .c (.at (.int .i64 v2)), .c (.rd true 69 3 (m_Member a0)), .c (.at (.int .i64 (p_int (p_len (m_Member a0))))), .c (.at (.bool false)), dd, dd, dd, dd, dd, dd, dd, dd, dd, dd, dd, dd, dd, dd, dd, dd, dd, dd, dd, dd, dd, dd, dd, dd, dd, dd, dd, dd, dd, dd, dd, dd], [], 2⟩ | .inr (r) => some [.v (.at (.int .i64 r))]) ?_ (a1, 0) _ (rfl)).trans (cL ?_)
  · rintro K1 hr1 ⟨v1, v2⟩ R1
    rw [s_laws_heldMemberS_l1, ← hp, ← hm_Member]
    dsimp only
    conv => lhs; cbv
    refine cD (fun hb3 => ?_) fun hb3 => ?_
    · rw [hb3]
      conv => lhs; cbv
      try rfl
    rw [hb3]
    conv => lhs; cbv
    rw [nth_Member]
    refine cO (fun hx5 => ?_) ?_
    · rw [hx5]; try rfl
    rintro x4 hx5
    rw [hx5]
    conv => lhs; cbv
    rw [hF_s_laws_heldStringS x4.name v1]
    refine cO (fun hx7 => ?_) ?_
    · rw [hx7]; try rfl
    rintro r6 hx7
    rw [hx7]
    conv => lhs; cbv
    refine cC (fun hb8 => ?_) fun hb8 => ?_
    · rw [hb8]
      conv => lhs; cbv
      rw [hr1]
      conv => lhs; cbv
      try rfl
    rw [hb8]
    conv => lhs; cbv
    rw [nth_Member]
    rw [hx5]
    conv => lhs; cbv
    rw [hF_s_laws_heldTableEntryS x4.vector r6]
    refine cO (fun hx11 => ?_) ?_
    · rw [hx11]; try rfl
    rintro r10 hx11
    rw [hx11]
    conv => lhs; cbv
    refine cC (fun hb12 => ?_) fun hb12 => ?_
    · rw [hb12]
      conv => lhs; cbv
      rw [hr1]
      conv => lhs; cbv
      try rfl
    rw [hb12]
    conv => lhs; cbv
    rw [nth_Member]
    rw [hx5]
    conv => lhs; cbv
    rw [hF_s_laws_heldPublicationS x4.publications r10]
    refine cO (fun hx15 => ?_) ?_
    · rw [hx15]; try rfl
    rintro r14 hx15
    rw [hx15]
    conv => lhs; cbv
    refine cD (fun hb16 => ?_) fun hb16 => ?_
    · rw [hb16]
      conv => lhs; cbv
      try rfl
    rw [hb16]
    conv => lhs; cbv
    rw [hr1]
    conv => lhs; cbv
    try rfl
  rintro (⟨w17, w18⟩ | w19)
  · conv => lhs; cbv
    try rfl
  rfl
set_option maxHeartbeats 40000000 in
theorem e_s_laws_heldSyncGroup (F : Fns) (hF_s_laws_heldTopology : Has_s_laws_heldTopology F) (hF_s_laws_heldMemberS : Has_s_laws_heldMemberS F) (a0 : DSyncGroup) (a1 : Int) : EvF F Tryd.f13 (fun _ => []) [.a [.at (.int .i64 a0.topology.size), .sl 92 2 (List.map eLink a0.topology.links), .sl 69 3 (List.map eMember a0.members)], .v (.at (.int .i64 a1))] = (s_laws_heldSyncGroup a0 a1).bind fun r => some [.v (.at (.int .i64 r))] := by
  unfold EvF
  obtain ⟨p, hp⟩ := gn prims
  obtain ⟨m_Link, hm_Link⟩ := gn (List.map eLink)
  obtain ⟨m_Member, hm_Member⟩ := gn (List.map eMember)
  rw [← hp, ← hm_Link, ← hm_Member]
  obtain ⟨_, p_cmp, _⟩ := p
  simp only [Has_s_laws_heldTopology, Has_s_laws_heldMemberS, ← hm_Link, ← hm_Member] at hF_s_laws_heldTopology hF_s_laws_heldMemberS
  generalize hal : (fun (F : St → (Ex → St → Option (List Arg)) → Option (List Arg)) lv => aloop F lv fuel) = al
  rw [s_laws_heldSyncGroup, ← hp]
  dsimp only
  conv => lhs; cbv
  rw [hF_s_laws_heldTopology a0.topology a1]
  refine cO (fun hx2 => ?_) ?_
  · rw [hx2]; try rfl
  rintro r1 hx2
  rw [hx2]
  conv => lhs; cbv
  refine cC (fun hb3 => ?_) fun hb3 => ?_
  · rw [hb3]
    conv => lhs; cbv
    try rfl
  rw [hb3]
  conv => lhs; cbv
  rw [hF_s_laws_heldMemberS a0.members r1]
  refine cO (fun hx5 => ?_) ?_
  · rw [hx5]; try rfl
  rintro r4 hx5
  rw [hx5]
  conv => lhs; cbv
  refine cC (fun hb6 => ?_) fun hb6 => ?_
  · rw [hb6]
    conv => lhs; cbv
    try rfl
  rw [hb6]
  conv => lhs; cbv
  try rfl
set_option maxHeartbeats 40000000 in
theorem e_s_laws_FnExactNewSyncGroup (F : Fns) (hF_s_laws_szTopology : Has_s_laws_szTopology F) (hF_s_laws_toTopology : Has_s_laws_toTopology F) (hF_s_spec_NewSyncGroup : Has_s_spec_NewSyncGroup F) (hF_s_impl_NewSyncGroup : Has_s_impl_NewSyncGroup F) (hF_s_laws_eqSyncGroup : Has_s_laws_eqSyncGroup F) (hF_s_laws_eqTopology : Has_s_laws_eqTopology F) (hF_s_laws_markTopology : Has_s_laws_markTopology F) (hF_s_laws_markSyncGroup : Has_s_laws_markSyncGroup F) (hF_s_laws_heldSyncGroup : Has_s_laws_heldSyncGroup F) (a0 : DTopology) : EvF F Tryd.f3 (fun _ => []) [.a [.at (.int .i64 a0.size), .sl 92 2 (List.map eLink a0.links)]] = (s_laws_FnExactNewSyncGroup a0).bind fun r => some [.v (.at (.bool r))] := by
  unfold EvF
  obtain ⟨p, hp⟩ := gn prims
  obtain ⟨m_Link, hm_Link⟩ := gn (List.map eLink)
  obtain ⟨m_Member, hm_Member⟩ := gn (List.map eMember)
  rw [← hp, ← hm_Link]
  obtain ⟨_, p_cmp, _, _, _, _, _, _, _, _, _, p_bnot, _, _, _, p_len, _, _, _, _, _, _, _, _, _, _, p_full, _, p_frz, p_own, p_opn, _⟩ := p
  have frz_Link := frz_gen eLink (fun _ => rfl)
  have frz_Member := frz_gen eMember (fun _ => rfl)
  have full_Link := full_gen eLink
  have full_Member := full_gen eMember
  have own_Link := own_gen eLink (fun _ => rfl)
  have own_Member := own_gen eMember (fun _ => rfl)
  have lm_s_laws_markSyncGroup_0 := @l_s_laws_markSyncGroup_0
  have lm_s_laws_markSyncGroup_1 := @l_s_laws_markSyncGroup_1
  have lm_s_laws_markTopology_0 := @l_s_laws_markTopology_0
  simp only [Has_s_laws_szTopology, Has_s_laws_toTopology, Has_s_spec_NewSyncGroup, Has_s_impl_NewSyncGroup, Has_s_laws_eqSyncGroup, Has_s_laws_eqTopology, Has_s_laws_markTopology, Has_s_laws_markSyncGroup, Has_s_laws_heldSyncGroup, ← hp, ← hm_Link, ← hm_Member] at frz_Link frz_Member full_Link full_Member own_Link own_Member lm_s_laws_markSyncGroup_0 lm_s_laws_markSyncGroup_1 lm_s_laws_markTopology_0 hF_s_laws_szTopology hF_s_laws_toTopology hF_s_spec_NewSyncGroup hF_s_impl_NewSyncGroup hF_s_laws_eqSyncGroup hF_s_laws_eqTopology hF_s_laws_markTopology hF_s_laws_markSyncGroup hF_s_laws_heldSyncGroup
  generalize hal : (fun (F : St → (Ex → St → Option (List Arg)) → Option (List Arg)) lv => aloop F lv fuel) = al
  rw [s_laws_FnExactNewSyncGroup, ← hp]
  dsimp only
  conv => lhs; cbv
  rw [hF_s_laws_szTopology a0 1048576]
  refine cO (fun hx2 => ?_) ?_
  · rw [hx2]; try rfl
  rintro r1 hx2
  rw [hx2]
  conv => lhs; cbv
  refine cC (fun hb3 => ?_) fun hb3 => ?_
  · rw [hb3]
    conv => lhs; cbv
    try rfl
  rw [hb3]
  conv => lhs; cbv
  rw [hF_s_laws_toTopology a0]
  refine cO (fun hx5 => ?_) ?_
  · rw [hx5]; try rfl
  rintro r4 hx5
  rw [hx5]
  conv => lhs; cbv
  rw [frz_Link]
  conv => lhs; cbv
  rw [hF_s_spec_NewSyncGroup r4]
  refine cO (fun hx7 => ?_) ?_
  · rw [hx7]; try rfl
  rintro r6 hx7
  rw [hx7]
  conv => lhs; cbv
  rw [hF_s_laws_toTopology a0]
  rw [hx5]
  conv => lhs; cbv
  rw [frz_Link]
  conv => lhs; cbv
  rw [hF_s_impl_NewSyncGroup r4]
  refine cO (fun hx10 => ?_) ?_
  · rw [hx10]; try rfl
  rintro r9 hx10
  rw [hx10]
  conv => lhs; cbv
  rw [frz_Link]
  conv => lhs; cbv
  rw [frz_Member]
  conv => lhs; cbv
  rw [frz_Link]
  conv => lhs; cbv
  rw [frz_Member]
  conv => lhs; cbv
  rw [hF_s_laws_eqSyncGroup r9 r6]
  refine cO (fun hx12 => ?_) ?_
  · rw [hx12]; try rfl
  rintro r11 hx12
  rw [hx12]
  conv => lhs; cbv
  refine cC (fun hb13 => ?_) fun hb13 => ?_
  · rw [hb13]
    conv => lhs; cbv
    try rfl
  rw [hb13]
  conv => lhs; cbv
  rw [hF_s_laws_toTopology a0]
  rw [hx5]
  conv => lhs; cbv
  rw [frz_Link]
  conv => lhs; cbv
  rw [frz_Link]
  conv => lhs; cbv
  rw [hF_s_laws_eqTopology r4 r4]
  refine cO (fun hx16 => ?_) ?_
  · rw [hx16]; try rfl
  rintro r15 hx16
  rw [hx16]
  conv => lhs; cbv
  refine cC (fun hb17 => ?_) fun hb17 => ?_
  · rw [hb17]
    conv => lhs; cbv
    try rfl
  rw [hb17]
  conv => lhs; cbv
  rw [if_pos (full_Link _)]
  conv => lhs; cbv
  rw [own_Link]
  conv => lhs; cbv
  have hc := hF_s_laws_markTopology r4 1
  try dsimp only at hc
  rw [hc]
  clear hc
  refine cO (fun hx19 => ?_) ?_
  · rw [hx19]; try rfl
  rintro ⟨r18_0, r18_1⟩ hx19
  rw [hx19]
  conv => lhs; cbv
  repeat (first | rw [own_Link] | rw [own_Member])
  try conv => lhs; cbv
  conv => lhs; cbv
  try conv => lhs; rw [← lm_s_laws_markTopology_0 _ _ _ hx19]
  conv => lhs; cbv
  refine cC (fun hb20 => ?_) fun hb20 => ?_
  · rw [hb20]
    conv => lhs; cbv
    try rfl
  rw [hb20]
  conv => lhs; cbv
  rw [frz_Link]
  conv => lhs; cbv
  rw [frz_Member]
  conv => lhs; cbv
  rw [frz_Link]
  conv => lhs; cbv
  rw [frz_Member]
  conv => lhs; cbv
  rw [hF_s_laws_eqSyncGroup r9 r6]
  rw [hx12]
  conv => lhs; cbv
  rw [hb13]
  conv => lhs; cbv
  rw [if_pos (full_Link _)]
  conv => lhs; cbv
  rw [own_Link]
  conv => lhs; cbv
  rw [if_pos (full_Member _)]
  conv => lhs; cbv
  rw [own_Member]
  conv => lhs; cbv
  have hc := hF_s_laws_markSyncGroup r9 1
  try dsimp only at hc
  rw [hc]
  clear hc
  refine cO (fun hx23 => ?_) ?_
  · rw [hx23]; try rfl
  rintro ⟨r22_0, r22_1⟩ hx23
  rw [hx23]
  conv => lhs; cbv
  repeat (first | rw [own_Link] | rw [own_Member])
  try conv => lhs; cbv
  conv => lhs; cbv
  try conv => lhs; rw [← lm_s_laws_markSyncGroup_0 _ _ _ hx23]
  try conv => lhs; rw [← lm_s_laws_markSyncGroup_1 _ _ _ hx23]
  conv => lhs; cbv
  rw [frz_Link]
  conv => lhs; cbv
  rw [frz_Member]
  conv => lhs; cbv
  have hc := hF_s_laws_heldSyncGroup (⟨(⟨r9.topology.size, r22_0.topology.links⟩ : DTopology), r22_0.members⟩ : DSyncGroup) 1
  try dsimp only at hc
  rw [hc]
  clear hc
  refine cO (fun hx25 => ?_) ?_
  · rw [hx25]; try rfl
  rintro r24 hx25
  rw [hx25]
  conv => lhs; cbv
  refine cC (fun hb26 => ?_) fun hb26 => ?_
  · rw [hb26]
    conv => lhs; cbv
    try rfl
  rw [hb26]
  conv => lhs; cbv
  refine cC (fun hb27 => ?_) fun hb27 => ?_
  · rw [hb27]
    conv => lhs; cbv
    try rfl
  rw [hb27]
  conv => lhs; cbv
  rw [hF_s_laws_toTopology a0]
  rw [hx5]
  conv => lhs; cbv
  rw [frz_Link]
  conv => lhs; cbv
  rw [hF_s_impl_NewSyncGroup r4]
  rw [hx10]
  conv => lhs; cbv
  rw [frz_Link]
  conv => lhs; cbv
  rw [frz_Member]
  conv => lhs; cbv
  rw [frz_Link]
  conv => lhs; cbv
  rw [frz_Member]
  conv => lhs; cbv
  rw [hF_s_laws_eqSyncGroup r9 r6]
  rw [hx12]
  conv => lhs; cbv
  rw [hb13]
  conv => lhs; cbv
  rw [frz_Link]
  conv => lhs; cbv
  rw [frz_Member]
  conv => lhs; cbv
  have hc := hF_s_laws_heldSyncGroup (⟨(⟨r9.topology.size, r22_0.topology.links⟩ : DTopology), r22_0.members⟩ : DSyncGroup) 1
  try dsimp only at hc
  rw [hc]
  clear hc
  rw [hx25]
  conv => lhs; cbv
  rw [hb26]
  conv => lhs; cbv
  rw [hb27]
  conv => lhs; cbv
  try rfl
end
end Go.Proofs.YtfianjolmcoadaaDoor
