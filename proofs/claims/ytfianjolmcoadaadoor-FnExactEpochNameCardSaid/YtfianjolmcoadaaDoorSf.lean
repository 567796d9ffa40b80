/- The code computes these plain functions. Printed by genshal.py. -/
import Derived.Test.YtfianjolmcoadaaDoorSd
namespace Go.Proofs.YtfianjolmcoadaaDoor
open Go.RowKit
set_option linter.unusedVariables false
set_option linter.unusedSimpArgs false
set_option maxRecDepth 100000
noncomputable section

set_option maxHeartbeats 40000000 in
theorem e_s_laws_szStringS (F : Fns) (a0 : (List ByteArray)) (a1 : Int) : EvF F Tryd.f42 (fun id => if id = 5 then [0, 1, 5] else []) [.v (.sl 9 1 (List.map eS a0)), .v (.at (.int .i64 a1))] = (s_laws_szStringS a0 a1).bind fun r => some [.v (.at (.int .i64 r))] := by
  unfold EvF
  obtain ⟨p, hp⟩ := gn prims
  obtain ⟨m_string, hm_string⟩ := gn (List.map eS)
  rw [← hp, ← hm_string]
  obtain ⟨p_arith, p_cmp, _, _, _, _, p_ssize, _, _, _, _, _, _, _, _, p_len, p_int, p_nth, _⟩ := p
  have nth_string := @nthF_string
  simp only [← hp, ← hm_string] at nth_string
  generalize hal : (fun (F : St → (Ex → St → Option (List Arg)) → Option (List Arg)) lv => aloop F lv fuel) = al
  rw [s_laws_szStringS, ← hp, ← hm_string]
  dsimp only
  conv => lhs; cbv
  refine cC (fun hb1 => ?_) fun hb1 => ?_
  · rw [hb1]
    conv => lhs; cbv
    try rfl
  rw [hb1]
  conv => lhs; cbv
  refine (loop_al hal (fun x => match x with | (v2, v3) => ⟨[.c (.rd true 9 1 (m_string a0)), .c (.at (.int .i64 v2)), dd, dd, dd, .c (.at (.int .i64 v3)), dd, dd, dd, dd, dd, dd, dd, dd, dd, dd, dd, dd, dd, dd, dd, dd, dd, dd, dd, dd, dd, dd], [], 1⟩) (s_laws_szStringS_l1 a0) (fun K g => match g with | .inl (v2, v3) => K (.exit 0) ⟨[.c (.rd true 9 1 (m_string a0)), .c (.at (.int .i64 v2)), dd, dd, dd, .c (.at (.int .i64 v3)), dd, dd, dd, dd, dd, dd, .c (.at (.int .i64 v3)), .c (.rd true 9 1 (m_string a0)), .c (.at (.int .i64 (p_int (p_len (m_string a0))))), .c (.at (.bool false)), dd, dd, dd, dd, dd, dd, dd, dd, dd, dd, dd, dd], [], 2⟩ | .inr (r) => some [.v (.at (.int .i64 r))]) ?_ (p_arith .sub .i64 a1 (p_int (p_len (m_string a0))), 0) _ (rfl)).trans (cL ?_)
  · rintro K1 hr1 ⟨v2, v3⟩ R1
    rw [s_laws_szStringS_l1, ← hp, ← hm_string]
    dsimp only
    conv => lhs; cbv
    refine cD (fun hb4 => ?_) fun hb4 => ?_
    · rw [hb4]
      conv => lhs; cbv
      try rfl
    rw [hb4]
    conv => lhs; cbv
    rw [nth_string]
    refine cO (fun hx6 => ?_) ?_
    · rw [hx6]; try rfl
    rintro x5 hx6
    rw [hx6]
    conv => lhs; cbv
    refine cD (fun hb7 => ?_) fun hb7 => ?_
    · rw [hb7]
      conv => lhs; cbv
      try rfl
    rw [hb7]
    conv => lhs; cbv
    rw [hr1]
    conv => lhs; cbv
    try rfl
  rintro (⟨w8, w9⟩ | w10)
  · conv => lhs; cbv
    try rfl
  rfl
set_option maxHeartbeats 40000000 in
theorem e_s_laws_szName (F : Fns) (hF_s_laws_szStringS : Has_s_laws_szStringS F) (a0 : (List ByteArray)) (a1 : Int) : EvF F Tryd.f15 (fun _ => []) [.a [.sl 9 1 (List.map eS a0)], .v (.at (.int .i64 a1))] = (s_laws_szName a0 a1).bind fun r => some [.v (.at (.int .i64 r))] := by
  unfold EvF
  obtain ⟨p, hp⟩ := gn prims
  obtain ⟨m_string, hm_string⟩ := gn (List.map eS)
  rw [← hp, ← hm_string]
  obtain ⟨_, p_cmp, _⟩ := p
  simp only [Has_s_laws_szStringS, ← hm_string] at hF_s_laws_szStringS
  generalize hal : (fun (F : St → (Ex → St → Option (List Arg)) → Option (List Arg)) lv => aloop F lv fuel) = al
  rw [s_laws_szName, ← hp]
  dsimp only
  conv => lhs; cbv
  rw [hF_s_laws_szStringS a0 a1]
  refine cO (fun hx2 => ?_) ?_
  · rw [hx2]; try rfl
  rintro r1 hx2
  rw [hx2]
  conv => lhs; cbv
  refine cC (fun hb3 => ?_) fun hb3 => ?_
  · rw [hb3]
    conv => lhs; cbv
    try rfl
  rw [hb3]
  conv => lhs; cbv
  try rfl
set_option maxHeartbeats 40000000 in
theorem e_s_laws_szKey (F : Fns) (hF_s_laws_szName : Has_s_laws_szName F) (a0 : DKey) (a1 : Int) : EvF F Tryd.f72 (fun _ => []) [.a [.sl 9 1 (List.map eS a0.name), .at (.int .i64 a0.secret)], .v (.at (.int .i64 a1))] = (s_laws_szKey a0 a1).bind fun r => some [.v (.at (.int .i64 r))] := by
  unfold EvF
  obtain ⟨p, hp⟩ := gn prims
  obtain ⟨m_string, hm_string⟩ := gn (List.map eS)
  rw [← hp, ← hm_string]
  obtain ⟨_, p_cmp, _⟩ := p
  simp only [Has_s_laws_szName, ← hm_string] at hF_s_laws_szName
  generalize hal : (fun (F : St → (Ex → St → Option (List Arg)) → Option (List Arg)) lv => aloop F lv fuel) = al
  rw [s_laws_szKey, ← hp]
  dsimp only
  conv => lhs; cbv
  rw [hF_s_laws_szName a0.name a1]
  refine cO (fun hx2 => ?_) ?_
  · rw [hx2]; try rfl
  rintro r1 hx2
  rw [hx2]
  conv => lhs; cbv
  refine cC (fun hb3 => ?_) fun hb3 => ?_
  · rw [hb3]
    conv => lhs; cbv
    try rfl
  rw [hb3]
  conv => lhs; cbv
  try rfl
set_option maxHeartbeats 40000000 in
theorem e_s_laws_szKeyS (F : Fns) (hF_s_laws_szKey : Has_s_laws_szKey F) (a0 : (List DKey)) (a1 : Int) : EvF F Tryd.f40 (fun id => if id = 5 then [0, 1, 5] else []) [.v (.sl 112 2 (List.map eKey a0)), .v (.at (.int .i64 a1))] = (s_laws_szKeyS a0 a1).bind fun r => some [.v (.at (.int .i64 r))] := by
  unfold EvF
  obtain ⟨p, hp⟩ := gn prims
  obtain ⟨m_Key, hm_Key⟩ := gn (List.map eKey)
  obtain ⟨m_string, hm_string⟩ := gn (List.map eS)
  rw [← hp, ← hm_Key]
  obtain ⟨p_arith, p_cmp, _, _, _, _, _, _, _, _, _, _, _, _, _, p_len, p_int, p_nth, _⟩ := p
  have nth_Key := @nthF_Key
  simp only [Has_s_laws_szKey, ← hp, ← hm_Key, ← hm_string] at nth_Key hF_s_laws_szKey
  generalize hal : (fun (F : St → (Ex → St → Option (List Arg)) → Option (List Arg)) lv => aloop F lv fuel) = al
  rw [s_laws_szKeyS, ← hp, ← hm_Key]
  dsimp only
  conv => lhs; cbv
  refine cC (fun hb1 => ?_) fun hb1 => ?_
  · rw [hb1]
    conv => lhs; cbv
    try rfl
  rw [hb1]
  conv => lhs; cbv
  refine (loop_al hal (fun x => match x with | (v2, v3) => ⟨[.c (.rd true 112 2 (m_Key a0)), .c (.at (.int .i64 v2)), dd, dd, dd, .c (.at (.int .i64 v3)), dd, dd, dd, dd, dd, dd, dd, dd, dd, dd, dd, dd, dd, dd, dd, dd, dd, dd, dd, dd, dd], [], 1⟩) (s_laws_szKeyS_l1 a0) (fun K g => match g with | .inl (v2, v3) => K (.exit 0) ⟨[.c (.rd true 112 2 (m_Key a0)), .c (.at (.int .i64 v2)), dd, dd, dd, .c (.at (.int .i64 v3)), dd, dd, dd, dd, dd, dd, .c (.at (.int .i64 v3)), .c (.rd true 112 2 (m_Key a0)), .c (.at (.int .i64 (p_int (p_len (m_Key a0))))), .c (.at (.bool false)), dd, dd, dd, dd, dd, dd, dd, dd, dd, dd, dd], [], 2⟩ | .inr (r) => some [.v (.at (.int .i64 r))]) ?_ (p_arith .sub .i64 a1 (p_int (p_len (m_Key a0))), 0) _ (rfl)).trans (cL ?_)
  · rintro K1 hr1 ⟨v2, v3⟩ R1
    rw [s_laws_szKeyS_l1, ← hp, ← hm_Key]
    dsimp only
    conv => lhs; cbv
    refine cD (fun hb4 => ?_) fun hb4 => ?_
    · rw [hb4]
      conv => lhs; cbv
      try rfl
    rw [hb4]
    conv => lhs; cbv
    rw [nth_Key]
    refine cO (fun hx6 => ?_) ?_
    · rw [hx6]; try rfl
    rintro x5 hx6
    rw [hx6]
    conv => lhs; cbv
    rw [hF_s_laws_szKey x5 v2]
    refine cO (fun hx8 => ?_) ?_
    · rw [hx8]; try rfl
    rintro r7 hx8
    rw [hx8]
    conv => lhs; cbv
    refine cD (fun hb9 => ?_) fun hb9 => ?_
    · rw [hb9]
      conv => lhs; cbv
      try rfl
    rw [hb9]
    conv => lhs; cbv
    rw [hr1]
    conv => lhs; cbv
    try rfl
  rintro (⟨w10, w11⟩ | w12)
  · conv => lhs; cbv
    try rfl
  rfl
set_option maxHeartbeats 40000000 in
theorem e_s_laws_szReader (F : Fns) (hF_s_laws_szName : Has_s_laws_szName F) (a0 : DReader) (a1 : Int) : EvF F Tryd.f73 (fun _ => []) [.a [.at (.int .i64 a0.node), .sl 9 1 (List.map eS a0.name), .at (.int .i64 a0.epoch)], .v (.at (.int .i64 a1))] = (s_laws_szReader a0 a1).bind fun r => some [.v (.at (.int .i64 r))] := by
  unfold EvF
  obtain ⟨p, hp⟩ := gn prims
  obtain ⟨m_string, hm_string⟩ := gn (List.map eS)
  rw [← hp, ← hm_string]
  obtain ⟨_, p_cmp, _⟩ := p
  simp only [Has_s_laws_szName, ← hm_string] at hF_s_laws_szName
  generalize hal : (fun (F : St → (Ex → St → Option (List Arg)) → Option (List Arg)) lv => aloop F lv fuel) = al
  rw [s_laws_szReader, ← hp]
  dsimp only
  conv => lhs; cbv
  rw [hF_s_laws_szName a0.name a1]
  refine cO (fun hx2 => ?_) ?_
  · rw [hx2]; try rfl
  rintro r1 hx2
  rw [hx2]
  conv => lhs; cbv
  refine cC (fun hb3 => ?_) fun hb3 => ?_
  · rw [hb3]
    conv => lhs; cbv
    try rfl
  rw [hb3]
  conv => lhs; cbv
  try rfl
set_option maxHeartbeats 40000000 in
theorem e_s_laws_szReaderS (F : Fns) (hF_s_laws_szReader : Has_s_laws_szReader F) (a0 : (List DReader)) (a1 : Int) : EvF F Tryd.f41 (fun id => if id = 5 then [0, 1, 5] else []) [.v (.sl 115 3 (List.map eReader a0)), .v (.at (.int .i64 a1))] = (s_laws_szReaderS a0 a1).bind fun r => some [.v (.at (.int .i64 r))] := by
  unfold EvF
  obtain ⟨p, hp⟩ := gn prims
  obtain ⟨m_Reader, hm_Reader⟩ := gn (List.map eReader)
  obtain ⟨m_string, hm_string⟩ := gn (List.map eS)
  rw [← hp, ← hm_Reader]
  obtain ⟨p_arith, p_cmp, _, _, _, _, _, _, _, _, _, _, _, _, _, p_len, p_int, p_nth, _⟩ := p
  have nth_Reader := @nthF_Reader
  simp only [Has_s_laws_szReader, ← hp, ← hm_Reader, ← hm_string] at nth_Reader hF_s_laws_szReader
  generalize hal : (fun (F : St → (Ex → St → Option (List Arg)) → Option (List Arg)) lv => aloop F lv fuel) = al
  rw [s_laws_szReaderS, ← hp, ← hm_Reader]
  dsimp only
  conv => lhs; cbv
  refine cC (fun hb1 => ?_) fun hb1 => ?_
  · rw [hb1]
    conv => lhs; cbv
    try rfl
  rw [hb1]
  conv => lhs; cbv
  refine (loop_al hal (fun x => match x with | (v2, v3) => ⟨[.c (.rd true 115 3 (m_Reader a0)), .c (.at (.int .i64 v2)), dd, dd, dd, .c (.at (.int .i64 v3)), dd, dd, dd, dd, dd, dd, dd, dd, dd, dd, dd, dd, dd, dd, dd, dd, dd, dd, dd, dd, dd], [], 1⟩) (s_laws_szReaderS_l1 a0) (fun K g => match g with | .inl (v2, v3) => K (.exit 0) ⟨[.c (.rd true 115 3 (m_Reader a0)), .c (.at (.int .i64 v2)), dd, dd, dd, .c (.at (.int .i64 v3)), dd, dd, dd, dd, dd, dd, .c (.at (.int .i64 v3)), .c (.rd true 115 3 (m_Reader a0)), .c (.at (.int .i64 (p_int (p_len (m_Reader a0))))), .c (.at (.bool false)), dd, dd, dd, dd, dd, dd, dd, dd, dd, dd, dd], [], 2⟩ | .inr (r) => some [.v (.at (.int .i64 r))]) ?_ (p_arith .sub .i64 a1 (p_int (p_len (m_Reader a0))), 0) _ (rfl)).trans (cL ?_)
  · rintro K1 hr1 ⟨v2, v3⟩ R1
    rw [s_laws_szReaderS_l1, ← hp, ← hm_Reader]
    dsimp only
    conv => lhs; cbv
    refine cD (fun hb4 => ?_) fun hb4 => ?_
    · rw [hb4]
      conv => lhs; cbv
      try rfl
    rw [hb4]
    conv => lhs; cbv
    rw [nth_Reader]
    refine cO (fun hx6 => ?_) ?_
    · rw [hx6]; try rfl
    rintro x5 hx6
    rw [hx6]
    conv => lhs; cbv
    rw [hF_s_laws_szReader x5 v2]
    refine cO (fun hx8 => ?_) ?_
    · rw [hx8]; try rfl
    rintro r7 hx8
    rw [hx8]
    conv => lhs; cbv
    refine cD (fun hb9 => ?_) fun hb9 => ?_
    · rw [hb9]
      conv => lhs; cbv
      try rfl
    rw [hb9]
    conv => lhs; cbv
    rw [hr1]
    conv => lhs; cbv
    try rfl
  rintro (⟨w10, w11⟩ | w12)
  · conv => lhs; cbv
    try rfl
  rfl
set_option maxHeartbeats 40000000 in
theorem e_s_laws_szAccessController (F : Fns) (hF_s_laws_szKeyS : Has_s_laws_szKeyS F) (hF_s_laws_szReaderS : Has_s_laws_szReaderS F) (a0 : DAccessController) (a1 : Int) : EvF F Tryd.f14 (fun _ => []) [.a [.sl 112 2 (List.map eKey a0.keys), .at (.int .i64 a0.master), .at (.int .i64 a0.epoch), .sl 115 3 (List.map eReader a0.readers)], .v (.at (.int .i64 a1))] = (s_laws_szAccessController a0 a1).bind fun r => some [.v (.at (.int .i64 r))] := by
  unfold EvF
  obtain ⟨p, hp⟩ := gn prims
  obtain ⟨m_Key, hm_Key⟩ := gn (List.map eKey)
  obtain ⟨m_Reader, hm_Reader⟩ := gn (List.map eReader)
  rw [← hp, ← hm_Key, ← hm_Reader]
  obtain ⟨_, p_cmp, _⟩ := p
  simp only [Has_s_laws_szKeyS, Has_s_laws_szReaderS, ← hm_Key, ← hm_Reader] at hF_s_laws_szKeyS hF_s_laws_szReaderS
  generalize hal : (fun (F : St → (Ex → St → Option (List Arg)) → Option (List Arg)) lv => aloop F lv fuel) = al
  rw [s_laws_szAccessController, ← hp]
  dsimp only
  conv => lhs; cbv
  rw [hF_s_laws_szKeyS a0.keys a1]
  refine cO (fun hx2 => ?_) ?_
  · rw [hx2]; try rfl
  rintro r1 hx2
  rw [hx2]
  conv => lhs; cbv
  refine cC (fun hb3 => ?_) fun hb3 => ?_
  · rw [hb3]
    conv => lhs; cbv
    try rfl
  rw [hb3]
  conv => lhs; cbv
  rw [hF_s_laws_szReaderS a0.readers r1]
  refine cO (fun hx5 => ?_) ?_
  · rw [hx5]; try rfl
  rintro r4 hx5
  rw [hx5]
  conv => lhs; cbv
  refine cC (fun hb6 => ?_) fun hb6 => ?_
  · rw [hb6]
    conv => lhs; cbv
    try rfl
  rw [hb6]
  conv => lhs; cbv
  try rfl
set_option maxHeartbeats 40000000 in
theorem e_s_laws_toStringS (F : Fns) (a0 : (List ByteArray)) : EvF F Tryd.f47 (fun id => if id = 3 then [0, 3, 4] else []) [.v (.sl 9 1 (List.map eS a0))] = (s_laws_toStringS a0).bind fun r => some [.v (.sl 9 1 (List.map eS r))] := by
  unfold EvF
  obtain ⟨p, hp⟩ := gn prims
  obtain ⟨m_string, hm_string⟩ := gn (List.map eS)
  rw [← hp, ← hm_string]
  obtain ⟨p_arith, p_cmp, _, _, _, _, _, _, _, _, _, _, _, _, _, p_len, p_int, p_nth, _, _, p_ridx, p_rnth, p_rset, _, _, _, p_full, _, _, p_own, p_opn, _, _, _, _, _, _, _, p_mkN, p_rep, _⟩ := p
  have full_string := full_gen eS
  have lset_string := lset_gen eS
  have mkn_string := @mknF_string
  have nth_string := @nthF_string
  have own_string := own_gen eS (fun _ => rfl)
  have rep_string := @repF_string
  have rnth_string := @rnthF_string
  have rset_string := @rsetF_string
  simp only [← hp, ← hm_string] at full_string lset_string mkn_string nth_string own_string rep_string rnth_string rset_string
  generalize hal : (fun (F : St → (Ex → St → Option (List Arg)) → Option (List Arg)) lv => aloop F lv fuel) = al
  rw [s_laws_toStringS, ← hp, ← hm_string]
  dsimp only
  conv => lhs; cbv
  rw [mkn_string]
  refine cO (fun hx2 => ?_) ?_
  · rw [hx2]; try rfl
  rintro x1 hx2
  rw [hx2]
  conv => lhs; cbv
  rw [rep_string _ _ _ hx2]
  conv => lhs; cbv
  refine (loop_al hal (fun x => match x with | (v3, v4) => ⟨[.c (.rd true 9 1 (m_string a0)), dd, dd, .c (.row (0, 0, 0) 9 1 0 (p_len (m_string v4))), .c (.at (.int .i64 v3)), dd, dd, dd, dd, dd, dd, dd, dd, dd, dd, dd, dd, dd, dd, dd, dd, dd], [((0, 0, 0), ⟨true, false, 9, 1, p_opn (m_string v4)⟩)], 1⟩) (s_laws_toStringS_l1 a0) (fun K g => match g with | (v3, v4) => K (.exit 0) ⟨[.c (.rd true 9 1 (m_string a0)), dd, dd, .c (.row (0, 0, 0) 9 1 0 (p_len (m_string v4))), .c (.at (.int .i64 v3)), dd, dd, dd, .c (.at (.int .i64 v3)), .c (.rd true 9 1 (m_string a0)), .c (.at (.int .i64 (p_int (p_len (m_string a0))))), .c (.at (.bool false)), dd, dd, dd, dd, dd, dd, dd, dd, dd, dd], [((0, 0, 0), ⟨true, false, 9, 1, p_opn (m_string v4)⟩)], 2⟩) ?_ (0, x1) _ (rfl)).trans (cL ?_)
  · rintro K1 hr1 ⟨v3, v4⟩ R1
    rw [s_laws_toStringS_l1, ← hp, ← hm_string]
    dsimp only
    conv => lhs; cbv
    refine cD (fun hb5 => ?_) fun hb5 => ?_
    · rw [hb5]
      conv => lhs; cbv
      try rfl
    rw [hb5]
    conv => lhs; cbv
    rw [nth_string]
    refine cO (fun hx7 => ?_) ?_
    · rw [hx7]; try rfl
    rintro x6 hx7
    rw [hx7]
    conv => lhs; cbv
    refine cO (fun hx9 => ?_) ?_
    · rw [hx9]; try rfl
    rintro x8 hx9
    rw [hx9]
    conv => lhs; cbv
    rw [rnth_string]
    refine cO (fun hx11 => ?_) ?_
    · rw [hx11]; try rfl
    rintro x10 hx11
    rw [hx11]
    conv => lhs; cbv
    rw [rset_string]
    try conv => lhs; rw [← lset_string v4 x8 x6]
    conv => lhs; cbv
    try rfl
  rintro ⟨w12, w13⟩
  conv => lhs; cbv
  rw [if_pos (full_string _)]
  conv => lhs; cbv
  rw [own_string]
  conv => lhs; cbv
  try rfl
set_option maxHeartbeats 40000000 in
theorem e_s_laws_toName (F : Fns) (hF_s_laws_toStringS : Has_s_laws_toStringS F) (a0 : (List ByteArray)) : EvF F Tryd.f18 (fun _ => []) [.a [.sl 9 1 (List.map eS a0)]] = (s_laws_toName a0).bind fun r => some [.a [.sl 9 1 (List.map eS r)]] := by
  unfold EvF
  obtain ⟨p, hp⟩ := gn prims
  obtain ⟨m_string, hm_string⟩ := gn (List.map eS)
  rw [← hp, ← hm_string]
  obtain ⟨_, _, _, _, _, _, _, _, _, _, _, _, _, _, _, p_len, _, _, _, _, _, _, _, _, _, _, p_full, _, _, p_own, p_opn, _⟩ := p
  have full_string := full_gen eS
  have own_string := own_gen eS (fun _ => rfl)
  simp only [Has_s_laws_toStringS, ← hp, ← hm_string] at full_string own_string hF_s_laws_toStringS
  generalize hal : (fun (F : St → (Ex → St → Option (List Arg)) → Option (List Arg)) lv => aloop F lv fuel) = al
  rw [s_laws_toName]
  conv => lhs; cbv
  rw [hF_s_laws_toStringS a0]
  refine cO (fun hx2 => ?_) ?_
  · rw [hx2]; try rfl
  rintro r1 hx2
  rw [hx2]
  conv => lhs; cbv
  rw [if_pos (full_string _)]
  conv => lhs; cbv
  rw [own_string]
  conv => lhs; cbv
  try rfl
set_option maxHeartbeats 40000000 in
theorem e_s_laws_toKey (F : Fns) (hF_s_laws_toName : Has_s_laws_toName F) (a0 : DKey) : EvF F Tryd.f75 (fun _ => []) [.a [.sl 9 1 (List.map eS a0.name), .at (.int .i64 a0.secret)]] = (s_laws_toKey a0).bind fun r => some [.a [.sl 9 1 (List.map eS r.name), .at (.int .i64 r.secret)]] := by
  unfold EvF
  obtain ⟨p, hp⟩ := gn prims
  obtain ⟨m_string, hm_string⟩ := gn (List.map eS)
  rw [← hp, ← hm_string]
  obtain ⟨_, _, _, _, _, _, _, _, _, _, _, _, _, _, _, p_len, _, _, _, _, _, _, _, _, _, _, p_full, _, _, p_own, p_opn, _⟩ := p
  have full_string := full_gen eS
  have own_string := own_gen eS (fun _ => rfl)
  simp only [Has_s_laws_toName, ← hp, ← hm_string] at full_string own_string hF_s_laws_toName
  generalize hal : (fun (F : St → (Ex → St → Option (List Arg)) → Option (List Arg)) lv => aloop F lv fuel) = al
  rw [s_laws_toKey]
  conv => lhs; cbv
  rw [hF_s_laws_toName a0.name]
  refine cO (fun hx2 => ?_) ?_
  · rw [hx2]; try rfl
  rintro r1 hx2
  rw [hx2]
  conv => lhs; cbv
  rw [if_pos (full_string _)]
  conv => lhs; cbv
  rw [own_string]
  conv => lhs; cbv
  try rfl
set_option maxHeartbeats 40000000 in
theorem e_s_laws_toKeyS (F : Fns) (hF_s_laws_toKey : Has_s_laws_toKey F) (a0 : (List DKey)) : EvF F Tryd.f45 (fun id => if id = 3 then [0, 3, 4] else []) [.v (.sl 112 2 (List.map eKey a0))] = (s_laws_toKeyS a0).bind fun r => some [.v (.sl 112 2 (List.map eKey r))] := by
  unfold EvF
  obtain ⟨p, hp⟩ := gn prims
  obtain ⟨m_Key, hm_Key⟩ := gn (List.map eKey)
  obtain ⟨m_string, hm_string⟩ := gn (List.map eS)
  rw [← hp, ← hm_Key]
  obtain ⟨p_arith, p_cmp, _, _, _, _, _, _, _, _, _, _, _, _, _, p_len, p_int, p_nth, _, _, p_ridx, p_rnth, p_rset, _, _, _, p_full, _, _, p_own, p_opn, _, _, _, _, _, _, _, p_mkN, p_rep, _⟩ := p
  have full_Key := full_gen eKey
  have full_string := full_gen eS
  have lset_Key := lset_gen eKey
  have mkn_Key := @mknF_Key
  have nth_Key := @nthF_Key
  have own_Key := own_gen eKey (fun _ => rfl)
  have own_string := own_gen eS (fun _ => rfl)
  have rep_Key := @repF_Key
  have rnth_Key := @rnthF_Key
  have rset_Key := @rsetF_Key
  simp only [Has_s_laws_toKey, ← hp, ← hm_Key, ← hm_string] at full_Key full_string lset_Key mkn_Key nth_Key own_Key own_string rep_Key rnth_Key rset_Key hF_s_laws_toKey
  generalize hal : (fun (F : St → (Ex → St → Option (List Arg)) → Option (List Arg)) lv => aloop F lv fuel) = al
  rw [s_laws_toKeyS, ← hp, ← hm_Key]
  dsimp only
  conv => lhs; cbv
  rw [mkn_Key]
  refine cO (fun hx2 => ?_) ?_
  · rw [hx2]; try rfl
  rintro x1 hx2
  rw [hx2]
  conv => lhs; cbv
  rw [rep_Key _ _ _ hx2]
  conv => lhs; cbv
  refine (loop_al hal (fun x => match x with | (v3, v4) => ⟨[.c (.rd true 112 2 (m_Key a0)), dd, dd, .c (.row (0, 0, 0) 112 2 0 (p_len (m_Key v4))), .c (.at (.int .i64 v3)), dd, dd, dd, dd, dd, dd, dd, dd, dd, dd, dd, dd, dd, dd, dd, dd, dd, dd], [((0, 0, 0), ⟨true, false, 112, 2, p_opn (m_Key v4)⟩)], 1⟩) (s_laws_toKeyS_l1 a0) (fun K g => match g with | (v3, v4) => K (.exit 0) ⟨[.c (.rd true 112 2 (m_Key a0)), dd, dd, .c (.row (0, 0, 0) 112 2 0 (p_len (m_Key v4))), .c (.at (.int .i64 v3)), dd, dd, dd, .c (.at (.int .i64 v3)), .c (.rd true 112 2 (m_Key a0)), .c (.at (.int .i64 (p_int (p_len (m_Key a0))))), .c (.at (.bool false)), dd, dd, dd, dd, dd, dd, dd, dd, dd, dd, dd], [((0, 0, 0), ⟨true, false, 112, 2, p_opn (m_Key v4)⟩)], 2⟩) ?_ (0, x1) _ (rfl)).trans (cL ?_)
  · rintro K1 hr1 ⟨v3, v4⟩ R1
    rw [s_laws_toKeyS_l1, ← hp, ← hm_Key]
    dsimp only
    conv => lhs; cbv
    refine cD (fun hb5 => ?_) fun hb5 => ?_
    · rw [hb5]
      conv => lhs; cbv
      try rfl
    rw [hb5]
    conv => lhs; cbv
    rw [nth_Key]
    refine cO (fun hx7 => ?_) ?_
    · rw [hx7]; try rfl
    rintro x6 hx7
    rw [hx7]
    conv => lhs; cbv
    rw [hF_s_laws_toKey x6]
    refine cO (fun hx9 => ?_) ?_
    · rw [hx9]; try rfl
    rintro r8 hx9
    rw [hx9]
    conv => lhs; cbv
    refine cO (fun hx11 => ?_) ?_
    · rw [hx11]; try rfl
    rintro x10 hx11
    rw [hx11]
    conv => lhs; cbv
    rw [rnth_Key]
    refine cO (fun hx13 => ?_) ?_
    · rw [hx13]; try rfl
    rintro x12 hx13
    rw [hx13]
    conv => lhs; cbv
    rw [if_pos (full_string _)]
    conv => lhs; cbv
    rw [own_string]
    conv => lhs; cbv
    rw [rset_Key]
    try conv => lhs; rw [← lset_Key v4 x10 r8]
    conv => lhs; cbv
    try rfl
  rintro ⟨w14, w15⟩
  conv => lhs; cbv
  rw [if_pos (full_Key _)]
  conv => lhs; cbv
  rw [own_Key]
  conv => lhs; cbv
  try rfl
set_option maxHeartbeats 40000000 in
theorem e_s_laws_toReader (F : Fns) (hF_s_laws_toName : Has_s_laws_toName F) (a0 : DReader) : EvF F Tryd.f76 (fun _ => []) [.a [.at (.int .i64 a0.node), .sl 9 1 (List.map eS a0.name), .at (.int .i64 a0.epoch)]] = (s_laws_toReader a0).bind fun r => some [.a [.at (.int .i64 r.node), .sl 9 1 (List.map eS r.name), .at (.int .i64 r.epoch)]] := by
  unfold EvF
  obtain ⟨p, hp⟩ := gn prims
  obtain ⟨m_string, hm_string⟩ := gn (List.map eS)
  rw [← hp, ← hm_string]
  obtain ⟨_, _, _, _, _, _, _, _, _, _, _, _, _, _, _, p_len, _, _, _, _, _, _, _, _, _, _, p_full, _, _, p_own, p_opn, _⟩ := p
  have full_string := full_gen eS
  have own_string := own_gen eS (fun _ => rfl)
  simp only [Has_s_laws_toName, ← hp, ← hm_string] at full_string own_string hF_s_laws_toName
  generalize hal : (fun (F : St → (Ex → St → Option (List Arg)) → Option (List Arg)) lv => aloop F lv fuel) = al
  rw [s_laws_toReader]
  conv => lhs; cbv
  rw [hF_s_laws_toName a0.name]
  refine cO (fun hx2 => ?_) ?_
  · rw [hx2]; try rfl
  rintro r1 hx2
  rw [hx2]
  conv => lhs; cbv
  rw [if_pos (full_string _)]
  conv => lhs; cbv
  rw [own_string]
  conv => lhs; cbv
  try rfl
set_option maxHeartbeats 40000000 in
theorem e_s_laws_toReaderS (F : Fns) (hF_s_laws_toReader : Has_s_laws_toReader F) (a0 : (List DReader)) : EvF F Tryd.f46 (fun id => if id = 3 then [0, 3, 4] else []) [.v (.sl 115 3 (List.map eReader a0))] = (s_laws_toReaderS a0).bind fun r => some [.v (.sl 115 3 (List.map eReader r))] := by
  unfold EvF
  obtain ⟨p, hp⟩ := gn prims
  obtain ⟨m_Reader, hm_Reader⟩ := gn (List.map eReader)
  obtain ⟨m_string, hm_string⟩ := gn (List.map eS)
  rw [← hp, ← hm_Reader]
  obtain ⟨p_arith, p_cmp, _, _, _, _, _, _, _, _, _, _, _, _, _, p_len, p_int, p_nth, _, _, p_ridx, p_rnth, p_rset, _, _, _, p_full, _, _, p_own, p_opn, _, _, _, _, _, _, _, p_mkN, p_rep, _⟩ := p
  have full_Reader := full_gen eReader
  have full_string := full_gen eS
  have lset_Reader := lset_gen eReader
  have mkn_Reader := @mknF_Reader
  have nth_Reader := @nthF_Reader
  have own_Reader := own_gen eReader (fun _ => rfl)
  have own_string := own_gen eS (fun _ => rfl)
  have rep_Reader := @repF_Reader
  have rnth_Reader := @rnthF_Reader
  have rset_Reader := @rsetF_Reader
  simp only [Has_s_laws_toReader, ← hp, ← hm_Reader, ← hm_string] at full_Reader full_string lset_Reader mkn_Reader nth_Reader own_Reader own_string rep_Reader rnth_Reader rset_Reader hF_s_laws_toReader
  generalize hal : (fun (F : St → (Ex → St → Option (List Arg)) → Option (List Arg)) lv => aloop F lv fuel) = al
  rw [s_laws_toReaderS, ← hp, ← hm_Reader]
  dsimp only
  conv => lhs; cbv
  rw [mkn_Reader]
  refine cO (fun hx2 => ?_) ?_
  · rw [hx2]; try rfl
  rintro x1 hx2
  rw [hx2]
  conv => lhs; cbv
  rw [rep_Reader _ _ _ hx2]
  conv => lhs; cbv
  refine (loop_al hal (fun x => match x with | (v3, v4) => ⟨[.c (.rd true 115 3 (m_Reader a0)), dd, dd, .c (.row (0, 0, 0) 115 3 0 (p_len (m_Reader v4))), .c (.at (.int .i64 v3)), dd, dd, dd, dd, dd, dd, dd, dd, dd, dd, dd, dd, dd, dd, dd, dd, dd, dd], [((0, 0, 0), ⟨true, false, 115, 3, p_opn (m_Reader v4)⟩)], 1⟩) (s_laws_toReaderS_l1 a0) (fun K g => match g with | (v3, v4) => K (.exit 0) ⟨[.c (.rd true 115 3 (m_Reader a0)), dd, dd, .c (.row (0, 0, 0) 115 3 0 (p_len (m_Reader v4))), .c (.at (.int .i64 v3)), dd, dd, dd, .c (.at (.int .i64 v3)), .c (.rd true 115 3 (m_Reader a0)), .c (.at (.int .i64 (p_int (p_len (m_Reader a0))))), .c (.at (.bool false)), dd, dd, dd, dd, dd, dd, dd, dd, dd, dd, dd], [((0, 0, 0), ⟨true, false, 115, 3, p_opn (m_Reader v4)⟩)], 2⟩) ?_ (0, x1) _ (rfl)).trans (cL ?_)
  · rintro K1 hr1 ⟨v3, v4⟩ R1
    rw [s_laws_toReaderS_l1, ← hp, ← hm_Reader]
    dsimp only
    conv => lhs; cbv
    refine cD (fun hb5 => ?_) fun hb5 => ?_
    · rw [hb5]
      conv => lhs; cbv
      try rfl
    rw [hb5]
    conv => lhs; cbv
    rw [nth_Reader]
    refine cO (fun hx7 => ?_) ?_
    · rw [hx7]; try rfl
    rintro x6 hx7
    rw [hx7]
    conv => lhs; cbv
    rw [hF_s_laws_toReader x6]
    refine cO (fun hx9 => ?_) ?_
    · rw [hx9]; try rfl
    rintro r8 hx9
    rw [hx9]
    conv => lhs; cbv
    refine cO (fun hx11 => ?_) ?_
    · rw [hx11]; try rfl
    rintro x10 hx11
    rw [hx11]
    conv => lhs; cbv
    rw [rnth_Reader]
    refine cO (fun hx13 => ?_) ?_
    · rw [hx13]; try rfl
    rintro x12 hx13
    rw [hx13]
    conv => lhs; cbv
    rw [if_pos (full_string _)]
    conv => lhs; cbv
    rw [own_string]
    conv => lhs; cbv
    rw [rset_Reader]
    try conv => lhs; rw [← lset_Reader v4 x10 r8]
    conv => lhs; cbv
    try rfl
  rintro ⟨w14, w15⟩
  conv => lhs; cbv
  rw [if_pos (full_Reader _)]
  conv => lhs; cbv
  rw [own_Reader]
  conv => lhs; cbv
  try rfl
set_option maxHeartbeats 40000000 in
theorem e_s_laws_toAccessController (F : Fns) (hF_s_laws_toKeyS : Has_s_laws_toKeyS F) (hF_s_laws_toReaderS : Has_s_laws_toReaderS F) (a0 : DAccessController) : EvF F Tryd.f17 (fun _ => []) [.a [.sl 112 2 (List.map eKey a0.keys), .at (.int .i64 a0.master), .at (.int .i64 a0.epoch), .sl 115 3 (List.map eReader a0.readers)]] = (s_laws_toAccessController a0).bind fun r => some [.a [.sl 112 2 (List.map eKey r.keys), .at (.int .i64 r.master), .at (.int .i64 r.epoch), .sl 115 3 (List.map eReader r.readers)]] := by
  unfold EvF
  obtain ⟨p, hp⟩ := gn prims
  obtain ⟨m_Key, hm_Key⟩ := gn (List.map eKey)
  obtain ⟨m_Reader, hm_Reader⟩ := gn (List.map eReader)
  rw [← hp, ← hm_Key, ← hm_Reader]
  obtain ⟨_, _, _, _, _, _, _, _, _, _, _, _, _, _, _, p_len, _, _, _, _, _, _, _, _, _, _, p_full, _, _, p_own, p_opn, _⟩ := p
  have full_Key := full_gen eKey
  have full_Reader := full_gen eReader
  have own_Key := own_gen eKey (fun _ => rfl)
  have own_Reader := own_gen eReader (fun _ => rfl)
  simp only [Has_s_laws_toKeyS, Has_s_laws_toReaderS, ← hp, ← hm_Key, ← hm_Reader] at full_Key full_Reader own_Key own_Reader hF_s_laws_toKeyS hF_s_laws_toReaderS
  generalize hal : (fun (F : St → (Ex → St → Option (List Arg)) → Option (List Arg)) lv => aloop F lv fuel) = al
  rw [s_laws_toAccessController]
  conv => lhs; cbv
  rw [hF_s_laws_toKeyS a0.keys]
  refine cO (fun hx2 => ?_) ?_
  · rw [hx2]; try rfl
  rintro r1 hx2
  rw [hx2]
  conv => lhs; cbv
  rw [hF_s_laws_toReaderS a0.readers]
  refine cO (fun hx4 => ?_) ?_
  · rw [hx4]; try rfl
  rintro r3 hx4
  rw [hx4]
  conv => lhs; cbv
  rw [if_pos (full_Key _)]
  conv => lhs; cbv
  rw [own_Key]
  conv => lhs; cbv
  rw [if_pos (full_Reader _)]
  conv => lhs; cbv
  rw [own_Reader]
  conv => lhs; cbv
  try rfl
set_option maxHeartbeats 40000000 in
theorem e_s_spec_FormatInt (F : Fns) (a0 : Int) : EvF F Tryd.f44 (fun id => if id = 5 then [0, 3, 4] else []) [.v (.at (.int .i64 a0))] = (s_spec_FormatInt a0).bind fun r => some [.v (.at (.string r))] := by
  unfold EvF
  obtain ⟨p, hp⟩ := gn prims
  obtain ⟨m_byte, hm_byte⟩ := gn (List.map eY)
  rw [← hp]
  obtain ⟨p_arith, p_cmp, p_wrap, _, p_scat, p_catOk, _, _, _, _, p_str, _, _, _, _, _, _, _, _, _, _, _, _, _, _, _, _, _, _, _, _, _, _, _, _, p_yI, p_ofB, p_byW, _⟩ := p
  have mcons_byte := @mconsF_byte
  have nild_byte := @nildF_byte
  have str_byte := @strF_byte
  have wy_byte := @wyF_byte
  simp only [← hp, ← hm_byte] at mcons_byte nild_byte str_byte wy_byte
  generalize hal : (fun (F : St → (Ex → St → Option (List Arg)) → Option (List Arg)) lv => aloop F lv fuel) = al
  rw [s_spec_FormatInt, ← hp]
  dsimp only
  conv => lhs; cbv
  refine cC (fun hb1 => ?_) fun hb1 => ?_
  · rw [hb1]
    conv => lhs; cbv
    try rfl
  rw [hb1]
  conv => lhs; cbv
  refine (loop_al hal (fun x => match x with | (v2, v3) => ⟨[.c (.at (.int .i64 a0)), dd, dd, .c (.at (.string v2)), .c (.at (.int .i64 v3)), dd, dd, dd, dd, dd, dd, dd, dd, dd, dd, dd, dd, dd, dd, dd, dd, dd, dd, dd, dd, dd, dd, dd, dd, dd, dd], [], 1⟩) (s_spec_FormatInt_l1) (fun K g => match g with | (v2, v3) => K (.exit 0) ⟨[.c (.at (.int .i64 a0)), dd, dd, .c (.at (.string v2)), .c (.at (.int .i64 v3)), dd, dd, dd, dd, .c (.at (.int .i64 v3)), .c (.at (.bool false)), dd, dd, dd, dd, dd, dd, dd, dd, dd, dd, dd, dd, dd, dd, dd, dd, dd, dd, dd, dd], [], 2⟩) ?_ ((ByteArray.mk (Array.mk [])), a0) _ (rfl)).trans (cL ?_)
  · rintro K1 hr1 ⟨v2, v3⟩ R1
    rw [s_spec_FormatInt_l1, ← hp]
    dsimp only
    conv => lhs; cbv
    refine cD (fun hb4 => ?_) fun hb4 => ?_
    · rw [hb4]
      conv => lhs; cbv
      try rfl
    rw [hb4]
    conv => lhs; cbv
    refine cC (fun hb5 => ?_) fun hb5 => ?_
    · rw [if_pos hb5]
      try rw [hb5]
      conv => lhs; cbv
      try rfl
    rw [if_neg (Bool.eq_false_iff.1 hb5)]
    try rw [hb5]
    conv => lhs; cbv
    refine cC (fun hb6 => ?_) fun hb6 => ?_
    · rw [hb6]
      conv => lhs; cbv
      rw [wy_byte]
      conv => lhs; cbv
      rw [← (show (m_byte [(p_byW (p_arith .add .i64 48 (p_arith .sub .i64 0 (p_arith .rem .i64 v3 10))))]) = [[DT.at (.int .u8 (p_yI (p_byW (p_arith .add .i64 48 (p_arith .sub .i64 0 (p_arith .rem .i64 v3 10))))))]] by rw [mcons_byte, nild_byte])]
      rw [str_byte]
      conv => lhs; cbv
      refine cD (fun hb7 => ?_) fun hb7 => ?_
      · rw [if_neg (Bool.eq_false_iff.1 hb7)]
        try rw [hb7]
        conv => lhs; cbv
        try rfl
      rw [if_pos hb7]
      try rw [hb7]
      conv => lhs; cbv
      rw [if_neg (Bool.eq_false_iff.1 hb5)]
      conv => lhs; cbv
      try rfl
    rw [hb6]
    conv => lhs; cbv
    rw [wy_byte]
    conv => lhs; cbv
    rw [← (show (m_byte [(p_byW (p_arith .add .i64 48 (p_arith .rem .i64 v3 10)))]) = [[DT.at (.int .u8 (p_yI (p_byW (p_arith .add .i64 48 (p_arith .rem .i64 v3 10)))))]] by rw [mcons_byte, nild_byte])]
    rw [str_byte]
    conv => lhs; cbv
    refine cD (fun hb8 => ?_) fun hb8 => ?_
    · rw [if_neg (Bool.eq_false_iff.1 hb8)]
      try rw [hb8]
      conv => lhs; cbv
      try rfl
    rw [if_pos hb8]
    try rw [hb8]
    conv => lhs; cbv
    rw [if_neg (Bool.eq_false_iff.1 hb5)]
    conv => lhs; cbv
    try rfl
  rintro ⟨w9, w10⟩
  conv => lhs; cbv
  refine cD (fun hb11 => ?_) fun hb11 => ?_
  · rw [hb11]
    conv => lhs; cbv
    try rfl
  rw [hb11]
  conv => lhs; cbv
  refine cC (fun hb12 => ?_) fun hb12 => ?_
  · rw [if_pos hb12]
    try rw [hb12]
    conv => lhs; cbv
    try rfl
  rw [if_neg (Bool.eq_false_iff.1 hb12)]
  try rw [hb12]
  conv => lhs; cbv
  try rfl
set_option maxHeartbeats 40000000 in
theorem e_s_spec_l1In (F : Fns) (a0 : Int) (a1 : Int) (a2 : Int) : EvF F Tryd.f57 (fun _ => []) [.v (.at (.int .i64 a0)), .v (.at (.int .i64 a1)), .v (.at (.int .i64 a2))] = (s_spec_l1In a0 a1 a2).bind fun r => some [.v (.at (.bool r))] := by
  unfold EvF
  obtain ⟨p, hp⟩ := gn prims
  rw [← hp]
  obtain ⟨_, p_cmp, _⟩ := p
  generalize hal : (fun (F : St → (Ex → St → Option (List Arg)) → Option (List Arg)) lv => aloop F lv fuel) = al
  rw [s_spec_l1In, ← hp]
  dsimp only
  conv => lhs; cbv
  refine cC (fun hb1 => ?_) fun hb1 => ?_
  · rw [hb1]
    conv => lhs; cbv
    try rfl
  rw [hb1]
  conv => lhs; cbv
  try rfl
set_option maxHeartbeats 40000000 in
theorem e_s_spec_ValidPart (F : Fns) (hF_s_spec_l1In : Has_s_spec_l1In F) (a0 : ByteArray) : EvF F Tryd.f89 (fun id => if id = 4 then [0, 3] else []) [.v (.at (.string a0))] = (s_spec_ValidPart a0).bind fun r => some [.v (.at (.bool r))] := by
  unfold EvF
  obtain ⟨p, hp⟩ := gn prims
  rw [← hp]
  obtain ⟨p_arith, p_cmp, p_wrap, _, _, _, p_ssize, p_sat, _, _, _, p_bnot, _⟩ := p
  simp only [Has_s_spec_l1In] at hF_s_spec_l1In
  generalize hal : (fun (F : St → (Ex → St → Option (List Arg)) → Option (List Arg)) lv => aloop F lv fuel) = al
  rw [s_spec_ValidPart, ← hp]
  dsimp only
  conv => lhs; cbv
  rw [hF_s_spec_l1In (p_ssize a0) 1 8]
  refine cO (fun hx2 => ?_) ?_
  · rw [hx2]; try rfl
  rintro r1 hx2
  rw [hx2]
  conv => lhs; cbv
  refine cC (fun hb3 => ?_) fun hb3 => ?_
  · rw [hb3]
    conv => lhs; cbv
    try rfl
  rw [hb3]
  conv => lhs; cbv
  refine (loop_al hal (fun v4 => ⟨[.c (.at (.string a0)), dd, dd, .c (.at (.int .i64 v4)), dd, dd, dd, dd, dd, dd, dd, dd, dd, dd, dd, dd, dd, dd, dd, dd, dd, dd, dd, dd, dd, dd, dd, dd, dd, dd, dd], [], 1⟩) (s_spec_ValidPart_l1 a0) (fun K g => match g with | .inl v4 => K (.exit 0) ⟨[.c (.at (.string a0)), dd, dd, .c (.at (.int .i64 v4)), dd, dd, dd, dd, dd, .c (.at (.int .i64 v4)), .c (.at (.string a0)), .c (.at (.int .i64 (p_ssize a0))), .c (.at (.bool false)), dd, dd, dd, dd, dd, dd, dd, dd, dd, dd, dd, dd, dd, dd, dd, dd, dd, dd], [], 2⟩ | .inr (r) => some [.v (.at (.bool r))]) ?_ 0 _ (rfl)).trans (cL ?_)
  · rintro K1 hr1 v4 R1
    rw [s_spec_ValidPart_l1, ← hp]
    dsimp only
    conv => lhs; cbv
    refine cD (fun hb5 => ?_) fun hb5 => ?_
    · rw [hb5]
      conv => lhs; cbv
      try rfl
    rw [hb5]
    conv => lhs; cbv
    refine cO (fun hx7 => ?_) ?_
    · rw [hx7]; try rfl
    rintro x6 hx7
    rw [hx7]
    conv => lhs; cbv
    rw [hF_s_spec_l1In (p_wrap .i64 x6) 97 122]
    refine cO (fun hx9 => ?_) ?_
    · rw [hx9]; try rfl
    rintro r8 hx9
    rw [hx9]
    conv => lhs; cbv
    refine cD (fun hb10 => ?_) fun hb10 => ?_
    · rw [hb10]
      conv => lhs; cbv
      try rfl
    rw [hb10]
    conv => lhs; cbv
    rw [hF_s_spec_l1In (p_wrap .i64 x6) 48 57]
    refine cO (fun hx12 => ?_) ?_
    · rw [hx12]; try rfl
    rintro r11 hx12
    rw [hx12]
    conv => lhs; cbv
    refine cD (fun hb13 => ?_) fun hb13 => ?_
    · rw [hb13]
      conv => lhs; cbv
      try rfl
    rw [hb13]
    conv => lhs; cbv
    refine cD (fun hb14 => ?_) fun hb14 => ?_
    · rw [hb14]
      conv => lhs; cbv
      try rfl
    rw [hb14]
    conv => lhs; cbv
    rw [hr1]
    conv => lhs; cbv
    try rfl
  rintro (w15 | w16)
  · conv => lhs; cbv
    try rfl
  rfl
set_option maxHeartbeats 40000000 in
theorem e_s_spec_ValidName (F : Fns) (hF_s_spec_ValidPart : Has_s_spec_ValidPart F) (a0 : (List ByteArray)) : EvF F Tryd.f74 (fun id => if id = 2 then [1, 3] else []) [.a [.sl 9 1 (List.map eS a0)]] = (s_spec_ValidName a0).bind fun r => some [.v (.at (.bool r))] := by
  unfold EvF
  obtain ⟨p, hp⟩ := gn prims
  obtain ⟨m_string, hm_string⟩ := gn (List.map eS)
  rw [← hp, ← hm_string]
  obtain ⟨p_arith, p_cmp, _, _, _, _, _, _, _, _, _, p_bnot, _, _, _, p_len, p_int, p_nth, _⟩ := p
  have nth_string := @nthF_string
  simp only [Has_s_spec_ValidPart, ← hp, ← hm_string] at nth_string hF_s_spec_ValidPart
  generalize hal : (fun (F : St → (Ex → St → Option (List Arg)) → Option (List Arg)) lv => aloop F lv fuel) = al
  rw [s_spec_ValidName, ← hp, ← hm_string]
  dsimp only
  conv => lhs; cbv
  refine (loop_al hal (fun v1 => ⟨[dd, .c (.ptr (0, 0, 0) 1 0 0), dd, .c (.at (.int .i64 v1)), dd, dd, dd, dd, dd, dd, dd, dd, dd, dd, dd, dd, dd, dd, dd, dd, dd, dd], [((0, 0, 0), ⟨false, true, 48, 1, [[.rd true 9 1 (m_string a0)]]⟩)], 1⟩) (s_spec_ValidName_l1 a0) (fun K g => match g with | .inl v1 => K (.exit 0) ⟨[dd, .c (.ptr (0, 0, 0) 1 0 0), dd, .c (.at (.int .i64 v1)), .c (.at (.int .i64 v1)), .c (.ptr (0, 0, 0) 1 0 0), .c (.rd true 9 1 (m_string a0)), .c (.at (.int .i64 (p_int (p_len (m_string a0))))), .c (.at (.bool false)), dd, dd, dd, dd, dd, dd, dd, dd, dd, dd, dd, dd, dd], [((0, 0, 0), ⟨false, true, 48, 1, [[.rd true 9 1 (m_string a0)]]⟩)], 2⟩ | .inr (r) => some [.v (.at (.bool r))]) ?_ 0 _ (rfl)).trans (cL ?_)
  · rintro K1 hr1 v1 R1
    rw [s_spec_ValidName_l1, ← hp, ← hm_string]
    dsimp only
    conv => lhs; cbv
    refine cD (fun hb2 => ?_) fun hb2 => ?_
    · rw [hb2]
      conv => lhs; cbv
      try rfl
    rw [hb2]
    conv => lhs; cbv
    rw [nth_string]
    refine cO (fun hx4 => ?_) ?_
    · rw [hx4]; try rfl
    rintro x3 hx4
    rw [hx4]
    conv => lhs; cbv
    rw [hF_s_spec_ValidPart x3]
    refine cO (fun hx6 => ?_) ?_
    · rw [hx6]; try rfl
    rintro r5 hx6
    rw [hx6]
    conv => lhs; cbv
    refine cD (fun hb7 => ?_) fun hb7 => ?_
    · rw [hb7]
      conv => lhs; cbv
      try rfl
    rw [hb7]
    conv => lhs; cbv
    rw [hr1]
    conv => lhs; cbv
    try rfl
  rintro (w8 | w9)
  · conv => lhs; cbv
    try rfl
  rfl
set_option maxHeartbeats 40000000 in
theorem e_s_spec_l4Copy (F : Fns) (a0 : (List ByteArray)) : EvF F Tryd.f59 (fun _ => []) [.a [.sl 9 1 (List.map eS a0)]] = (s_spec_l4Copy a0).bind fun r => some [.a [.sl 9 1 (List.map eS r)]] := by
  unfold EvF
  obtain ⟨p, hp⟩ := gn prims
  obtain ⟨m_string, hm_string⟩ := gn (List.map eS)
  rw [← hp, ← hm_string]
  obtain ⟨_, _, _, _, _, _, _, _, _, _, _, _, _, _, _, p_len, _, _, _, _, _, _, _, p_rapp, p_rlen, p_addN, p_full, p_fits, _, p_own, p_opn, p_lend, _⟩ := p
  have addn0_string := @addn0F_string
  have full_string := full_gen eS
  have lend_string := @lendF_string
  have own_string := own_gen eS (fun _ => rfl)
  have rapp0_string := @rapp0F_string
  simp only [← hp, ← hm_string] at addn0_string full_string lend_string own_string rapp0_string
  generalize hal : (fun (F : St → (Ex → St → Option (List Arg)) → Option (List Arg)) lv => aloop F lv fuel) = al
  rw [s_spec_l4Copy, ← hp, ← hm_string]
  dsimp only
  conv => lhs; cbv
  rw [lend_string]
  conv => lhs; cbv
  refine cD (fun hb1 => ?_) fun hb1 => ?_
  · rw [if_neg (fun x => Bool.noConfusion (hb1.symm.trans x.1))]; try rfl
  rw [if_pos ⟨hb1, trivial⟩]
  conv => lhs; cbv
  rw [rapp0_string, addn0_string]
  conv => lhs; cbv
  rw [if_pos (full_string _)]
  conv => lhs; cbv
  rw [own_string]
  conv => lhs; cbv
  try rfl
set_option maxHeartbeats 40000000 in
theorem e_s_spec_AppendPart (F : Fns) (hF_s_spec_ValidName : Has_s_spec_ValidName F) (hF_s_spec_l4Copy : Has_s_spec_l4Copy F) (a0 : (List ByteArray)) (a1 : ByteArray) : EvF F Tryd.f43 (fun _ => []) [.a [.sl 9 1 (List.map eS a0)], .v (.at (.string a1))] = (s_spec_AppendPart a0 a1).bind fun r => some [.a [.sl 9 1 (List.map eS r.1)], .v (.at (.bool r.2))] := by
  unfold EvF
  obtain ⟨p, hp⟩ := gn prims
  obtain ⟨m_string, hm_string⟩ := gn (List.map eS)
  rw [← hp, ← hm_string]
  obtain ⟨_, _, _, _, _, _, _, _, _, _, _, p_bnot, _, _, _, p_len, _, _, _, _, _, _, _, p_rapp, p_rlen, p_addN, p_full, p_fits, p_frz, p_own, p_opn, p_lend, _⟩ := p
  have addn_string := addn_gen eS
  have addn0_string := @addn0F_string
  have frz_string := frz_gen eS (fun _ => rfl)
  have full_string := full_gen eS
  have lend_string := @lendF_string
  have lit_string := @litF_string
  have own_string := own_gen eS (fun _ => rfl)
  have rapp_string := rapp_gen eS
  have rapp0_string := @rapp0F_string
  simp only [Has_s_spec_ValidName, Has_s_spec_l4Copy, ← hp, ← hm_string] at addn_string addn0_string frz_string full_string lend_string lit_string own_string rapp_string rapp0_string hF_s_spec_ValidName hF_s_spec_l4Copy
  generalize hal : (fun (F : St → (Ex → St → Option (List Arg)) → Option (List Arg)) lv => aloop F lv fuel) = al
  rw [s_spec_AppendPart, ← hp, ← hm_string]
  dsimp only
  conv => lhs; cbv
  rw [lend_string]
  conv => lhs; cbv
  refine cD (fun hb1 => ?_) fun hb1 => ?_
  · rw [if_neg (fun x => Bool.noConfusion (hb1.symm.trans x.1))]; try rfl
  rw [if_pos ⟨hb1, trivial⟩]
  conv => lhs; cbv
  rw [rapp0_string, addn0_string]
  conv => lhs; cbv
  rw [lit_string]
  refine cD (fun hb2 => ?_) fun hb2 => ?_
  · rw [if_neg (fun x => Bool.noConfusion (hb2.symm.trans x.2.1))]; try rfl
  rw [if_pos ⟨full_string _, hb2, trivial⟩]
  conv => lhs; cbv
  rw [rapp_string, addn_string]
  conv => lhs; cbv
  rw [frz_string]
  conv => lhs; cbv
  rw [hF_s_spec_ValidName (a0 ++ [a1])]
  refine cO (fun hx4 => ?_) ?_
  · rw [hx4]; try rfl
  rintro r3 hx4
  rw [hx4]
  conv => lhs; cbv
  refine cD (fun hb5 => ?_) fun hb5 => ?_
  · rw [hb5]
    conv => lhs; cbv
    rw [if_pos (full_string _)]
    conv => lhs; cbv
    rw [own_string]
    conv => lhs; cbv
    try rfl
  rw [hb5]
  conv => lhs; cbv
  rw [hF_s_spec_l4Copy a0]
  refine cO (fun hx7 => ?_) ?_
  · rw [hx7]; try rfl
  rintro r6 hx7
  rw [hx7]
  conv => lhs; cbv
  rw [if_pos (full_string _)]
  conv => lhs; cbv
  rw [own_string]
  conv => lhs; cbv
  try rfl
set_option maxHeartbeats 40000000 in
theorem e_s_spec_EpochName (F : Fns) (hF_s_spec_FormatInt : Has_s_spec_FormatInt F) (hF_s_spec_AppendPart : Has_s_spec_AppendPart F) (a0 : DAccessController) (a1 : (List ByteArray)) : EvF F Tryd.f16 (fun _ => []) [.a [.sl 112 2 (List.map eKey a0.keys), .at (.int .i64 a0.master), .at (.int .i64 a0.epoch), .sl 115 3 (List.map eReader a0.readers)], .a [.sl 9 1 (List.map eS a1)]] = (s_spec_EpochName a0 a1).bind fun r => some [.a [.sl 9 1 (List.map eS r.1)], .v (.at (.bool r.2))] := by
  unfold EvF
  obtain ⟨p, hp⟩ := gn prims
  obtain ⟨m_Key, hm_Key⟩ := gn (List.map eKey)
  obtain ⟨m_Reader, hm_Reader⟩ := gn (List.map eReader)
  obtain ⟨m_string, hm_string⟩ := gn (List.map eS)
  rw [← hp, ← hm_Key, ← hm_Reader, ← hm_string]
  obtain ⟨_, _, _, _, p_scat, p_catOk, _, _, _, _, _, _, _, _, _, p_len, _, _, _, _, _, _, _, _, _, _, p_full, _, _, p_own, p_opn, _⟩ := p
  have full_string := full_gen eS
  have own_string := own_gen eS (fun _ => rfl)
  simp only [Has_s_spec_FormatInt, Has_s_spec_AppendPart, ← hp, ← hm_string] at full_string own_string hF_s_spec_FormatInt hF_s_spec_AppendPart
  generalize hal : (fun (F : St → (Ex → St → Option (List Arg)) → Option (List Arg)) lv => aloop F lv fuel) = al
  rw [s_spec_EpochName, ← hp]
  dsimp only
  conv => lhs; cbv
  rw [hF_s_spec_FormatInt a0.epoch]
  refine cO (fun hx2 => ?_) ?_
  · rw [hx2]; try rfl
  rintro r1 hx2
  rw [hx2]
  conv => lhs; cbv
  refine cD (fun hb3 => ?_) fun hb3 => ?_
  · rw [if_neg (Bool.eq_false_iff.1 hb3)]
    try rw [hb3]
    conv => lhs; cbv
    try rfl
  rw [if_pos hb3]
  try rw [hb3]
  conv => lhs; cbv
  rw [hF_s_spec_AppendPart a1 (p_scat (ByteArray.mk (Array.mk [101])) r1)]
  refine cO (fun hx5 => ?_) ?_
  · rw [hx5]; try rfl
  rintro ⟨r4_0, r4_1⟩ hx5
  rw [hx5]
  conv => lhs; cbv
  rw [if_pos (full_string _)]
  conv => lhs; cbv
  rw [own_string]
  conv => lhs; cbv
  try rfl
set_option maxHeartbeats 40000000 in
theorem e_s_impl_FormatInt (F : Fns) (hF_s_strconv_Itoa : Has_s_strconv_Itoa F) (a0 : Int) : EvF F Tryd.f49 (fun _ => []) [.v (.at (.int .i64 a0))] = (s_impl_FormatInt a0).bind fun r => some [.v (.at (.string r))] := by
  unfold EvF
  obtain ⟨p, hp⟩ := gn prims
  rw [← hp]
  simp only [Has_s_strconv_Itoa] at hF_s_strconv_Itoa
  generalize hal : (fun (F : St → (Ex → St → Option (List Arg)) → Option (List Arg)) lv => aloop F lv fuel) = al
  rw [s_impl_FormatInt]
  conv => lhs; cbv
  rw [hF_s_strconv_Itoa a0]
  refine cO (fun hx2 => ?_) ?_
  · rw [hx2]; try rfl
  rintro r1 hx2
  rw [hx2]
  conv => lhs; cbv
  try rfl
set_option maxHeartbeats 40000000 in
theorem e_s_slices_Clone_string (F : Fns) (a0 : (List ByteArray)) : EvF F Tryd.f77 (fun _ => []) [.v (.sl 9 1 (List.map eS a0))] = (s_slices_Clone_string a0).bind fun r => some [.v (.sl 9 1 (List.map eS r))] := by
  unfold EvF
  obtain ⟨p, hp⟩ := gn prims
  obtain ⟨m_string, hm_string⟩ := gn (List.map eS)
  rw [← hp, ← hm_string]
  obtain ⟨_, _, _, _, _, _, _, _, _, _, _, _, _, _, _, p_len, _, _, _, _, _, _, _, p_rapp, p_rlen, p_addN, p_full, p_fits, _, p_own, p_opn, p_lend, _, _, p_both, _⟩ := p
  have h_both : @p_both = @Prims.both prims := congrArg (fun q : Prims => @Prims.both q) hp
  have addn0_string := @addn0F_string
  have fits0_string := @fits0F_string
  have full_string := full_gen eS
  have lend_string := @lendF_string
  have leni_string := @leniF_string
  have nild_string := @nildF_string
  have own_string := own_gen eS (fun _ => rfl)
  have rapp0_string := @rapp0F_string
  simp only [← hp, ← hm_string] at addn0_string fits0_string full_string lend_string nild_string own_string rapp0_string
  simp only [← hp, ← hm_string] at leni_string
  generalize hal : (fun (F : St → (Ex → St → Option (List Arg)) → Option (List Arg)) lv => aloop F lv fuel) = al
  rw [s_slices_Clone_string, ← hp, ← hm_string]
  dsimp only
  conv => lhs; cbv
  rw [h_both]
  refine bothO_eq ?_ (fun h0 => ?_)
  · conv => lhs; cbv
    rw [lend_string]
    conv => lhs; cbv
    refine cD (fun hb1 => ?_) fun hb1 => ?_
    · rw [if_neg (fun x => Bool.noConfusion (hb1.symm.trans x.1))]; try rfl
    rw [if_pos ⟨hb1, trivial⟩]
    conv => lhs; cbv
    rw [rapp0_string, addn0_string]
    conv => lhs; cbv
    rw [if_pos (full_string _)]
    conv => lhs; cbv
    rw [own_string]
    conv => lhs; cbv
    try rfl
  · obtain rfl := leni_string _ h0
    rw [fits0_string]
    simp only [cond_true, Option.bind_some, nild_string]
set_option maxHeartbeats 40000000 in
theorem e_s_impl_InRange (F : Fns) (a0 : Int) (a1 : Int) (a2 : Int) : EvF F Tryd.f61 (fun _ => []) [.v (.at (.int .i64 a0)), .v (.at (.int .i64 a1)), .v (.at (.int .i64 a2))] = (s_impl_InRange a0 a1 a2).bind fun r => some [.v (.at (.bool r))] := by
  unfold EvF
  obtain ⟨p, hp⟩ := gn prims
  rw [← hp]
  obtain ⟨_, p_cmp, _⟩ := p
  generalize hal : (fun (F : St → (Ex → St → Option (List Arg)) → Option (List Arg)) lv => aloop F lv fuel) = al
  rw [s_impl_InRange, ← hp]
  dsimp only
  conv => lhs; cbv
  refine cC (fun hb1 => ?_) fun hb1 => ?_
  · rw [hb1]
    conv => lhs; cbv
    try rfl
  rw [hb1]
  conv => lhs; cbv
  try rfl
set_option maxHeartbeats 40000000 in
theorem e_s_impl_ValidPart (F : Fns) (hF_s_impl_InRange : Has_s_impl_InRange F) (a0 : ByteArray) : EvF F Tryd.f92 (fun id => if id = 2 then [0, 6, 7] else []) [.v (.at (.string a0))] = (s_impl_ValidPart a0).bind fun r => some [.v (.at (.bool r))] := by
  unfold EvF
  obtain ⟨p, hp⟩ := gn prims
  rw [← hp]
  obtain ⟨p_arith, p_cmp, _, _, _, _, p_ssize, p_sat, _, _, _, p_bnot, _⟩ := p
  simp only [Has_s_impl_InRange] at hF_s_impl_InRange
  generalize hal : (fun (F : St → (Ex → St → Option (List Arg)) → Option (List Arg)) lv => aloop F lv fuel) = al
  rw [s_impl_ValidPart, ← hp]
  dsimp only
  conv => lhs; cbv
  refine (loop_al hal (fun v1 => ⟨[.c (.at (.string a0)), dd, dd, dd, dd, dd, .c (.at (.int .i64 (p_ssize a0))), .c (.at (.int .i64 v1)), dd, dd, dd, dd, dd, dd, dd, dd, dd, dd, dd, dd, dd, dd, dd, dd, dd, dd, dd, dd, dd, dd, dd, dd, dd, dd, dd, dd], [], 1⟩) (s_impl_ValidPart_l1 a0) (fun K g => match g with | .inl v1 => K (.exit 0) ⟨[.c (.at (.string a0)), dd, dd, dd, dd, dd, .c (.at (.int .i64 (p_ssize a0))), .c (.at (.int .i64 v1)), .c (.at (.bool false)), dd, dd, dd, dd, dd, dd, dd, dd, dd, dd, dd, dd, dd, dd, dd, dd, dd, dd, dd, dd, dd, dd, dd, dd, dd, dd, dd], [], 2⟩ | .inr (r) => some [.v (.at (.bool r))]) ?_ 0 _ (rfl)).trans (cL ?_)
  · rintro K1 hr1 v1 R1
    rw [s_impl_ValidPart_l1, ← hp]
    dsimp only
    conv => lhs; cbv
    refine cD (fun hb2 => ?_) fun hb2 => ?_
    · rw [hb2]
      conv => lhs; cbv
      try rfl
    rw [hb2]
    conv => lhs; cbv
    refine cO (fun hx4 => ?_) ?_
    · rw [hx4]; try rfl
    rintro x3 hx4
    rw [hx4]
    conv => lhs; cbv
    refine cD (fun hb5 => ?_) fun hb5 => ?_
    · rw [hb5]
      conv => lhs; cbv
      refine cD (fun hb13 => ?_) fun hb13 => ?_
      · rw [hb13]
        conv => lhs; cbv
        refine cD (fun hb17 => ?_) fun hb17 => ?_
        · rw [hb17]
          conv => lhs; cbv
          try rfl
        rw [hb17]
        conv => lhs; cbv
        rw [hr1]
        conv => lhs; cbv
        try rfl
      rw [hb13]
      conv => lhs; cbv
      refine cC (fun hb14 => ?_) fun hb14 => ?_
      · rw [hb14]
        conv => lhs; cbv
        refine cD (fun hb15 => ?_) fun hb15 => ?_
        · rw [hb15]
          conv => lhs; cbv
          try rfl
        rw [hb15]
        conv => lhs; cbv
        rw [hr1]
        conv => lhs; cbv
        try rfl
      rw [hb14]
      conv => lhs; cbv
      refine cD (fun hb16 => ?_) fun hb16 => ?_
      · rw [hb16]
        conv => lhs; cbv
        try rfl
      rw [hb16]
      conv => lhs; cbv
      rw [hr1]
      conv => lhs; cbv
      try rfl
    rw [hb5]
    conv => lhs; cbv
    refine cC (fun hb6 => ?_) fun hb6 => ?_
    · rw [hb6]
      conv => lhs; cbv
      refine cD (fun hb7 => ?_) fun hb7 => ?_
      · rw [hb7]
        conv => lhs; cbv
        try rfl
      rw [hb7]
      conv => lhs; cbv
      rw [hr1]
      conv => lhs; cbv
      try rfl
    rw [hb6]
    conv => lhs; cbv
    refine cD (fun hb8 => ?_) fun hb8 => ?_
    · rw [hb8]
      conv => lhs; cbv
      refine cD (fun hb12 => ?_) fun hb12 => ?_
      · rw [hb12]
        conv => lhs; cbv
        try rfl
      rw [hb12]
      conv => lhs; cbv
      rw [hr1]
      conv => lhs; cbv
      try rfl
    rw [hb8]
    conv => lhs; cbv
    refine cC (fun hb9 => ?_) fun hb9 => ?_
    · rw [hb9]
      conv => lhs; cbv
      refine cD (fun hb10 => ?_) fun hb10 => ?_
      · rw [hb10]
        conv => lhs; cbv
        try rfl
      rw [hb10]
      conv => lhs; cbv
      rw [hr1]
      conv => lhs; cbv
      try rfl
    rw [hb9]
    conv => lhs; cbv
    refine cD (fun hb11 => ?_) fun hb11 => ?_
    · rw [hb11]
      conv => lhs; cbv
      try rfl
    rw [hb11]
    conv => lhs; cbv
    rw [hr1]
    conv => lhs; cbv
    try rfl
  rintro (w18 | w21)
  · conv => lhs; cbv
    rw [hF_s_impl_InRange (p_ssize a0) 1 8]
    refine cO (fun hx20 => ?_) ?_
    · rw [hx20]; try rfl
    rintro r19 hx20
    rw [hx20]
    conv => lhs; cbv
    try rfl
  rfl
set_option maxHeartbeats 40000000 in
theorem e_s_impl_ValidName_1 (F : Fns) (hF_s_impl_ValidPart : Has_s_impl_ValidPart F) (a0 : ByteArray) : EvF F Tryd.f91 (fun _ => []) [.v (.at (.string a0))] = (s_impl_ValidName_1 a0).bind fun r => some [.v (.at (.bool r))] := by
  unfold EvF
  obtain ⟨p, hp⟩ := gn prims
  rw [← hp]
  obtain ⟨_, _, _, _, _, _, _, _, _, _, _, p_bnot, _⟩ := p
  simp only [Has_s_impl_ValidPart] at hF_s_impl_ValidPart
  generalize hal : (fun (F : St → (Ex → St → Option (List Arg)) → Option (List Arg)) lv => aloop F lv fuel) = al
  rw [s_impl_ValidName_1, ← hp]
  dsimp only
  conv => lhs; cbv
  rw [hF_s_impl_ValidPart a0]
  refine cO (fun hx2 => ?_) ?_
  · rw [hx2]; try rfl
  rintro r1 hx2
  rw [hx2]
  conv => lhs; cbv
  try rfl
set_option maxHeartbeats 40000000 in
theorem e_s_slices_IndexFunc_string__ValidName_1 (F : Fns) (hF_s_impl_ValidName_1 : Has_s_impl_ValidName_1 F) (a0 : (List ByteArray)) : EvF F Tryd.f97 (fun id => if id = 2 then [0, 1, 7, 8] else []) [.v (.sl 9 1 (List.map eS a0)), .v (.fn 91 [])] = (s_slices_IndexFunc_string__ValidName_1 a0).bind fun r => some [.v (.at (.int .i64 r))] := by
  unfold EvF
  obtain ⟨p, hp⟩ := gn prims
  obtain ⟨m_string, hm_string⟩ := gn (List.map eS)
  rw [← hp, ← hm_string]
  obtain ⟨p_arith, p_cmp, _, _, _, _, _, _, _, _, _, _, _, _, _, p_len, p_int, p_nth, _⟩ := p
  have nth_string := @nthF_string
  simp only [Has_s_impl_ValidName_1, ← hp, ← hm_string] at nth_string hF_s_impl_ValidName_1
  generalize hal : (fun (F : St → (Ex → St → Option (List Arg)) → Option (List Arg)) lv => aloop F lv fuel) = al
  rw [s_slices_IndexFunc_string__ValidName_1]
  conv => lhs; cbv
  refine (loop_al hal (fun v1 => ⟨[.c (.rd true 9 1 (m_string a0)), .c (.fn 91 []), dd, dd, dd, dd, dd, .c (.at (.int .i64 (p_int (p_len (m_string a0))))), .c (.at (.int .i64 v1)), dd, dd, dd, dd, dd, dd, dd, dd, dd, dd], [], 1⟩) (s_slices_IndexFunc_string__ValidName_1_l1 a0) (fun K g => match g with | .inl v1 => K (.exit 0) ⟨[.c (.rd true 9 1 (m_string a0)), .c (.fn 91 []), dd, dd, dd, dd, dd, .c (.at (.int .i64 (p_int (p_len (m_string a0))))), .c (.at (.int .i64 v1)), .c (.at (.bool false)), dd, dd, dd, dd, dd, dd, dd, dd, dd], [], 2⟩ | .inr (r) => some [.v (.at (.int .i64 r))]) ?_ 0 _ (rfl)).trans (cL ?_)
  · rintro K1 hr1 v1 R1
    rw [s_slices_IndexFunc_string__ValidName_1_l1, ← hp, ← hm_string]
    dsimp only
    conv => lhs; cbv
    refine cD (fun hb2 => ?_) fun hb2 => ?_
    · rw [hb2]
      conv => lhs; cbv
      try rfl
    rw [hb2]
    conv => lhs; cbv
    rw [nth_string]
    refine cO (fun hx4 => ?_) ?_
    · rw [hx4]; try rfl
    rintro x3 hx4
    rw [hx4]
    conv => lhs; cbv
    rw [hF_s_impl_ValidName_1 x3]
    refine cO (fun hx6 => ?_) ?_
    · rw [hx6]; try rfl
    rintro r5 hx6
    rw [hx6]
    conv => lhs; cbv
    refine cD (fun hb7 => ?_) fun hb7 => ?_
    · rw [hb7]
      conv => lhs; cbv
      try rfl
    rw [hb7]
    conv => lhs; cbv
    rw [hr1]
    conv => lhs; cbv
    try rfl
  rintro (w8 | w9)
  · conv => lhs; cbv
    try rfl
  rfl
set_option maxHeartbeats 40000000 in
theorem e_s_slices_ContainsFunc_string__ValidName_1 (F : Fns) (hF_s_slices_IndexFunc_string__ValidName_1 : Has_s_slices_IndexFunc_string__ValidName_1 F) (a0 : (List ByteArray)) : EvF F Tryd.f90 (fun _ => []) [.v (.sl 9 1 (List.map eS a0)), .v (.fn 91 [])] = (s_slices_ContainsFunc_string__ValidName_1 a0).bind fun r => some [.v (.at (.bool r))] := by
  unfold EvF
  obtain ⟨p, hp⟩ := gn prims
  obtain ⟨m_string, hm_string⟩ := gn (List.map eS)
  rw [← hp, ← hm_string]
  obtain ⟨_, p_cmp, _⟩ := p
  simp only [Has_s_slices_IndexFunc_string__ValidName_1, ← hm_string] at hF_s_slices_IndexFunc_string__ValidName_1
  generalize hal : (fun (F : St → (Ex → St → Option (List Arg)) → Option (List Arg)) lv => aloop F lv fuel) = al
  rw [s_slices_ContainsFunc_string__ValidName_1, ← hp]
  dsimp only
  conv => lhs; cbv
  rw [hF_s_slices_IndexFunc_string__ValidName_1 a0]
  refine cO (fun hx2 => ?_) ?_
  · rw [hx2]; try rfl
  rintro r1 hx2
  rw [hx2]
  conv => lhs; cbv
  try rfl
set_option maxHeartbeats 40000000 in
theorem e_s_impl_ValidName (F : Fns) (hF_s_slices_ContainsFunc_string__ValidName_1 : Has_s_slices_ContainsFunc_string__ValidName_1 F) (a0 : (List ByteArray)) : EvF F Tryd.f78 (fun _ => []) [.a [.sl 9 1 (List.map eS a0)]] = (s_impl_ValidName a0).bind fun r => some [.v (.at (.bool r))] := by
  unfold EvF
  obtain ⟨p, hp⟩ := gn prims
  obtain ⟨m_string, hm_string⟩ := gn (List.map eS)
  rw [← hp, ← hm_string]
  obtain ⟨_, p_cmp, _, _, _, _, _, _, _, _, _, p_bnot, _, _, _, p_len, p_int, _⟩ := p
  simp only [Has_s_slices_ContainsFunc_string__ValidName_1, ← hm_string] at hF_s_slices_ContainsFunc_string__ValidName_1
  generalize hal : (fun (F : St → (Ex → St → Option (List Arg)) → Option (List Arg)) lv => aloop F lv fuel) = al
  rw [s_impl_ValidName, ← hp, ← hm_string]
  dsimp only
  conv => lhs; cbv
  refine cD (fun hb1 => ?_) fun hb1 => ?_
  · rw [hb1]
    conv => lhs; cbv
    try rfl
  rw [hb1]
  conv => lhs; cbv
  rw [hF_s_slices_ContainsFunc_string__ValidName_1 a0]
  refine cO (fun hx3 => ?_) ?_
  · rw [hx3]; try rfl
  rintro r2 hx3
  rw [hx3]
  conv => lhs; cbv
  try rfl
set_option maxHeartbeats 40000000 in
theorem e_s_impl_copyName (F : Fns) (hF_s_slices_Clone_string : Has_s_slices_Clone_string F) (a0 : (List ByteArray)) : EvF F Tryd.f64 (fun _ => []) [.a [.sl 9 1 (List.map eS a0)]] = (s_impl_copyName a0).bind fun r => some [.a [.sl 9 1 (List.map eS r)]] := by
  unfold EvF
  obtain ⟨p, hp⟩ := gn prims
  obtain ⟨m_string, hm_string⟩ := gn (List.map eS)
  rw [← hp, ← hm_string]
  obtain ⟨_, _, _, _, _, _, _, _, _, _, _, _, _, _, _, p_len, _, _, _, _, _, _, _, _, _, _, p_full, _, _, p_own, p_opn, _⟩ := p
  have full_string := full_gen eS
  have own_string := own_gen eS (fun _ => rfl)
  simp only [Has_s_slices_Clone_string, ← hp, ← hm_string] at full_string own_string hF_s_slices_Clone_string
  generalize hal : (fun (F : St → (Ex → St → Option (List Arg)) → Option (List Arg)) lv => aloop F lv fuel) = al
  rw [s_impl_copyName]
  conv => lhs; cbv
  rw [hF_s_slices_Clone_string a0]
  refine cO (fun hx2 => ?_) ?_
  · rw [hx2]; try rfl
  rintro r1 hx2
  rw [hx2]
  conv => lhs; cbv
  rw [if_pos (full_string _)]
  conv => lhs; cbv
  rw [own_string]
  conv => lhs; cbv
  try rfl
set_option maxHeartbeats 40000000 in
theorem e_s_impl_AppendPart (F : Fns) (hF_s_slices_Clone_string : Has_s_slices_Clone_string F) (hF_s_impl_ValidName : Has_s_impl_ValidName F) (hF_s_impl_copyName : Has_s_impl_copyName F) (a0 : (List ByteArray)) (a1 : ByteArray) : EvF F Tryd.f48 (fun _ => []) [.a [.sl 9 1 (List.map eS a0)], .v (.at (.string a1))] = (s_impl_AppendPart a0 a1).bind fun r => some [.a [.sl 9 1 (List.map eS r.1)], .v (.at (.bool r.2))] := by
  unfold EvF
  obtain ⟨p, hp⟩ := gn prims
  obtain ⟨m_string, hm_string⟩ := gn (List.map eS)
  rw [← hp, ← hm_string]
  obtain ⟨_, _, _, _, _, _, _, _, _, _, _, p_bnot, _, _, _, p_len, _, _, _, _, _, _, _, p_rapp, p_rlen, p_addN, p_full, p_fits, p_frz, p_own, p_opn, _⟩ := p
  have addn_string := addn_gen eS
  have frz_string := frz_gen eS (fun _ => rfl)
  have full_string := full_gen eS
  have lit_string := @litF_string
  have own_string := own_gen eS (fun _ => rfl)
  have rapp_string := rapp_gen eS
  simp only [Has_s_slices_Clone_string, Has_s_impl_ValidName, Has_s_impl_copyName, ← hp, ← hm_string] at addn_string frz_string full_string lit_string own_string rapp_string hF_s_slices_Clone_string hF_s_impl_ValidName hF_s_impl_copyName
  generalize hal : (fun (F : St → (Ex → St → Option (List Arg)) → Option (List Arg)) lv => aloop F lv fuel) = al
  rw [s_impl_AppendPart, ← hp, ← hm_string]
  dsimp only
  conv => lhs; cbv
  rw [hF_s_slices_Clone_string a0]
  refine cO (fun hx2 => ?_) ?_
  · rw [hx2]; try rfl
  rintro r1 hx2
  rw [hx2]
  conv => lhs; cbv
  rw [lit_string]
  refine cD (fun hb3 => ?_) fun hb3 => ?_
  · rw [if_neg (fun x => Bool.noConfusion (hb3.symm.trans x.2.1))]; try rfl
  rw [if_pos ⟨full_string _, hb3, trivial⟩]
  conv => lhs; cbv
  rw [rapp_string, addn_string]
  conv => lhs; cbv
  rw [frz_string]
  conv => lhs; cbv
  rw [hF_s_impl_ValidName (r1 ++ [a1])]
  refine cO (fun hx5 => ?_) ?_
  · rw [hx5]; try rfl
  rintro r4 hx5
  rw [hx5]
  conv => lhs; cbv
  refine cD (fun hb6 => ?_) fun hb6 => ?_
  · rw [hb6]
    conv => lhs; cbv
    rw [if_pos (full_string _)]
    conv => lhs; cbv
    rw [own_string]
    conv => lhs; cbv
    try rfl
  rw [hb6]
  conv => lhs; cbv
  rw [hF_s_impl_copyName a0]
  refine cO (fun hx8 => ?_) ?_
  · rw [hx8]; try rfl
  rintro r7 hx8
  rw [hx8]
  conv => lhs; cbv
  rw [if_pos (full_string _)]
  conv => lhs; cbv
  rw [own_string]
  conv => lhs; cbv
  try rfl
set_option maxHeartbeats 40000000 in
theorem e_s_impl_EpochName (F : Fns) (hF_s_impl_FormatInt : Has_s_impl_FormatInt F) (hF_s_impl_AppendPart : Has_s_impl_AppendPart F) (a0 : DAccessController) (a1 : (List ByteArray)) : EvF F Tryd.f19 (fun _ => []) [.a [.sl 112 2 (List.map eKey a0.keys), .at (.int .i64 a0.master), .at (.int .i64 a0.epoch), .sl 115 3 (List.map eReader a0.readers)], .a [.sl 9 1 (List.map eS a1)]] = (s_impl_EpochName a0 a1).bind fun r => some [.a [.sl 9 1 (List.map eS r.1)], .v (.at (.bool r.2))] := by
  unfold EvF
  obtain ⟨p, hp⟩ := gn prims
  obtain ⟨m_Key, hm_Key⟩ := gn (List.map eKey)
  obtain ⟨m_Reader, hm_Reader⟩ := gn (List.map eReader)
  obtain ⟨m_string, hm_string⟩ := gn (List.map eS)
  rw [← hp, ← hm_Key, ← hm_Reader, ← hm_string]
  obtain ⟨_, _, _, _, p_scat, p_catOk, _, _, _, _, _, _, _, _, _, p_len, _, _, _, _, _, _, _, _, _, _, p_full, _, _, p_own, p_opn, _⟩ := p
  have full_string := full_gen eS
  have own_string := own_gen eS (fun _ => rfl)
  simp only [Has_s_impl_FormatInt, Has_s_impl_AppendPart, ← hp, ← hm_string] at full_string own_string hF_s_impl_FormatInt hF_s_impl_AppendPart
  generalize hal : (fun (F : St → (Ex → St → Option (List Arg)) → Option (List Arg)) lv => aloop F lv fuel) = al
  rw [s_impl_EpochName, ← hp]
  dsimp only
  conv => lhs; cbv
  rw [hF_s_impl_FormatInt a0.epoch]
  refine cO (fun hx2 => ?_) ?_
  · rw [hx2]; try rfl
  rintro r1 hx2
  rw [hx2]
  conv => lhs; cbv
  refine cD (fun hb3 => ?_) fun hb3 => ?_
  · rw [if_neg (Bool.eq_false_iff.1 hb3)]
    try rw [hb3]
    conv => lhs; cbv
    try rfl
  rw [if_pos hb3]
  try rw [hb3]
  conv => lhs; cbv
  rw [hF_s_impl_AppendPart a1 (p_scat (ByteArray.mk (Array.mk [101])) r1)]
  refine cO (fun hx5 => ?_) ?_
  · rw [hx5]; try rfl
  rintro ⟨r4_0, r4_1⟩ hx5
  rw [hx5]
  conv => lhs; cbv
  rw [if_pos (full_string _)]
  conv => lhs; cbv
  rw [own_string]
  conv => lhs; cbv
  try rfl
set_option maxHeartbeats 40000000 in
theorem e_s_laws_eqStringS (F : Fns) (a0 : (List ByteArray)) (a1 : (List ByteArray)) : EvF F Tryd.f50 (fun id => if id = 4 then [0, 1, 5] else []) [.v (.sl 9 1 (List.map eS a0)), .v (.sl 9 1 (List.map eS a1))] = (s_laws_eqStringS a0 a1).bind fun r => some [.v (.at (.bool r))] := by
  unfold EvF
  obtain ⟨p, hp⟩ := gn prims
  obtain ⟨m_string, hm_string⟩ := gn (List.map eS)
  rw [← hp, ← hm_string]
  obtain ⟨p_arith, p_cmp, _, p_scmp, _, _, _, _, _, _, _, _, _, _, _, p_len, p_int, p_nth, _⟩ := p
  have nth_string := @nthF_string
  simp only [← hp, ← hm_string] at nth_string
  generalize hal : (fun (F : St → (Ex → St → Option (List Arg)) → Option (List Arg)) lv => aloop F lv fuel) = al
  rw [s_laws_eqStringS, ← hp, ← hm_string]
  dsimp only
  conv => lhs; cbv
  refine cC (fun hb1 => ?_) fun hb1 => ?_
  · rw [hb1]
    conv => lhs; cbv
    try rfl
  rw [hb1]
  conv => lhs; cbv
  refine (loop_al hal (fun v2 => ⟨[.c (.rd true 9 1 (m_string a0)), .c (.rd true 9 1 (m_string a1)), dd, dd, dd, .c (.at (.int .i64 v2)), dd, dd, dd, dd, dd, dd, dd, dd, dd, dd, dd, dd, dd, dd, dd, dd, dd, dd, dd, dd], [], 1⟩) (s_laws_eqStringS_l1 a0 a1) (fun K g => match g with | .inl v2 => K (.exit 0) ⟨[.c (.rd true 9 1 (m_string a0)), .c (.rd true 9 1 (m_string a1)), dd, dd, dd, .c (.at (.int .i64 v2)), dd, dd, dd, dd, dd, .c (.at (.int .i64 v2)), .c (.rd true 9 1 (m_string a0)), .c (.at (.int .i64 (p_int (p_len (m_string a0))))), .c (.at (.bool false)), dd, dd, dd, dd, dd, dd, dd, dd, dd, dd, dd], [], 2⟩ | .inr (r) => some [.v (.at (.bool r))]) ?_ 0 _ (rfl)).trans (cL ?_)
  · rintro K1 hr1 v2 R1
    rw [s_laws_eqStringS_l1, ← hp, ← hm_string]
    dsimp only
    conv => lhs; cbv
    refine cD (fun hb3 => ?_) fun hb3 => ?_
    · rw [hb3]
      conv => lhs; cbv
      try rfl
    rw [hb3]
    conv => lhs; cbv
    rw [nth_string]
    refine cO (fun hx5 => ?_) ?_
    · rw [hx5]; try rfl
    rintro x4 hx5
    rw [hx5]
    conv => lhs; cbv
    rw [nth_string]
    refine cO (fun hx7 => ?_) ?_
    · rw [hx7]; try rfl
    rintro x6 hx7
    rw [hx7]
    conv => lhs; cbv
    refine cD (fun hb8 => ?_) fun hb8 => ?_
    · rw [hb8]
      conv => lhs; cbv
      try rfl
    rw [hb8]
    conv => lhs; cbv
    rw [hr1]
    conv => lhs; cbv
    try rfl
  rintro (w9 | w10)
  · conv => lhs; cbv
    try rfl
  rfl
set_option maxHeartbeats 40000000 in
theorem e_s_laws_eqName (F : Fns) (hF_s_laws_eqStringS : Has_s_laws_eqStringS F) (a0 : (List ByteArray)) (a1 : (List ByteArray)) : EvF F Tryd.f20 (fun _ => []) [.a [.sl 9 1 (List.map eS a0)], .a [.sl 9 1 (List.map eS a1)]] = (s_laws_eqName a0 a1).bind fun r => some [.v (.at (.bool r))] := by
  unfold EvF
  obtain ⟨p, hp⟩ := gn prims
  obtain ⟨m_string, hm_string⟩ := gn (List.map eS)
  rw [← hp, ← hm_string]
  obtain ⟨_, _, _, _, _, _, _, _, _, _, _, p_bnot, _⟩ := p
  simp only [Has_s_laws_eqStringS, ← hm_string] at hF_s_laws_eqStringS
  generalize hal : (fun (F : St → (Ex → St → Option (List Arg)) → Option (List Arg)) lv => aloop F lv fuel) = al
  rw [s_laws_eqName, ← hp]
  dsimp only
  conv => lhs; cbv
  rw [hF_s_laws_eqStringS a0 a1]
  refine cO (fun hx2 => ?_) ?_
  · rw [hx2]; try rfl
  rintro r1 hx2
  rw [hx2]
  conv => lhs; cbv
  refine cC (fun hb3 => ?_) fun hb3 => ?_
  · rw [hb3]
    conv => lhs; cbv
    try rfl
  rw [hb3]
  conv => lhs; cbv
  try rfl
set_option maxHeartbeats 40000000 in
theorem e_s_laws_eqKey (F : Fns) (hF_s_laws_eqName : Has_s_laws_eqName F) (a0 : DKey) (a1 : DKey) : EvF F Tryd.f80 (fun _ => []) [.a [.sl 9 1 (List.map eS a0.name), .at (.int .i64 a0.secret)], .a [.sl 9 1 (List.map eS a1.name), .at (.int .i64 a1.secret)]] = (s_laws_eqKey a0 a1).bind fun r => some [.v (.at (.bool r))] := by
  unfold EvF
  obtain ⟨p, hp⟩ := gn prims
  obtain ⟨m_string, hm_string⟩ := gn (List.map eS)
  rw [← hp, ← hm_string]
  obtain ⟨_, p_cmp, _, _, _, _, _, _, _, _, _, p_bnot, _⟩ := p
  simp only [Has_s_laws_eqName, ← hm_string] at hF_s_laws_eqName
  generalize hal : (fun (F : St → (Ex → St → Option (List Arg)) → Option (List Arg)) lv => aloop F lv fuel) = al
  rw [s_laws_eqKey, ← hp]
  dsimp only
  conv => lhs; cbv
  rw [hF_s_laws_eqName a0.name a1.name]
  refine cO (fun hx2 => ?_) ?_
  · rw [hx2]; try rfl
  rintro r1 hx2
  rw [hx2]
  conv => lhs; cbv
  refine cC (fun hb3 => ?_) fun hb3 => ?_
  · rw [hb3]
    conv => lhs; cbv
    try rfl
  rw [hb3]
  conv => lhs; cbv
  refine cC (fun hb4 => ?_) fun hb4 => ?_
  · rw [hb4]
    conv => lhs; cbv
    try rfl
  rw [hb4]
  conv => lhs; cbv
  try rfl
set_option maxHeartbeats 40000000 in
theorem e_s_laws_eqKeyS (F : Fns) (hF_s_laws_eqKey : Has_s_laws_eqKey F) (a0 : (List DKey)) (a1 : (List DKey)) : EvF F Tryd.f51 (fun id => if id = 4 then [0, 1, 5] else []) [.v (.sl 112 2 (List.map eKey a0)), .v (.sl 112 2 (List.map eKey a1))] = (s_laws_eqKeyS a0 a1).bind fun r => some [.v (.at (.bool r))] := by
  unfold EvF
  obtain ⟨p, hp⟩ := gn prims
  obtain ⟨m_Key, hm_Key⟩ := gn (List.map eKey)
  obtain ⟨m_string, hm_string⟩ := gn (List.map eS)
  rw [← hp, ← hm_Key]
  obtain ⟨p_arith, p_cmp, _, _, _, _, _, _, _, _, _, p_bnot, _, _, _, p_len, p_int, p_nth, _⟩ := p
  have nth_Key := @nthF_Key
  simp only [Has_s_laws_eqKey, ← hp, ← hm_Key, ← hm_string] at nth_Key hF_s_laws_eqKey
  generalize hal : (fun (F : St → (Ex → St → Option (List Arg)) → Option (List Arg)) lv => aloop F lv fuel) = al
  rw [s_laws_eqKeyS, ← hp, ← hm_Key]
  dsimp only
  conv => lhs; cbv
  refine cC (fun hb1 => ?_) fun hb1 => ?_
  · rw [hb1]
    conv => lhs; cbv
    try rfl
  rw [hb1]
  conv => lhs; cbv
  refine (loop_al hal (fun v2 => ⟨[.c (.rd true 112 2 (m_Key a0)), .c (.rd true 112 2 (m_Key a1)), dd, dd, dd, .c (.at (.int .i64 v2)), dd, dd, dd, dd, dd, dd, dd, dd, dd, dd, dd, dd, dd, dd, dd, dd, dd, dd, dd, dd, dd], [], 1⟩) (s_laws_eqKeyS_l1 a0 a1) (fun K g => match g with | .inl v2 => K (.exit 0) ⟨[.c (.rd true 112 2 (m_Key a0)), .c (.rd true 112 2 (m_Key a1)), dd, dd, dd, .c (.at (.int .i64 v2)), dd, dd, dd, dd, dd, .c (.at (.int .i64 v2)), .c (.rd true 112 2 (m_Key a0)), .c (.at (.int .i64 (p_int (p_len (m_Key a0))))), .c (.at (.bool false)), dd, dd, dd, dd, dd, dd, dd, dd, dd, dd, dd, dd], [], 2⟩ | .inr (r) => some [.v (.at (.bool r))]) ?_ 0 _ (rfl)).trans (cL ?_)
  · rintro K1 hr1 v2 R1
    rw [s_laws_eqKeyS_l1, ← hp, ← hm_Key]
    dsimp only
    conv => lhs; cbv
    refine cD (fun hb3 => ?_) fun hb3 => ?_
    · rw [hb3]
      conv => lhs; cbv
      try rfl
    rw [hb3]
    conv => lhs; cbv
    rw [nth_Key]
    refine cO (fun hx5 => ?_) ?_
    · rw [hx5]; try rfl
    rintro x4 hx5
    rw [hx5]
    conv => lhs; cbv
    rw [nth_Key]
    refine cO (fun hx7 => ?_) ?_
    · rw [hx7]; try rfl
    rintro x6 hx7
    rw [hx7]
    conv => lhs; cbv
    rw [hF_s_laws_eqKey x4 x6]
    refine cO (fun hx9 => ?_) ?_
    · rw [hx9]; try rfl
    rintro r8 hx9
    rw [hx9]
    conv => lhs; cbv
    refine cD (fun hb10 => ?_) fun hb10 => ?_
    · rw [hb10]
      conv => lhs; cbv
      try rfl
    rw [hb10]
    conv => lhs; cbv
    rw [hr1]
    conv => lhs; cbv
    try rfl
  rintro (w11 | w12)
  · conv => lhs; cbv
    try rfl
  rfl
set_option maxHeartbeats 40000000 in
theorem e_s_laws_eqReader (F : Fns) (hF_s_laws_eqName : Has_s_laws_eqName F) (a0 : DReader) (a1 : DReader) : EvF F Tryd.f81 (fun _ => []) [.a [.at (.int .i64 a0.node), .sl 9 1 (List.map eS a0.name), .at (.int .i64 a0.epoch)], .a [.at (.int .i64 a1.node), .sl 9 1 (List.map eS a1.name), .at (.int .i64 a1.epoch)]] = (s_laws_eqReader a0 a1).bind fun r => some [.v (.at (.bool r))] := by
  unfold EvF
  obtain ⟨p, hp⟩ := gn prims
  obtain ⟨m_string, hm_string⟩ := gn (List.map eS)
  rw [← hp, ← hm_string]
  obtain ⟨_, p_cmp, _, _, _, _, _, _, _, _, _, p_bnot, _⟩ := p
  simp only [Has_s_laws_eqName, ← hm_string] at hF_s_laws_eqName
  generalize hal : (fun (F : St → (Ex → St → Option (List Arg)) → Option (List Arg)) lv => aloop F lv fuel) = al
  rw [s_laws_eqReader, ← hp]
  dsimp only
  conv => lhs; cbv
  refine cC (fun hb1 => ?_) fun hb1 => ?_
  · rw [hb1]
    conv => lhs; cbv
    try rfl
  rw [hb1]
  conv => lhs; cbv
  rw [hF_s_laws_eqName a0.name a1.name]
  refine cO (fun hx3 => ?_) ?_
  · rw [hx3]; try rfl
  rintro r2 hx3
  rw [hx3]
  conv => lhs; cbv
  refine cC (fun hb4 => ?_) fun hb4 => ?_
  · rw [hb4]
    conv => lhs; cbv
    try rfl
  rw [hb4]
  conv => lhs; cbv
  refine cC (fun hb5 => ?_) fun hb5 => ?_
  · rw [hb5]
    conv => lhs; cbv
    try rfl
  rw [hb5]
  conv => lhs; cbv
  try rfl
set_option maxHeartbeats 40000000 in
theorem e_s_laws_eqReaderS (F : Fns) (hF_s_laws_eqReader : Has_s_laws_eqReader F) (a0 : (List DReader)) (a1 : (List DReader)) : EvF F Tryd.f52 (fun id => if id = 4 then [0, 1, 5] else []) [.v (.sl 115 3 (List.map eReader a0)), .v (.sl 115 3 (List.map eReader a1))] = (s_laws_eqReaderS a0 a1).bind fun r => some [.v (.at (.bool r))] := by
  unfold EvF
  obtain ⟨p, hp⟩ := gn prims
  obtain ⟨m_Reader, hm_Reader⟩ := gn (List.map eReader)
  obtain ⟨m_string, hm_string⟩ := gn (List.map eS)
  rw [← hp, ← hm_Reader]
  obtain ⟨p_arith, p_cmp, _, _, _, _, _, _, _, _, _, p_bnot, _, _, _, p_len, p_int, p_nth, _⟩ := p
  have nth_Reader := @nthF_Reader
  simp only [Has_s_laws_eqReader, ← hp, ← hm_Reader, ← hm_string] at nth_Reader hF_s_laws_eqReader
  generalize hal : (fun (F : St → (Ex → St → Option (List Arg)) → Option (List Arg)) lv => aloop F lv fuel) = al
  rw [s_laws_eqReaderS, ← hp, ← hm_Reader]
  dsimp only
  conv => lhs; cbv
  refine cC (fun hb1 => ?_) fun hb1 => ?_
  · rw [hb1]
    conv => lhs; cbv
    try rfl
  rw [hb1]
  conv => lhs; cbv
  refine (loop_al hal (fun v2 => ⟨[.c (.rd true 115 3 (m_Reader a0)), .c (.rd true 115 3 (m_Reader a1)), dd, dd, dd, .c (.at (.int .i64 v2)), dd, dd, dd, dd, dd, dd, dd, dd, dd, dd, dd, dd, dd, dd, dd, dd, dd, dd, dd, dd, dd], [], 1⟩) (s_laws_eqReaderS_l1 a0 a1) (fun K g => match g with | .inl v2 => K (.exit 0) ⟨[.c (.rd true 115 3 (m_Reader a0)), .c (.rd true 115 3 (m_Reader a1)), dd, dd, dd, .c (.at (.int .i64 v2)), dd, dd, dd, dd, dd, .c (.at (.int .i64 v2)), .c (.rd true 115 3 (m_Reader a0)), .c (.at (.int .i64 (p_int (p_len (m_Reader a0))))), .c (.at (.bool false)), dd, dd, dd, dd, dd, dd, dd, dd, dd, dd, dd, dd], [], 2⟩ | .inr (r) => some [.v (.at (.bool r))]) ?_ 0 _ (rfl)).trans (cL ?_)
  · rintro K1 hr1 v2 R1
    rw [s_laws_eqReaderS_l1, ← hp, ← hm_Reader]
    dsimp only
    conv => lhs; cbv
    refine cD (fun hb3 => ?_) fun hb3 => ?_
    · rw [hb3]
      conv => lhs; cbv
      try rfl
    rw [hb3]
    conv => lhs; cbv
    rw [nth_Reader]
    refine cO (fun hx5 => ?_) ?_
    · rw [hx5]; try rfl
    rintro x4 hx5
    rw [hx5]
    conv => lhs; cbv
    rw [nth_Reader]
    refine cO (fun hx7 => ?_) ?_
    · rw [hx7]; try rfl
    rintro x6 hx7
    rw [hx7]
    conv => lhs; cbv
    rw [hF_s_laws_eqReader x4 x6]
    refine cO (fun hx9 => ?_) ?_
    · rw [hx9]; try rfl
    rintro r8 hx9
    rw [hx9]
    conv => lhs; cbv
    refine cD (fun hb10 => ?_) fun hb10 => ?_
    · rw [hb10]
      conv => lhs; cbv
      try rfl
    rw [hb10]
    conv => lhs; cbv
    rw [hr1]
    conv => lhs; cbv
    try rfl
  rintro (w11 | w12)
  · conv => lhs; cbv
    try rfl
  rfl
set_option maxHeartbeats 40000000 in
theorem e_s_laws_eqAccessController (F : Fns) (hF_s_laws_eqKeyS : Has_s_laws_eqKeyS F) (hF_s_laws_eqReaderS : Has_s_laws_eqReaderS F) (a0 : DAccessController) (a1 : DAccessController) : EvF F Tryd.f21 (fun _ => []) [.a [.sl 112 2 (List.map eKey a0.keys), .at (.int .i64 a0.master), .at (.int .i64 a0.epoch), .sl 115 3 (List.map eReader a0.readers)], .a [.sl 112 2 (List.map eKey a1.keys), .at (.int .i64 a1.master), .at (.int .i64 a1.epoch), .sl 115 3 (List.map eReader a1.readers)]] = (s_laws_eqAccessController a0 a1).bind fun r => some [.v (.at (.bool r))] := by
  unfold EvF
  obtain ⟨p, hp⟩ := gn prims
  obtain ⟨m_Key, hm_Key⟩ := gn (List.map eKey)
  obtain ⟨m_Reader, hm_Reader⟩ := gn (List.map eReader)
  rw [← hp, ← hm_Key, ← hm_Reader]
  obtain ⟨_, p_cmp, _, _, _, _, _, _, _, _, _, p_bnot, _⟩ := p
  simp only [Has_s_laws_eqKeyS, Has_s_laws_eqReaderS, ← hm_Key, ← hm_Reader] at hF_s_laws_eqKeyS hF_s_laws_eqReaderS
  generalize hal : (fun (F : St → (Ex → St → Option (List Arg)) → Option (List Arg)) lv => aloop F lv fuel) = al
  rw [s_laws_eqAccessController, ← hp]
  dsimp only
  conv => lhs; cbv
  rw [hF_s_laws_eqKeyS a0.keys a1.keys]
  refine cO (fun hx2 => ?_) ?_
  · rw [hx2]; try rfl
  rintro r1 hx2
  rw [hx2]
  conv => lhs; cbv
  refine cC (fun hb3 => ?_) fun hb3 => ?_
  · rw [hb3]
    conv => lhs; cbv
    try rfl
  rw [hb3]
  conv => lhs; cbv
  refine cC (fun hb4 => ?_) fun hb4 => ?_
  · rw [hb4]
    conv => lhs; cbv
    try rfl
  rw [hb4]
  conv => lhs; cbv
  refine cC (fun hb5 => ?_) fun hb5 => ?_
  · rw [hb5]
    conv => lhs; cbv
    try rfl
  rw [hb5]
  conv => lhs; cbv
  rw [hF_s_laws_eqReaderS a0.readers a1.readers]
  refine cO (fun hx7 => ?_) ?_
  · rw [hx7]; try rfl
  rintro r6 hx7
  rw [hx7]
  conv => lhs; cbv
  refine cC (fun hb8 => ?_) fun hb8 => ?_
  · rw [hb8]
    conv => lhs; cbv
    try rfl
  rw [hb8]
  conv => lhs; cbv
  try rfl
set_option maxHeartbeats 40000000 in
theorem e_s_laws_markText (F : Fns) (a0 : Int) : EvF F Tryd.f82 (fun id => if id = 4 then [0, 3] else []) [.v (.at (.int .i64 a0))] = (s_laws_markText a0).bind fun r => some [.v (.at (.string r))] := by
  unfold EvF
  obtain ⟨p, hp⟩ := gn prims
  obtain ⟨m_byte, hm_byte⟩ := gn (List.map eY)
  rw [← hp]
  obtain ⟨p_arith, p_cmp, p_wrap, _, p_scat, p_catOk, _, _, _, _, p_str, _, _, _, _, _, _, _, _, _, _, _, _, _, _, _, _, _, _, _, _, _, _, _, _, p_yI, p_ofB, p_byW, _⟩ := p
  have mcons_byte := @mconsF_byte
  have nild_byte := @nildF_byte
  have str_byte := @strF_byte
  have wy_byte := @wyF_byte
  simp only [← hp, ← hm_byte] at mcons_byte nild_byte str_byte wy_byte
  generalize hal : (fun (F : St → (Ex → St → Option (List Arg)) → Option (List Arg)) lv => aloop F lv fuel) = al
  rw [s_laws_markText, ← hp]
  dsimp only
  conv => lhs; cbv
  refine cC (fun hb1 => ?_) fun hb1 => ?_
  · rw [hb1]
    conv => lhs; cbv
    try rfl
  rw [hb1]
  conv => lhs; cbv
  refine (loop_al hal (fun x => match x with | (v2, v3) => ⟨[.c (.at (.int .i64 v2)), dd, dd, .c (.at (.string v3)), dd, dd, dd, dd, dd, dd, dd, dd, dd, dd, dd, dd, dd, dd, dd, dd], [], 1⟩) (s_laws_markText_l1) (fun K g => match g with | (v2, v3) => K (.exit 0) ⟨[.c (.at (.int .i64 v2)), dd, dd, .c (.at (.string v3)), dd, dd, .c (.at (.int .i64 v2)), .c (.at (.bool false)), dd, dd, dd, dd, dd, dd, dd, dd, dd, dd, dd, dd], [], 2⟩) ?_ (a0, (ByteArray.mk (Array.mk []))) _ (rfl)).trans (cL ?_)
  · rintro K1 hr1 ⟨v2, v3⟩ R1
    rw [s_laws_markText_l1, ← hp]
    dsimp only
    conv => lhs; cbv
    refine cD (fun hb4 => ?_) fun hb4 => ?_
    · rw [hb4]
      conv => lhs; cbv
      try rfl
    rw [hb4]
    conv => lhs; cbv
    refine cC (fun hb5 => ?_) fun hb5 => ?_
    · rw [if_pos hb5]
      try rw [hb5]
      conv => lhs; cbv
      try rfl
    rw [if_neg (Bool.eq_false_iff.1 hb5)]
    try rw [hb5]
    conv => lhs; cbv
    rw [wy_byte]
    conv => lhs; cbv
    rw [← (show (m_byte [(p_byW (p_arith .add .i64 48 (p_arith .rem .i64 v2 10)))]) = [[DT.at (.int .u8 (p_yI (p_byW (p_arith .add .i64 48 (p_arith .rem .i64 v2 10)))))]] by rw [mcons_byte, nild_byte])]
    rw [str_byte]
    conv => lhs; cbv
    refine cD (fun hb6 => ?_) fun hb6 => ?_
    · rw [if_neg (Bool.eq_false_iff.1 hb6)]
      try rw [hb6]
      conv => lhs; cbv
      try rfl
    rw [if_pos hb6]
    try rw [hb6]
    conv => lhs; cbv
    rw [if_neg (Bool.eq_false_iff.1 hb5)]
    conv => lhs; cbv
    try rfl
  rintro ⟨w7, w8⟩
  conv => lhs; cbv
  refine cC (fun hb9 => ?_) fun hb9 => ?_
  · rw [if_pos hb9]
    try rw [hb9]
    conv => lhs; cbv
    try rfl
  rw [if_neg (Bool.eq_false_iff.1 hb9)]
  try rw [hb9]
  conv => lhs; cbv
  try rfl
set_option maxHeartbeats 40000000 in
theorem e_s_laws_heldStringS (F : Fns) (hF_s_laws_markText : Has_s_laws_markText F) (a0 : (List ByteArray)) (a1 : Int) : EvF F Tryd.f56 (fun id => if id = 2 then [0, 1, 5] else []) [.v (.sl 9 1 (List.map eS a0)), .v (.at (.int .i64 a1))] = (s_laws_heldStringS a0 a1).bind fun r => some [.v (.at (.int .i64 r))] := by
  unfold EvF
  obtain ⟨p, hp⟩ := gn prims
  obtain ⟨m_string, hm_string⟩ := gn (List.map eS)
  rw [← hp, ← hm_string]
  obtain ⟨p_arith, p_cmp, _, p_scmp, _, _, _, _, _, _, _, _, _, _, _, p_len, p_int, p_nth, _⟩ := p
  have nth_string := @nthF_string
  simp only [Has_s_laws_markText, ← hp, ← hm_string] at nth_string hF_s_laws_markText
  generalize hal : (fun (F : St → (Ex → St → Option (List Arg)) → Option (List Arg)) lv => aloop F lv fuel) = al
  rw [s_laws_heldStringS]
  conv => lhs; cbv
  refine (loop_al hal (fun x => match x with | (v1, v2) => ⟨[.c (.rd true 9 1 (m_string a0)), .c (.at (.int .i64 v1)), dd, dd, dd, .c (.at (.int .i64 v2)), dd, dd, dd, dd, dd, dd, dd, dd, dd, dd, dd, dd, dd, dd, dd, dd], [], 1⟩) (s_laws_heldStringS_l1 a0) (fun K g => match g with | .inl (v1, v2) => K (.exit 0) ⟨[.c (.rd true 9 1 (m_string a0)), .c (.at (.int .i64 v1)), dd, dd, dd, .c (.at (.int .i64 v2)), .c (.at (.int .i64 v2)), .c (.rd true 9 1 (m_string a0)), .c (.at (.int .i64 (p_int (p_len (m_string a0))))), .c (.at (.bool false)), dd, dd, dd, dd, dd, dd, dd, dd, dd, dd, dd, dd], [], 2⟩ | .inr (r) => some [.v (.at (.int .i64 r))]) ?_ (a1, 0) _ (rfl)).trans (cL ?_)
  · rintro K1 hr1 ⟨v1, v2⟩ R1
    rw [s_laws_heldStringS_l1, ← hp, ← hm_string]
    dsimp only
    conv => lhs; cbv
    refine cD (fun hb3 => ?_) fun hb3 => ?_
    · rw [hb3]
      conv => lhs; cbv
      try rfl
    rw [hb3]
    conv => lhs; cbv
    rw [nth_string]
    refine cO (fun hx5 => ?_) ?_
    · rw [hx5]; try rfl
    rintro x4 hx5
    rw [hx5]
    conv => lhs; cbv
    rw [hF_s_laws_markText v1]
    refine cO (fun hx7 => ?_) ?_
    · rw [hx7]; try rfl
    rintro r6 hx7
    rw [hx7]
    conv => lhs; cbv
    refine cD (fun hb8 => ?_) fun hb8 => ?_
    · rw [hb8]
      conv => lhs; cbv
      try rfl
    rw [hb8]
    conv => lhs; cbv
    rw [hr1]
    conv => lhs; cbv
    try rfl
  rintro (⟨w9, w10⟩ | w11)
  · conv => lhs; cbv
    try rfl
  rfl
set_option maxHeartbeats 40000000 in
theorem e_s_laws_heldName (F : Fns) (hF_s_laws_heldStringS : Has_s_laws_heldStringS F) (a0 : (List ByteArray)) (a1 : Int) : EvF F Tryd.f24 (fun _ => []) [.a [.sl 9 1 (List.map eS a0)], .v (.at (.int .i64 a1))] = (s_laws_heldName a0 a1).bind fun r => some [.v (.at (.int .i64 r))] := by
  unfold EvF
  obtain ⟨p, hp⟩ := gn prims
  obtain ⟨m_string, hm_string⟩ := gn (List.map eS)
  rw [← hp, ← hm_string]
  obtain ⟨_, p_cmp, _⟩ := p
  simp only [Has_s_laws_heldStringS, ← hm_string] at hF_s_laws_heldStringS
  generalize hal : (fun (F : St → (Ex → St → Option (List Arg)) → Option (List Arg)) lv => aloop F lv fuel) = al
  rw [s_laws_heldName, ← hp]
  dsimp only
  conv => lhs; cbv
  rw [hF_s_laws_heldStringS a0 a1]
  refine cO (fun hx2 => ?_) ?_
  · rw [hx2]; try rfl
  rintro r1 hx2
  rw [hx2]
  conv => lhs; cbv
  refine cC (fun hb3 => ?_) fun hb3 => ?_
  · rw [hb3]
    conv => lhs; cbv
    try rfl
  rw [hb3]
  conv => lhs; cbv
  try rfl
set_option maxHeartbeats 40000000 in
theorem e_s_laws_FnExactEpochName (F : Fns) (hF_s_laws_szAccessController : Has_s_laws_szAccessController F) (hF_s_laws_szName : Has_s_laws_szName F) (hF_s_laws_toAccessController : Has_s_laws_toAccessController F) (hF_s_laws_toName : Has_s_laws_toName F) (hF_s_spec_EpochName : Has_s_spec_EpochName F) (hF_s_impl_EpochName : Has_s_impl_EpochName F) (hF_s_laws_eqName : Has_s_laws_eqName F) (hF_s_laws_eqAccessController : Has_s_laws_eqAccessController F) (hF_s_laws_markAccessController : Has_s_laws_markAccessController F) (hF_s_laws_markName : Has_s_laws_markName F) (hF_s_laws_heldName : Has_s_laws_heldName F) (a0 : DAccessController) (a1 : (List ByteArray)) : EvF F Tryd.f4 (fun _ => []) [.a [.sl 112 2 (List.map eKey a0.keys), .at (.int .i64 a0.master), .at (.int .i64 a0.epoch), .sl 115 3 (List.map eReader a0.readers)], .a [.sl 9 1 (List.map eS a1)]] = (s_laws_FnExactEpochName a0 a1).bind fun r => some [.v (.at (.bool r))] := by
  unfold EvF
  obtain ⟨p, hp⟩ := gn prims
  obtain ⟨m_Key, hm_Key⟩ := gn (List.map eKey)
  obtain ⟨m_Reader, hm_Reader⟩ := gn (List.map eReader)
  obtain ⟨m_string, hm_string⟩ := gn (List.map eS)
  rw [← hp, ← hm_Key, ← hm_Reader, ← hm_string]
  obtain ⟨_, p_cmp, _, _, _, _, _, _, _, _, _, p_bnot, p_beq, _, _, p_len, _, _, _, _, _, _, _, _, _, _, p_full, _, p_frz, p_own, p_opn, _⟩ := p
  have frz_Key := frz_gen eKey (fun _ => rfl)
  have frz_Reader := frz_gen eReader (fun _ => rfl)
  have frz_string := frz_gen eS (fun _ => rfl)
  have full_Key := full_gen eKey
  have full_Reader := full_gen eReader
  have full_string := full_gen eS
  have own_Key := own_gen eKey (fun _ => rfl)
  have own_Reader := own_gen eReader (fun _ => rfl)
  have own_string := own_gen eS (fun _ => rfl)
  have lm_s_laws_markAccessController_0 := @l_s_laws_markAccessController_0
  have lm_s_laws_markAccessController_1 := @l_s_laws_markAccessController_1
  have lm_s_laws_markName_0 := @l_s_laws_markName_0
  simp only [Has_s_laws_szAccessController, Has_s_laws_szName, Has_s_laws_toAccessController, Has_s_laws_toName, Has_s_spec_EpochName, Has_s_impl_EpochName, Has_s_laws_eqName, Has_s_laws_eqAccessController, Has_s_laws_markAccessController, Has_s_laws_markName, Has_s_laws_heldName, ← hp, ← hm_Key, ← hm_Reader, ← hm_string] at frz_Key frz_Reader frz_string full_Key full_Reader full_string own_Key own_Reader own_string lm_s_laws_markAccessController_0 lm_s_laws_markAccessController_1 lm_s_laws_markName_0 hF_s_laws_szAccessController hF_s_laws_szName hF_s_laws_toAccessController hF_s_laws_toName hF_s_spec_EpochName hF_s_impl_EpochName hF_s_laws_eqName hF_s_laws_eqAccessController hF_s_laws_markAccessController hF_s_laws_markName hF_s_laws_heldName
  generalize hal : (fun (F : St → (Ex → St → Option (List Arg)) → Option (List Arg)) lv => aloop F lv fuel) = al
  rw [s_laws_FnExactEpochName, ← hp]
  dsimp only
  conv => lhs; cbv
  rw [hF_s_laws_szAccessController a0 1048576]
  refine cO (fun hx2 => ?_) ?_
  · rw [hx2]; try rfl
  rintro r1 hx2
  rw [hx2]
  conv => lhs; cbv
  refine cC (fun hb3 => ?_) fun hb3 => ?_
  · rw [hb3]
    conv => lhs; cbv
    try rfl
  rw [hb3]
  conv => lhs; cbv
  rw [hF_s_laws_szName a1 r1]
  refine cO (fun hx5 => ?_) ?_
  · rw [hx5]; try rfl
  rintro r4 hx5
  rw [hx5]
  conv => lhs; cbv
  refine cC (fun hb6 => ?_) fun hb6 => ?_
  · rw [hb6]
    conv => lhs; cbv
    try rfl
  rw [hb6]
  conv => lhs; cbv
  rw [hF_s_laws_toAccessController a0]
  refine cO (fun hx8 => ?_) ?_
  · rw [hx8]; try rfl
  rintro r7 hx8
  rw [hx8]
  conv => lhs; cbv
  rw [hF_s_laws_toName a1]
  refine cO (fun hx10 => ?_) ?_
  · rw [hx10]; try rfl
  rintro r9 hx10
  rw [hx10]
  conv => lhs; cbv
  rw [frz_Key]
  conv => lhs; cbv
  rw [frz_Reader]
  conv => lhs; cbv
  rw [frz_string]
  conv => lhs; cbv
  rw [hF_s_spec_EpochName r7 r9]
  refine cO (fun hx12 => ?_) ?_
  · rw [hx12]; try rfl
  rintro ⟨r11_0, r11_1⟩ hx12
  rw [hx12]
  conv => lhs; cbv
  rw [hF_s_laws_toAccessController a0]
  rw [hx8]
  conv => lhs; cbv
  rw [hF_s_laws_toName a1]
  rw [hx10]
  conv => lhs; cbv
  rw [frz_Key]
  conv => lhs; cbv
  rw [frz_Reader]
  conv => lhs; cbv
  rw [frz_string]
  conv => lhs; cbv
  rw [hF_s_impl_EpochName r7 r9]
  refine cO (fun hx16 => ?_) ?_
  · rw [hx16]; try rfl
  rintro ⟨r15_0, r15_1⟩ hx16
  rw [hx16]
  conv => lhs; cbv
  rw [frz_string]
  conv => lhs; cbv
  rw [frz_string]
  conv => lhs; cbv
  rw [hF_s_laws_eqName r15_0 r11_0]
  refine cO (fun hx18 => ?_) ?_
  · rw [hx18]; try rfl
  rintro r17 hx18
  rw [hx18]
  conv => lhs; cbv
  refine cC (fun hb19 => ?_) fun hb19 => ?_
  · rw [hb19]
    conv => lhs; cbv
    try rfl
  rw [hb19]
  conv => lhs; cbv
  refine cC (fun hb20 => ?_) fun hb20 => ?_
  · rw [hb20]
    conv => lhs; cbv
    try rfl
  rw [hb20]
  conv => lhs; cbv
  rw [hF_s_laws_toAccessController a0]
  rw [hx8]
  conv => lhs; cbv
  rw [frz_Key]
  conv => lhs; cbv
  rw [frz_Reader]
  conv => lhs; cbv
  rw [frz_Key]
  conv => lhs; cbv
  rw [frz_Reader]
  conv => lhs; cbv
  rw [hF_s_laws_eqAccessController r7 r7]
  refine cO (fun hx23 => ?_) ?_
  · rw [hx23]; try rfl
  rintro r22 hx23
  rw [hx23]
  conv => lhs; cbv
  refine cC (fun hb24 => ?_) fun hb24 => ?_
  · rw [hb24]
    conv => lhs; cbv
    try rfl
  rw [hb24]
  conv => lhs; cbv
  rw [hF_s_laws_toName a1]
  rw [hx10]
  conv => lhs; cbv
  rw [frz_string]
  conv => lhs; cbv
  rw [frz_string]
  conv => lhs; cbv
  rw [hF_s_laws_eqName r9 r9]
  refine cO (fun hx27 => ?_) ?_
  · rw [hx27]; try rfl
  rintro r26 hx27
  rw [hx27]
  conv => lhs; cbv
  refine cC (fun hb28 => ?_) fun hb28 => ?_
  · rw [hb28]
    conv => lhs; cbv
    try rfl
  rw [hb28]
  conv => lhs; cbv
  rw [if_pos (full_Key _)]
  conv => lhs; cbv
  rw [own_Key]
  conv => lhs; cbv
  rw [if_pos (full_Reader _)]
  conv => lhs; cbv
  rw [own_Reader]
  conv => lhs; cbv
  have hc := hF_s_laws_markAccessController r7 1
  try dsimp only at hc
  rw [hc]
  clear hc
  refine cO (fun hx30 => ?_) ?_
  · rw [hx30]; try rfl
  rintro ⟨r29_0, r29_1⟩ hx30
  rw [hx30]
  conv => lhs; cbv
  repeat (first | rw [own_Key] | rw [own_Reader] | rw [own_string])
  try conv => lhs; cbv
  conv => lhs; cbv
  try conv => lhs; rw [← lm_s_laws_markAccessController_0 _ _ _ hx30]
  try conv => lhs; rw [← lm_s_laws_markAccessController_1 _ _ _ hx30]
  conv => lhs; cbv
  rw [if_pos (full_string _)]
  conv => lhs; cbv
  rw [own_string]
  conv => lhs; cbv
  have hc := hF_s_laws_markName r9 r29_1
  try dsimp only at hc
  rw [hc]
  clear hc
  refine cO (fun hx32 => ?_) ?_
  · rw [hx32]; try rfl
  rintro ⟨r31_0, r31_1⟩ hx32
  rw [hx32]
  conv => lhs; cbv
  repeat (first | rw [own_Key] | rw [own_Reader] | rw [own_string])
  try conv => lhs; cbv
  conv => lhs; cbv
  try conv => lhs; rw [← lm_s_laws_markName_0 _ _ _ hx32]
  conv => lhs; cbv
  refine cC (fun hb33 => ?_) fun hb33 => ?_
  · rw [hb33]
    conv => lhs; cbv
    try rfl
  rw [hb33]
  conv => lhs; cbv
  rw [frz_string]
  conv => lhs; cbv
  rw [frz_string]
  conv => lhs; cbv
  rw [hF_s_laws_eqName r15_0 r11_0]
  rw [hx18]
  conv => lhs; cbv
  try rw [hb19]
  conv => lhs; cbv
  try rw [hb19]
  conv => lhs; cbv
  try rw [hb19]
  conv => lhs; cbv
  try rw [hb19]
  conv => lhs; cbv
  try rw [hb20]
  conv => lhs; cbv
  rw [if_pos (full_string _)]
  conv => lhs; cbv
  rw [own_string]
  conv => lhs; cbv
  have hc := hF_s_laws_markName r15_0 1
  try dsimp only at hc
  rw [hc]
  clear hc
  refine cO (fun hx36 => ?_) ?_
  · rw [hx36]; try rfl
  rintro ⟨r35_0, r35_1⟩ hx36
  rw [hx36]
  conv => lhs; cbv
  repeat (first | rw [own_Key] | rw [own_Reader] | rw [own_string])
  try conv => lhs; cbv
  conv => lhs; cbv
  try conv => lhs; rw [← lm_s_laws_markName_0 _ _ _ hx36]
  conv => lhs; cbv
  rw [frz_string]
  conv => lhs; cbv
  rw [hF_s_laws_heldName r35_0 1]
  refine cO (fun hx38 => ?_) ?_
  · rw [hx38]; try rfl
  rintro r37 hx38
  rw [hx38]
  conv => lhs; cbv
  refine cC (fun hb39 => ?_) fun hb39 => ?_
  · rw [hb39]
    conv => lhs; cbv
    try rfl
  rw [hb39]
  conv => lhs; cbv
  refine cC (fun hb40 => ?_) fun hb40 => ?_
  · rw [hb40]
    conv => lhs; cbv
    try rfl
  rw [hb40]
  conv => lhs; cbv
  rw [hF_s_laws_toAccessController a0]
  rw [hx8]
  conv => lhs; cbv
  rw [hF_s_laws_toName a1]
  rw [hx10]
  conv => lhs; cbv
  rw [frz_Key]
  conv => lhs; cbv
  rw [frz_Reader]
  conv => lhs; cbv
  rw [frz_string]
  conv => lhs; cbv
  rw [hF_s_impl_EpochName r7 r9]
  rw [hx16]
  conv => lhs; cbv
  rw [frz_string]
  conv => lhs; cbv
  rw [frz_string]
  conv => lhs; cbv
  rw [hF_s_laws_eqName r15_0 r11_0]
  rw [hx18]
  conv => lhs; cbv
  try rw [hb19]
  conv => lhs; cbv
  try rw [hb19]
  conv => lhs; cbv
  try rw [hb19]
  conv => lhs; cbv
  try rw [hb19]
  conv => lhs; cbv
  try rw [hb20]
  conv => lhs; cbv
  rw [frz_string]
  conv => lhs; cbv
  rw [hF_s_laws_heldName r35_0 1]
  rw [hx38]
  conv => lhs; cbv
  try rw [hb39]
  conv => lhs; cbv
  try rw [hb40]
  conv => lhs; cbv
  try rfl
end
end Go.Proofs.YtfianjolmcoadaaDoor
