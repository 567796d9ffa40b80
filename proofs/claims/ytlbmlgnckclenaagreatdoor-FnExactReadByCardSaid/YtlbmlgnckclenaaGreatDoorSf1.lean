/- The code computes these plain functions. Printed by genshal.py. -/
import Derived.Test.YtlbmlgnckclenaaGreatDoorSd
namespace Go.Proofs.YtlbmlgnckclenaaGreatDoor
open Go.RowKit
set_option linter.unusedVariables false
set_option linter.unusedSimpArgs false
set_option maxRecDepth 100000
noncomputable section
set_option maxHeartbeats 40000000

theorem e_s_laws_szStringS (F : Fns) : Hs_s_laws_szStringS (EvF F Tryz.f46 (fun id => if id = 5 then [0, 1, 5] else [])) := by
  intro a0 a1
  unfold EvF
  obtain ⟨p, hp⟩ := gn prims
  obtain ⟨m_string, hm_string⟩ := gn (List.map eS)
  rw [← hp, ← hm_string]
  obtain ⟨p_arith, p_cmp, _, _, _, _, p_ssize, _, _, _, _, _, _, _, _, p_len, p_int, p_nth, _⟩ := p
  have nth_string := @nthF_string
  simp only [← hp, ← hm_string] at nth_string
  generalize hal : alp = al
  rw [s_laws_szStringS, ← hp, ← hm_string]
  dsimp only
  conv => lhs; cbv
  refine cC (fun hb1 => ?_) fun hb1 => ?_
  · rw [hb1]
    conv => lhs; cbv
    try rfl
  rw [hb1]
  conv => lhs; cbv
  refine (loop_al hal (fun x => match x with | (v2, v3) => ⟨[.c (.rd true 9 1 (m_string a0)), .c (.at (.int .i64 v2)), dd, dd, dd, .c (.at (.int .i64 v3)), dd, dd, dd, dd, dd, dd, dd, dd, dd, dd, dd, dd, dd, dd, dd, dd, dd, dd, dd, dd, dd, dd], [], 1⟩) (s_laws_szStringS_l1 a0) (fun K g => match g with | .inl (v2, v3) => K (.exit 0) ⟨[.c (.rd true 9 1 (m_string a0)), .c (.at (.int .i64 v2)), dd, dd, dd, .c (.at (.int .i64 v3)), dd, dd, dd, dd, dd, dd, .c (.at (.int .i64 v3)), .c (.rd true 9 1 (m_string a0)), .c (.at (.int .i64 (p_int (p_len (m_string a0))))), .c (.at (.bool false)), dd, dd, dd, dd, dd, dd, dd, dd, dd, dd, dd, dd], [], 2⟩ | .inr (r) => some [.v (.at (.int .i64 r))]) ?_ (p_arith .sub .i64 a1 (p_int (p_len (m_string a0))), 0) _ (rfl)).trans (cL ?_)
  · rintro K1 hr1 ⟨v2, v3⟩ R1
    rw [s_laws_szStringS_l1, ← hp, ← hm_string]
    dsimp only
    conv => lhs; cbv
    refine cD (fun hb4 => ?_) fun hb4 => ?_
    · rw [hb4]
      conv => lhs; cbv
      try rfl
    rw [hb4]
    conv => lhs; cbv
    rw [nth_string]
    refine cO (fun hx6 => ?_) ?_
    · rw [hx6]; try rfl
    rintro x5 hx6
    rw [hx6]
    conv => lhs; cbv
    refine cD (fun hb7 => ?_) fun hb7 => ?_
    · rw [hb7]
      conv => lhs; cbv
      try rfl
    rw [hb7]
    conv => lhs; cbv
    rw [hr1]
    conv => lhs; cbv
    try rfl
  rintro (⟨w8, w9⟩ | w10)
  · conv => lhs; cbv
    try rfl
  rfl
theorem e_s_laws_szName (F : Fns) (f_laws_szStringS : Hs_s_laws_szStringS (F 46)) : Hs_s_laws_szName (EvF F Tryz.f19 (fun _ => [])) := by
  intro a0 a1
  unfold EvF
  obtain ⟨p, hp⟩ := gn prims
  obtain ⟨m_string, hm_string⟩ := gn (List.map eS)
  rw [← hp, ← hm_string]
  obtain ⟨_, p_cmp, _⟩ := p
  simp only [Hs_s_laws_szStringS, ← hm_string] at f_laws_szStringS
  rw [s_laws_szName, ← hp]
  dsimp only
  conv => lhs; cbv
  rw [f_laws_szStringS a0 a1]
  refine cO (fun hx2 => ?_) ?_
  · rw [hx2]; try rfl
  rintro r1 hx2
  rw [hx2]
  conv => lhs; cbv
  refine cC (fun hb3 => ?_) fun hb3 => ?_
  · rw [hb3]
    conv => lhs; cbv
    try rfl
  rw [hb3]
  conv => lhs; cbv
  try rfl
theorem e_s_laws_szKey (F : Fns) (f_laws_szName : Hs_s_laws_szName (F 19)) : Hs_s_laws_szKey (EvF F Tryz.f44 (fun _ => [])) := by
  intro a0 a1
  unfold EvF
  obtain ⟨p, hp⟩ := gn prims
  obtain ⟨m_string, hm_string⟩ := gn (List.map eS)
  rw [← hp, ← hm_string]
  obtain ⟨_, p_cmp, _⟩ := p
  simp only [Hs_s_laws_szName, ← hm_string] at f_laws_szName
  rw [s_laws_szKey, ← hp]
  dsimp only
  conv => lhs; cbv
  rw [f_laws_szName a0.name a1]
  refine cO (fun hx2 => ?_) ?_
  · rw [hx2]; try rfl
  rintro r1 hx2
  rw [hx2]
  conv => lhs; cbv
  refine cC (fun hb3 => ?_) fun hb3 => ?_
  · rw [hb3]
    conv => lhs; cbv
    try rfl
  rw [hb3]
  conv => lhs; cbv
  try rfl
theorem e_s_laws_szKeyS (F : Fns) (f_laws_szKey : Hs_s_laws_szKey (F 44)) : Hs_s_laws_szKeyS (EvF F Tryz.f17 (fun id => if id = 5 then [0, 1, 5] else [])) := by
  intro a0 a1
  unfold EvF
  obtain ⟨p, hp⟩ := gn prims
  obtain ⟨m_Key, hm_Key⟩ := gn (List.map eKey)
  obtain ⟨m_string, hm_string⟩ := gn (List.map eS)
  rw [← hp, ← hm_Key]
  obtain ⟨p_arith, p_cmp, _, _, _, _, _, _, _, _, _, _, _, _, _, p_len, p_int, p_nth, _⟩ := p
  have nth_Key := @nthF_Key
  simp only [Hs_s_laws_szKey, ← hp, ← hm_Key, ← hm_string] at nth_Key f_laws_szKey
  generalize hal : alp = al
  rw [s_laws_szKeyS, ← hp, ← hm_Key]
  dsimp only
  conv => lhs; cbv
  refine cC (fun hb1 => ?_) fun hb1 => ?_
  · rw [hb1]
    conv => lhs; cbv
    try rfl
  rw [hb1]
  conv => lhs; cbv
  refine (loop_al hal (fun x => match x with | (v2, v3) => ⟨[.c (.rd true 94 2 (m_Key a0)), .c (.at (.int .i64 v2)), dd, dd, dd, .c (.at (.int .i64 v3)), dd, dd, dd, dd, dd, dd, dd, dd, dd, dd, dd, dd, dd, dd, dd, dd, dd, dd, dd, dd, dd], [], 1⟩) (s_laws_szKeyS_l1 a0) (fun K g => match g with | .inl (v2, v3) => K (.exit 0) ⟨[.c (.rd true 94 2 (m_Key a0)), .c (.at (.int .i64 v2)), dd, dd, dd, .c (.at (.int .i64 v3)), dd, dd, dd, dd, dd, dd, .c (.at (.int .i64 v3)), .c (.rd true 94 2 (m_Key a0)), .c (.at (.int .i64 (p_int (p_len (m_Key a0))))), .c (.at (.bool false)), dd, dd, dd, dd, dd, dd, dd, dd, dd, dd, dd], [], 2⟩ | .inr (r) => some [.v (.at (.int .i64 r))]) ?_ (p_arith .sub .i64 a1 (p_int (p_len (m_Key a0))), 0) _ (rfl)).trans (cL ?_)
  · rintro K1 hr1 ⟨v2, v3⟩ R1
    rw [s_laws_szKeyS_l1, ← hp, ← hm_Key]
    dsimp only
    conv => lhs; cbv
    refine cD (fun hb4 => ?_) fun hb4 => ?_
    · rw [hb4]
      conv => lhs; cbv
      try rfl
    rw [hb4]
    conv => lhs; cbv
    rw [nth_Key]
    refine cO (fun hx6 => ?_) ?_
    · rw [hx6]; try rfl
    rintro x5 hx6
    rw [hx6]
    conv => lhs; cbv
    rw [f_laws_szKey x5 v2]
    refine cO (fun hx8 => ?_) ?_
    · rw [hx8]; try rfl
    rintro r7 hx8
    rw [hx8]
    conv => lhs; cbv
    refine cD (fun hb9 => ?_) fun hb9 => ?_
    · rw [hb9]
      conv => lhs; cbv
      try rfl
    rw [hb9]
    conv => lhs; cbv
    rw [hr1]
    conv => lhs; cbv
    try rfl
  rintro (⟨w10, w11⟩ | w12)
  · conv => lhs; cbv
    try rfl
  rfl
theorem e_s_laws_szReader (F : Fns) (f_laws_szName : Hs_s_laws_szName (F 19)) : Hs_s_laws_szReader (EvF F Tryz.f45 (fun _ => [])) := by
  intro a0 a1
  unfold EvF
  obtain ⟨p, hp⟩ := gn prims
  obtain ⟨m_string, hm_string⟩ := gn (List.map eS)
  rw [← hp, ← hm_string]
  obtain ⟨_, p_cmp, _⟩ := p
  simp only [Hs_s_laws_szName, ← hm_string] at f_laws_szName
  rw [s_laws_szReader, ← hp]
  dsimp only
  conv => lhs; cbv
  rw [f_laws_szName a0.name a1]
  refine cO (fun hx2 => ?_) ?_
  · rw [hx2]; try rfl
  rintro r1 hx2
  rw [hx2]
  conv => lhs; cbv
  refine cC (fun hb3 => ?_) fun hb3 => ?_
  · rw [hb3]
    conv => lhs; cbv
    try rfl
  rw [hb3]
  conv => lhs; cbv
  try rfl
theorem e_s_laws_szReaderS (F : Fns) (f_laws_szReader : Hs_s_laws_szReader (F 45)) : Hs_s_laws_szReaderS (EvF F Tryz.f18 (fun id => if id = 5 then [0, 1, 5] else [])) := by
  intro a0 a1
  unfold EvF
  obtain ⟨p, hp⟩ := gn prims
  obtain ⟨m_Reader, hm_Reader⟩ := gn (List.map eReader)
  obtain ⟨m_string, hm_string⟩ := gn (List.map eS)
  rw [← hp, ← hm_Reader]
  obtain ⟨p_arith, p_cmp, _, _, _, _, _, _, _, _, _, _, _, _, _, p_len, p_int, p_nth, _⟩ := p
  have nth_Reader := @nthF_Reader
  simp only [Hs_s_laws_szReader, ← hp, ← hm_Reader, ← hm_string] at nth_Reader f_laws_szReader
  generalize hal : alp = al
  rw [s_laws_szReaderS, ← hp, ← hm_Reader]
  dsimp only
  conv => lhs; cbv
  refine cC (fun hb1 => ?_) fun hb1 => ?_
  · rw [hb1]
    conv => lhs; cbv
    try rfl
  rw [hb1]
  conv => lhs; cbv
  refine (loop_al hal (fun x => match x with | (v2, v3) => ⟨[.c (.rd true 68 3 (m_Reader a0)), .c (.at (.int .i64 v2)), dd, dd, dd, .c (.at (.int .i64 v3)), dd, dd, dd, dd, dd, dd, dd, dd, dd, dd, dd, dd, dd, dd, dd, dd, dd, dd, dd, dd, dd], [], 1⟩) (s_laws_szReaderS_l1 a0) (fun K g => match g with | .inl (v2, v3) => K (.exit 0) ⟨[.c (.rd true 68 3 (m_Reader a0)), .c (.at (.int .i64 v2)), dd, dd, dd, .c (.at (.int .i64 v3)), dd, dd, dd, dd, dd, dd, .c (.at (.int .i64 v3)), .c (.rd true 68 3 (m_Reader a0)), .c (.at (.int .i64 (p_int (p_len (m_Reader a0))))), .c (.at (.bool false)), dd, dd, dd, dd, dd, dd, dd, dd, dd, dd, dd], [], 2⟩ | .inr (r) => some [.v (.at (.int .i64 r))]) ?_ (p_arith .sub .i64 a1 (p_int (p_len (m_Reader a0))), 0) _ (rfl)).trans (cL ?_)
  · rintro K1 hr1 ⟨v2, v3⟩ R1
    rw [s_laws_szReaderS_l1, ← hp, ← hm_Reader]
    dsimp only
    conv => lhs; cbv
    refine cD (fun hb4 => ?_) fun hb4 => ?_
    · rw [hb4]
      conv => lhs; cbv
      try rfl
    rw [hb4]
    conv => lhs; cbv
    rw [nth_Reader]
    refine cO (fun hx6 => ?_) ?_
    · rw [hx6]; try rfl
    rintro x5 hx6
    rw [hx6]
    conv => lhs; cbv
    rw [f_laws_szReader x5 v2]
    refine cO (fun hx8 => ?_) ?_
    · rw [hx8]; try rfl
    rintro r7 hx8
    rw [hx8]
    conv => lhs; cbv
    refine cD (fun hb9 => ?_) fun hb9 => ?_
    · rw [hb9]
      conv => lhs; cbv
      try rfl
    rw [hb9]
    conv => lhs; cbv
    rw [hr1]
    conv => lhs; cbv
    try rfl
  rintro (⟨w10, w11⟩ | w12)
  · conv => lhs; cbv
    try rfl
  rfl
theorem e_s_laws_szAccessController (F : Fns) (f_laws_szKeyS : Hs_s_laws_szKeyS (F 17)) (f_laws_szReaderS : Hs_s_laws_szReaderS (F 18)) : Hs_s_laws_szAccessController (EvF F Tryz.f4 (fun _ => [])) := by
  intro a0 a1
  unfold EvF
  obtain ⟨p, hp⟩ := gn prims
  obtain ⟨m_Key, hm_Key⟩ := gn (List.map eKey)
  obtain ⟨m_Reader, hm_Reader⟩ := gn (List.map eReader)
  rw [← hp, ← hm_Key, ← hm_Reader]
  obtain ⟨_, p_cmp, _⟩ := p
  simp only [Hs_s_laws_szKeyS, Hs_s_laws_szReaderS, ← hm_Key, ← hm_Reader] at f_laws_szKeyS f_laws_szReaderS
  rw [s_laws_szAccessController, ← hp]
  dsimp only
  conv => lhs; cbv
  rw [f_laws_szKeyS a0.keys a1]
  refine cO (fun hx2 => ?_) ?_
  · rw [hx2]; try rfl
  rintro r1 hx2
  rw [hx2]
  conv => lhs; cbv
  refine cC (fun hb3 => ?_) fun hb3 => ?_
  · rw [hb3]
    conv => lhs; cbv
    try rfl
  rw [hb3]
  conv => lhs; cbv
  rw [f_laws_szReaderS a0.readers r1]
  refine cO (fun hx5 => ?_) ?_
  · rw [hx5]; try rfl
  rintro r4 hx5
  rw [hx5]
  conv => lhs; cbv
  refine cC (fun hb6 => ?_) fun hb6 => ?_
  · rw [hb6]
    conv => lhs; cbv
    try rfl
  rw [hb6]
  conv => lhs; cbv
  try rfl
theorem e_s_laws_szByteS (F : Fns) : Hs_s_laws_szByteS (EvF F Tryz.f20 (fun _ => [])) := by
  intro a0 a1
  unfold EvF
  obtain ⟨p, hp⟩ := gn prims
  obtain ⟨m_byte, hm_byte⟩ := gn (List.map eY)
  rw [← hp, ← hm_byte]
  obtain ⟨p_arith, p_cmp, _, _, _, _, _, _, _, _, _, _, _, _, _, p_len, p_int, _⟩ := p
  rw [s_laws_szByteS, ← hp, ← hm_byte]
  dsimp only
  conv => lhs; cbv
  refine cC (fun hb1 => ?_) fun hb1 => ?_
  · rw [hb1]
    conv => lhs; cbv
    try rfl
  rw [hb1]
  conv => lhs; cbv
  try rfl
theorem e_s_laws_szData (F : Fns) (f_laws_szName : Hs_s_laws_szName (F 19)) (f_laws_szByteS : Hs_s_laws_szByteS (F 20)) : Hs_s_laws_szData (EvF F Tryz.f5 (fun _ => [])) := by
  intro a0 a1
  unfold EvF
  obtain ⟨p, hp⟩ := gn prims
  obtain ⟨m_byte, hm_byte⟩ := gn (List.map eY)
  obtain ⟨m_string, hm_string⟩ := gn (List.map eS)
  rw [← hp, ← hm_byte, ← hm_string]
  obtain ⟨_, p_cmp, _⟩ := p
  simp only [Hs_s_laws_szName, Hs_s_laws_szByteS, ← hm_string, ← hm_byte] at f_laws_szName f_laws_szByteS
  rw [s_laws_szData, ← hp]
  dsimp only
  conv => lhs; cbv
  rw [f_laws_szName a0.name a1]
  refine cO (fun hx2 => ?_) ?_
  · rw [hx2]; try rfl
  rintro r1 hx2
  rw [hx2]
  conv => lhs; cbv
  refine cC (fun hb3 => ?_) fun hb3 => ?_
  · rw [hb3]
    conv => lhs; cbv
    try rfl
  rw [hb3]
  conv => lhs; cbv
  rw [f_laws_szByteS a0.content r1]
  refine cO (fun hx5 => ?_) ?_
  · rw [hx5]; try rfl
  rintro r4 hx5
  rw [hx5]
  conv => lhs; cbv
  refine cC (fun hb6 => ?_) fun hb6 => ?_
  · rw [hb6]
    conv => lhs; cbv
    try rfl
  rw [hb6]
  conv => lhs; cbv
  rw [f_laws_szName a0.keyName r4]
  refine cO (fun hx8 => ?_) ?_
  · rw [hx8]; try rfl
  rintro r7 hx8
  rw [hx8]
  conv => lhs; cbv
  refine cC (fun hb9 => ?_) fun hb9 => ?_
  · rw [hb9]
    conv => lhs; cbv
    try rfl
  rw [hb9]
  conv => lhs; cbv
  try rfl
theorem e_s_laws_toStringS (F : Fns) : Hs_s_laws_toStringS (EvF F Tryz.f60 (fun id => if id = 3 then [0, 3, 4] else [])) := by
  intro a0
  unfold EvF
  obtain ⟨p, hp⟩ := gn prims
  obtain ⟨m_string, hm_string⟩ := gn (List.map eS)
  rw [← hp, ← hm_string]
  obtain ⟨p_arith, p_cmp, _, _, _, _, _, _, _, _, _, _, _, _, _, p_len, p_int, p_nth, _, _, p_ridx, p_rnth, p_rset, _, _, _, p_full, _, _, p_own, p_opn, _, _, _, _, _, _, _, p_mkN, p_rep, _⟩ := p
  have full_string := full_gen eS
  have lset_string := lset_gen eS
  have mkn_string := @mknF_string
  have nth_string := @nthF_string
  have own_string := own_gen eS (fun _ => rfl)
  have rep_string := @repF_string
  have rnth_string := @rnthF_string
  have rset_string := @rsetF_string
  simp only [← hp, ← hm_string] at full_string lset_string mkn_string nth_string own_string rep_string rnth_string rset_string
  generalize hal : alp = al
  rw [s_laws_toStringS, ← hp, ← hm_string]
  dsimp only
  conv => lhs; cbv
  rw [mkn_string]
  refine cO (fun hx2 => ?_) ?_
  · rw [hx2]; try rfl
  rintro x1 hx2
  rw [hx2]
  conv => lhs; cbv
  rw [rep_string _ _ _ hx2]
  conv => lhs; cbv
  refine (loop_al hal (fun x => match x with | (v3, v4) => ⟨[.c (.rd true 9 1 (m_string a0)), dd, dd, .c (.row (0, 0, 0) 9 1 0 (p_len (m_string v4))), .c (.at (.int .i64 v3)), dd, dd, dd, dd, dd, dd, dd, dd, dd, dd, dd, dd, dd, dd, dd, dd, dd], [((0, 0, 0), ⟨true, false, 9, 1, p_opn (m_string v4)⟩)], 1⟩) (s_laws_toStringS_l1 a0) (fun K g => match g with | (v3, v4) => K (.exit 0) ⟨[.c (.rd true 9 1 (m_string a0)), dd, dd, .c (.row (0, 0, 0) 9 1 0 (p_len (m_string v4))), .c (.at (.int .i64 v3)), dd, dd, dd, .c (.at (.int .i64 v3)), .c (.rd true 9 1 (m_string a0)), .c (.at (.int .i64 (p_int (p_len (m_string a0))))), .c (.at (.bool false)), dd, dd, dd, dd, dd, dd, dd, dd, dd, dd], [((0, 0, 0), ⟨true, false, 9, 1, p_opn (m_string v4)⟩)], 2⟩) ?_ (0, x1) _ (rfl)).trans (cL ?_)
  · rintro K1 hr1 ⟨v3, v4⟩ R1
    rw [s_laws_toStringS_l1, ← hp, ← hm_string]
    dsimp only
    conv => lhs; cbv
    refine cD (fun hb5 => ?_) fun hb5 => ?_
    · rw [hb5]
      conv => lhs; cbv
      try rfl
    rw [hb5]
    conv => lhs; cbv
    rw [nth_string]
    refine cO (fun hx7 => ?_) ?_
    · rw [hx7]; try rfl
    rintro x6 hx7
    rw [hx7]
    conv => lhs; cbv
    refine cO (fun hx9 => ?_) ?_
    · rw [hx9]; try rfl
    rintro x8 hx9
    rw [hx9]
    conv => lhs; cbv
    rw [rnth_string]
    refine cO (fun hx11 => ?_) ?_
    · rw [hx11]; try rfl
    rintro x10 hx11
    rw [hx11]
    conv => lhs; cbv
    rw [rset_string]
    try conv => lhs; rw [← lset_string v4 x8 x6]
    conv => lhs; cbv
    try rfl
  rintro ⟨w12, w13⟩
  conv => lhs; cbv
  rw [if_pos (full_string _)]
  conv => lhs; cbv
  rw [own_string]
  conv => lhs; cbv
  try rfl
theorem e_s_laws_toName (F : Fns) (f_laws_toStringS : Hs_s_laws_toStringS (F 60)) : Hs_s_laws_toName (EvF F Tryz.f30 (fun _ => [])) := by
  intro a0
  unfold EvF
  obtain ⟨p, hp⟩ := gn prims
  obtain ⟨m_string, hm_string⟩ := gn (List.map eS)
  rw [← hp, ← hm_string]
  obtain ⟨_, _, _, _, _, _, _, _, _, _, _, _, _, _, _, p_len, _, _, _, _, _, _, _, _, _, _, p_full, _, _, p_own, p_opn, _⟩ := p
  have full_string := full_gen eS
  have own_string := own_gen eS (fun _ => rfl)
  simp only [Hs_s_laws_toStringS, ← hp, ← hm_string] at full_string own_string f_laws_toStringS
  rw [s_laws_toName]
  conv => lhs; cbv
  rw [f_laws_toStringS a0]
  refine cO (fun hx2 => ?_) ?_
  · rw [hx2]; try rfl
  rintro r1 hx2
  rw [hx2]
  conv => lhs; cbv
  rw [if_pos (full_string _)]
  conv => lhs; cbv
  rw [own_string]
  conv => lhs; cbv
  try rfl
theorem e_s_laws_toKey (F : Fns) (f_laws_toName : Hs_s_laws_toName (F 30)) : Hs_s_laws_toKey (EvF F Tryz.f58 (fun _ => [])) := by
  intro a0
  unfold EvF
  obtain ⟨p, hp⟩ := gn prims
  obtain ⟨m_string, hm_string⟩ := gn (List.map eS)
  rw [← hp, ← hm_string]
  obtain ⟨_, _, _, _, _, _, _, _, _, _, _, _, _, _, _, p_len, _, _, _, _, _, _, _, _, _, _, p_full, _, _, p_own, p_opn, _⟩ := p
  have full_string := full_gen eS
  have own_string := own_gen eS (fun _ => rfl)
  simp only [Hs_s_laws_toName, ← hp, ← hm_string] at full_string own_string f_laws_toName
  rw [s_laws_toKey]
  conv => lhs; cbv
  rw [f_laws_toName a0.name]
  refine cO (fun hx2 => ?_) ?_
  · rw [hx2]; try rfl
  rintro r1 hx2
  rw [hx2]
  conv => lhs; cbv
  rw [if_pos (full_string _)]
  conv => lhs; cbv
  rw [own_string]
  conv => lhs; cbv
  try rfl
theorem e_s_laws_toKeyS (F : Fns) (f_laws_toKey : Hs_s_laws_toKey (F 58)) : Hs_s_laws_toKeyS (EvF F Tryz.f28 (fun id => if id = 3 then [0, 3, 4] else [])) := by
  intro a0
  unfold EvF
  obtain ⟨p, hp⟩ := gn prims
  obtain ⟨m_Key, hm_Key⟩ := gn (List.map eKey)
  obtain ⟨m_string, hm_string⟩ := gn (List.map eS)
  rw [← hp, ← hm_Key]
  obtain ⟨p_arith, p_cmp, _, _, _, _, _, _, _, _, _, _, _, _, _, p_len, p_int, p_nth, _, _, p_ridx, p_rnth, p_rset, _, _, _, p_full, _, _, p_own, p_opn, _, _, _, _, _, _, _, p_mkN, p_rep, _⟩ := p
  have full_Key := full_gen eKey
  have full_string := full_gen eS
  have lset_Key := lset_gen eKey
  have mkn_Key := @mknF_Key
  have nth_Key := @nthF_Key
  have own_Key := own_gen eKey (fun _ => rfl)
  have own_string := own_gen eS (fun _ => rfl)
  have rep_Key := @repF_Key
  have rnth_Key := @rnthF_Key
  have rset_Key := @rsetF_Key
  simp only [Hs_s_laws_toKey, ← hp, ← hm_Key, ← hm_string] at full_Key full_string lset_Key mkn_Key nth_Key own_Key own_string rep_Key rnth_Key rset_Key f_laws_toKey
  generalize hal : alp = al
  rw [s_laws_toKeyS, ← hp, ← hm_Key]
  dsimp only
  conv => lhs; cbv
  rw [mkn_Key]
  refine cO (fun hx2 => ?_) ?_
  · rw [hx2]; try rfl
  rintro x1 hx2
  rw [hx2]
  conv => lhs; cbv
  rw [rep_Key _ _ _ hx2]
  conv => lhs; cbv
  refine (loop_al hal (fun x => match x with | (v3, v4) => ⟨[.c (.rd true 94 2 (m_Key a0)), dd, dd, .c (.row (0, 0, 0) 94 2 0 (p_len (m_Key v4))), .c (.at (.int .i64 v3)), dd, dd, dd, dd, dd, dd, dd, dd, dd, dd, dd, dd, dd, dd, dd, dd, dd, dd], [((0, 0, 0), ⟨true, false, 94, 2, p_opn (m_Key v4)⟩)], 1⟩) (s_laws_toKeyS_l1 a0) (fun K g => match g with | (v3, v4) => K (.exit 0) ⟨[.c (.rd true 94 2 (m_Key a0)), dd, dd, .c (.row (0, 0, 0) 94 2 0 (p_len (m_Key v4))), .c (.at (.int .i64 v3)), dd, dd, dd, .c (.at (.int .i64 v3)), .c (.rd true 94 2 (m_Key a0)), .c (.at (.int .i64 (p_int (p_len (m_Key a0))))), .c (.at (.bool false)), dd, dd, dd, dd, dd, dd, dd, dd, dd, dd, dd], [((0, 0, 0), ⟨true, false, 94, 2, p_opn (m_Key v4)⟩)], 2⟩) ?_ (0, x1) _ (rfl)).trans (cL ?_)
  · rintro K1 hr1 ⟨v3, v4⟩ R1
    rw [s_laws_toKeyS_l1, ← hp, ← hm_Key]
    dsimp only
    conv => lhs; cbv
    refine cD (fun hb5 => ?_) fun hb5 => ?_
    · rw [hb5]
      conv => lhs; cbv
      try rfl
    rw [hb5]
    conv => lhs; cbv
    rw [nth_Key]
    refine cO (fun hx7 => ?_) ?_
    · rw [hx7]; try rfl
    rintro x6 hx7
    rw [hx7]
    conv => lhs; cbv
    rw [f_laws_toKey x6]
    refine cO (fun hx9 => ?_) ?_
    · rw [hx9]; try rfl
    rintro r8 hx9
    rw [hx9]
    conv => lhs; cbv
    refine cO (fun hx11 => ?_) ?_
    · rw [hx11]; try rfl
    rintro x10 hx11
    rw [hx11]
    conv => lhs; cbv
    rw [rnth_Key]
    refine cO (fun hx13 => ?_) ?_
    · rw [hx13]; try rfl
    rintro x12 hx13
    rw [hx13]
    conv => lhs; cbv
    rw [if_pos (full_string _)]
    conv => lhs; cbv
    rw [own_string]
    conv => lhs; cbv
    rw [rset_Key]
    try conv => lhs; rw [← lset_Key v4 x10 r8]
    conv => lhs; cbv
    try rfl
  rintro ⟨w14, w15⟩
  conv => lhs; cbv
  rw [if_pos (full_Key _)]
  conv => lhs; cbv
  rw [own_Key]
  conv => lhs; cbv
  try rfl
theorem e_s_laws_toReader (F : Fns) (f_laws_toName : Hs_s_laws_toName (F 30)) : Hs_s_laws_toReader (EvF F Tryz.f59 (fun _ => [])) := by
  intro a0
  unfold EvF
  obtain ⟨p, hp⟩ := gn prims
  obtain ⟨m_string, hm_string⟩ := gn (List.map eS)
  rw [← hp, ← hm_string]
  obtain ⟨_, _, _, _, _, _, _, _, _, _, _, _, _, _, _, p_len, _, _, _, _, _, _, _, _, _, _, p_full, _, _, p_own, p_opn, _⟩ := p
  have full_string := full_gen eS
  have own_string := own_gen eS (fun _ => rfl)
  simp only [Hs_s_laws_toName, ← hp, ← hm_string] at full_string own_string f_laws_toName
  rw [s_laws_toReader]
  conv => lhs; cbv
  rw [f_laws_toName a0.name]
  refine cO (fun hx2 => ?_) ?_
  · rw [hx2]; try rfl
  rintro r1 hx2
  rw [hx2]
  conv => lhs; cbv
  rw [if_pos (full_string _)]
  conv => lhs; cbv
  rw [own_string]
  conv => lhs; cbv
  try rfl
theorem e_s_laws_toReaderS (F : Fns) (f_laws_toReader : Hs_s_laws_toReader (F 59)) : Hs_s_laws_toReaderS (EvF F Tryz.f29 (fun id => if id = 3 then [0, 3, 4] else [])) := by
  intro a0
  unfold EvF
  obtain ⟨p, hp⟩ := gn prims
  obtain ⟨m_Reader, hm_Reader⟩ := gn (List.map eReader)
  obtain ⟨m_string, hm_string⟩ := gn (List.map eS)
  rw [← hp, ← hm_Reader]
  obtain ⟨p_arith, p_cmp, _, _, _, _, _, _, _, _, _, _, _, _, _, p_len, p_int, p_nth, _, _, p_ridx, p_rnth, p_rset, _, _, _, p_full, _, _, p_own, p_opn, _, _, _, _, _, _, _, p_mkN, p_rep, _⟩ := p
  have full_Reader := full_gen eReader
  have full_string := full_gen eS
  have lset_Reader := lset_gen eReader
  have mkn_Reader := @mknF_Reader
  have nth_Reader := @nthF_Reader
  have own_Reader := own_gen eReader (fun _ => rfl)
  have own_string := own_gen eS (fun _ => rfl)
  have rep_Reader := @repF_Reader
  have rnth_Reader := @rnthF_Reader
  have rset_Reader := @rsetF_Reader
  simp only [Hs_s_laws_toReader, ← hp, ← hm_Reader, ← hm_string] at full_Reader full_string lset_Reader mkn_Reader nth_Reader own_Reader own_string rep_Reader rnth_Reader rset_Reader f_laws_toReader
  generalize hal : alp = al
  rw [s_laws_toReaderS, ← hp, ← hm_Reader]
  dsimp only
  conv => lhs; cbv
  rw [mkn_Reader]
  refine cO (fun hx2 => ?_) ?_
  · rw [hx2]; try rfl
  rintro x1 hx2
  rw [hx2]
  conv => lhs; cbv
  rw [rep_Reader _ _ _ hx2]
  conv => lhs; cbv
  refine (loop_al hal (fun x => match x with | (v3, v4) => ⟨[.c (.rd true 68 3 (m_Reader a0)), dd, dd, .c (.row (0, 0, 0) 68 3 0 (p_len (m_Reader v4))), .c (.at (.int .i64 v3)), dd, dd, dd, dd, dd, dd, dd, dd, dd, dd, dd, dd, dd, dd, dd, dd, dd, dd], [((0, 0, 0), ⟨true, false, 68, 3, p_opn (m_Reader v4)⟩)], 1⟩) (s_laws_toReaderS_l1 a0) (fun K g => match g with | (v3, v4) => K (.exit 0) ⟨[.c (.rd true 68 3 (m_Reader a0)), dd, dd, .c (.row (0, 0, 0) 68 3 0 (p_len (m_Reader v4))), .c (.at (.int .i64 v3)), dd, dd, dd, .c (.at (.int .i64 v3)), .c (.rd true 68 3 (m_Reader a0)), .c (.at (.int .i64 (p_int (p_len (m_Reader a0))))), .c (.at (.bool false)), dd, dd, dd, dd, dd, dd, dd, dd, dd, dd, dd], [((0, 0, 0), ⟨true, false, 68, 3, p_opn (m_Reader v4)⟩)], 2⟩) ?_ (0, x1) _ (rfl)).trans (cL ?_)
  · rintro K1 hr1 ⟨v3, v4⟩ R1
    rw [s_laws_toReaderS_l1, ← hp, ← hm_Reader]
    dsimp only
    conv => lhs; cbv
    refine cD (fun hb5 => ?_) fun hb5 => ?_
    · rw [hb5]
      conv => lhs; cbv
      try rfl
    rw [hb5]
    conv => lhs; cbv
    rw [nth_Reader]
    refine cO (fun hx7 => ?_) ?_
    · rw [hx7]; try rfl
    rintro x6 hx7
    rw [hx7]
    conv => lhs; cbv
    rw [f_laws_toReader x6]
    refine cO (fun hx9 => ?_) ?_
    · rw [hx9]; try rfl
    rintro r8 hx9
    rw [hx9]
    conv => lhs; cbv
    refine cO (fun hx11 => ?_) ?_
    · rw [hx11]; try rfl
    rintro x10 hx11
    rw [hx11]
    conv => lhs; cbv
    rw [rnth_Reader]
    refine cO (fun hx13 => ?_) ?_
    · rw [hx13]; try rfl
    rintro x12 hx13
    rw [hx13]
    conv => lhs; cbv
    rw [if_pos (full_string _)]
    conv => lhs; cbv
    rw [own_string]
    conv => lhs; cbv
    rw [rset_Reader]
    try conv => lhs; rw [← lset_Reader v4 x10 r8]
    conv => lhs; cbv
    try rfl
  rintro ⟨w14, w15⟩
  conv => lhs; cbv
  rw [if_pos (full_Reader _)]
  conv => lhs; cbv
  rw [own_Reader]
  conv => lhs; cbv
  try rfl
theorem e_s_laws_toAccessController (F : Fns) (f_laws_toKeyS : Hs_s_laws_toKeyS (F 28)) (f_laws_toReaderS : Hs_s_laws_toReaderS (F 29)) : Hs_s_laws_toAccessController (EvF F Tryz.f7 (fun _ => [])) := by
  intro a0
  unfold EvF
  obtain ⟨p, hp⟩ := gn prims
  obtain ⟨m_Key, hm_Key⟩ := gn (List.map eKey)
  obtain ⟨m_Reader, hm_Reader⟩ := gn (List.map eReader)
  rw [← hp, ← hm_Key, ← hm_Reader]
  obtain ⟨_, _, _, _, _, _, _, _, _, _, _, _, _, _, _, p_len, _, _, _, _, _, _, _, _, _, _, p_full, _, _, p_own, p_opn, _⟩ := p
  have full_Key := full_gen eKey
  have full_Reader := full_gen eReader
  have own_Key := own_gen eKey (fun _ => rfl)
  have own_Reader := own_gen eReader (fun _ => rfl)
  simp only [Hs_s_laws_toKeyS, Hs_s_laws_toReaderS, ← hp, ← hm_Key, ← hm_Reader] at full_Key full_Reader own_Key own_Reader f_laws_toKeyS f_laws_toReaderS
  rw [s_laws_toAccessController]
  conv => lhs; cbv
  rw [f_laws_toKeyS a0.keys]
  refine cO (fun hx2 => ?_) ?_
  · rw [hx2]; try rfl
  rintro r1 hx2
  rw [hx2]
  conv => lhs; cbv
  rw [f_laws_toReaderS a0.readers]
  refine cO (fun hx4 => ?_) ?_
  · rw [hx4]; try rfl
  rintro r3 hx4
  rw [hx4]
  conv => lhs; cbv
  rw [if_pos (full_Key _)]
  conv => lhs; cbv
  rw [own_Key]
  conv => lhs; cbv
  rw [if_pos (full_Reader _)]
  conv => lhs; cbv
  rw [own_Reader]
  conv => lhs; cbv
  try rfl
theorem e_s_laws_toByteS (F : Fns) : Hs_s_laws_toByteS (EvF F Tryz.f31 (fun id => if id = 3 then [0, 3, 4] else [])) := by
  intro a0
  unfold EvF
  obtain ⟨p, hp⟩ := gn prims
  obtain ⟨m_byte, hm_byte⟩ := gn (List.map eY)
  rw [← hp, ← hm_byte]
  obtain ⟨p_arith, p_cmp, _, _, _, _, _, _, _, _, _, _, _, _, _, p_len, p_int, p_nth, _, _, p_ridx, p_rnth, p_rset, _, _, _, p_full, _, _, p_own, p_opn, _, _, _, _, p_yI, _, _, p_mkN, p_rep, _⟩ := p
  have full_byte := full_gen eY
  have lset_byte := lset_gen eY
  have mkn_byte := @mknF_byte
  have nth_byte := @nthF_byte
  have own_byte := own_gen eY (fun _ => rfl)
  have rep_byte := @repF_byte
  have rnth_byte := @rnthF_byte
  have rset_byte := @rsetF_byte
  simp only [← hp, ← hm_byte] at full_byte lset_byte mkn_byte nth_byte own_byte rep_byte rnth_byte rset_byte
  generalize hal : alp = al
  rw [s_laws_toByteS, ← hp, ← hm_byte]
  dsimp only
  conv => lhs; cbv
  rw [mkn_byte]
  refine cO (fun hx2 => ?_) ?_
  · rw [hx2]; try rfl
  rintro x1 hx2
  rw [hx2]
  conv => lhs; cbv
  rw [rep_byte _ _ _ hx2]
  conv => lhs; cbv
  refine (loop_al hal (fun x => match x with | (v3, v4) => ⟨[.c (.rd true 5 1 (m_byte a0)), dd, dd, .c (.row (0, 0, 0) 5 1 0 (p_len (m_byte v4))), .c (.at (.int .i64 v3)), dd, dd, dd, dd, dd, dd, dd, dd, dd, dd, dd, dd, dd, dd, dd, dd, dd], [((0, 0, 0), ⟨true, false, 5, 1, p_opn (m_byte v4)⟩)], 1⟩) (s_laws_toByteS_l1 a0) (fun K g => match g with | (v3, v4) => K (.exit 0) ⟨[.c (.rd true 5 1 (m_byte a0)), dd, dd, .c (.row (0, 0, 0) 5 1 0 (p_len (m_byte v4))), .c (.at (.int .i64 v3)), dd, dd, dd, .c (.at (.int .i64 v3)), .c (.rd true 5 1 (m_byte a0)), .c (.at (.int .i64 (p_int (p_len (m_byte a0))))), .c (.at (.bool false)), dd, dd, dd, dd, dd, dd, dd, dd, dd, dd], [((0, 0, 0), ⟨true, false, 5, 1, p_opn (m_byte v4)⟩)], 2⟩) ?_ (0, x1) _ (rfl)).trans (cL ?_)
  · rintro K1 hr1 ⟨v3, v4⟩ R1
    rw [s_laws_toByteS_l1, ← hp, ← hm_byte]
    dsimp only
    conv => lhs; cbv
    refine cD (fun hb5 => ?_) fun hb5 => ?_
    · rw [hb5]
      conv => lhs; cbv
      try rfl
    rw [hb5]
    conv => lhs; cbv
    rw [nth_byte]
    refine cO (fun hx7 => ?_) ?_
    · rw [hx7]; try rfl
    rintro x6 hx7
    rw [hx7]
    conv => lhs; cbv
    refine cO (fun hx9 => ?_) ?_
    · rw [hx9]; try rfl
    rintro x8 hx9
    rw [hx9]
    conv => lhs; cbv
    rw [rnth_byte]
    refine cO (fun hx11 => ?_) ?_
    · rw [hx11]; try rfl
    rintro x10 hx11
    rw [hx11]
    conv => lhs; cbv
    rw [rset_byte]
    try conv => lhs; rw [← lset_byte v4 x8 x6]
    conv => lhs; cbv
    try rfl
  rintro ⟨w12, w13⟩
  conv => lhs; cbv
  rw [if_pos (full_byte _)]
  conv => lhs; cbv
  rw [own_byte]
  conv => lhs; cbv
  try rfl
theorem e_s_laws_toData (F : Fns) (f_laws_toName : Hs_s_laws_toName (F 30)) (f_laws_toByteS : Hs_s_laws_toByteS (F 31)) : Hs_s_laws_toData (EvF F Tryz.f8 (fun _ => [])) := by
  intro a0
  unfold EvF
  obtain ⟨p, hp⟩ := gn prims
  obtain ⟨m_byte, hm_byte⟩ := gn (List.map eY)
  obtain ⟨m_string, hm_string⟩ := gn (List.map eS)
  rw [← hp, ← hm_byte, ← hm_string]
  obtain ⟨_, _, _, _, _, _, _, _, _, _, _, _, _, _, _, p_len, _, _, _, _, _, _, _, _, _, _, p_full, _, _, p_own, p_opn, _⟩ := p
  have full_byte := full_gen eY
  have full_string := full_gen eS
  have own_byte := own_gen eY (fun _ => rfl)
  have own_string := own_gen eS (fun _ => rfl)
  simp only [Hs_s_laws_toName, Hs_s_laws_toByteS, ← hp, ← hm_byte, ← hm_string] at full_byte full_string own_byte own_string f_laws_toName f_laws_toByteS
  rw [s_laws_toData]
  conv => lhs; cbv
  rw [f_laws_toName a0.name]
  refine cO (fun hx2 => ?_) ?_
  · rw [hx2]; try rfl
  rintro r1 hx2
  rw [hx2]
  conv => lhs; cbv
  rw [f_laws_toByteS a0.content]
  refine cO (fun hx4 => ?_) ?_
  · rw [hx4]; try rfl
  rintro r3 hx4
  rw [hx4]
  conv => lhs; cbv
  rw [f_laws_toName a0.keyName]
  refine cO (fun hx6 => ?_) ?_
  · rw [hx6]; try rfl
  rintro r5 hx6
  rw [hx6]
  conv => lhs; cbv
  rw [if_pos (full_string _)]
  conv => lhs; cbv
  rw [own_string]
  conv => lhs; cbv
  rw [if_pos (full_byte _)]
  conv => lhs; cbv
  rw [own_byte]
  conv => lhs; cbv
  rw [if_pos (full_string _)]
  conv => lhs; cbv
  rw [own_string]
  conv => lhs; cbv
  try rfl
theorem e_s_spec_l38May (F : Fns) : Hs_s_spec_l38May (EvV F Tryz.f21 (fun id => if id = 3 then [0, 1, 5, 6] else [])) := by
  intro a0 a1
  unfold EvV
  obtain ⟨p, hp⟩ := gn prims
  obtain ⟨m_Reader, hm_Reader⟩ := gn (List.map eReader)
  obtain ⟨m_string, hm_string⟩ := gn (List.map eS)
  rw [← hp, ← hm_Reader]
  obtain ⟨p_arith, p_cmp, _, _, _, _, _, _, _, _, _, _, _, _, _, p_len, p_int, p_nth, _, _, _, _, _, p_rapp, p_rlen, p_addN, p_full, p_fits, p_frz, _, p_opn, _⟩ := p
  obtain ⟨p_bor, hp_bor⟩ := gn borL
  have addn_Reader := addn_gen eReader
  have borb0_Reader := @borb0F_Reader
  have frzb_Reader := @frzbF_Reader
  have fulb_Reader := @fulbF_Reader
  have len0_Reader := @len0F_Reader
  have litb_Reader := @litbF_Reader
  have nth_Reader := @nthF_Reader
  have rapb_Reader := @rapbF_Reader
  have rlb_Reader := @rlbF_Reader
  simp only [← hp, ← hm_Reader, ← hp_bor, ← hm_string] at addn_Reader borb0_Reader frzb_Reader fulb_Reader len0_Reader litb_Reader nth_Reader rapb_Reader rlb_Reader
  generalize hal : alp = al
  rw [s_spec_l38May]
  conv => lhs; cbv
  refine (loop_al hal (fun x => match x with | (v1, v2) => ⟨[.c (.rd true 68 3 (m_Reader a0)), .c (.at (.int .i64 a1)), dd, dd, dd, .c (.row (0, 0, 0) 68 3 0 (p_len (m_Reader v2))), .c (.at (.int .i64 v1)), dd, dd, dd, dd, dd, dd, dd, dd, dd, dd, dd, dd, dd, dd, dd, dd, dd, dd, dd, dd, dd, dd], [((0, 0, 0), ⟨true, false, 68, 3, p_bor (m_Reader v2)⟩)], 1⟩) (s_spec_l38May_l1 a0 a1) (fun K g => match g with | (v1, v2) => K (.exit 0) ⟨[.c (.rd true 68 3 (m_Reader a0)), .c (.at (.int .i64 a1)), dd, dd, dd, .c (.row (0, 0, 0) 68 3 0 (p_len (m_Reader v2))), .c (.at (.int .i64 v1)), dd, .c (.at (.int .i64 v1)), .c (.rd true 68 3 (m_Reader a0)), .c (.at (.int .i64 (p_int (p_len (m_Reader a0))))), .c (.at (.bool false)), dd, dd, dd, dd, dd, dd, dd, dd, dd, dd, dd, dd, dd, dd, dd, dd, dd], [((0, 0, 0), ⟨true, false, 68, 3, p_bor (m_Reader v2)⟩)], 2⟩) ?_ (0, []) _ (by simp only [borb0_Reader, len0_Reader]; rfl)).trans (cL ?_)
  · rintro K1 hr1 ⟨v1, v2⟩ R1
    rw [s_spec_l38May_l1, ← hp, ← hp_bor, ← hm_Reader]
    dsimp only
    conv => lhs; cbv
    refine cD (fun hb3 => ?_) fun hb3 => ?_
    · rw [hb3]
      conv => lhs; cbv
      try rfl
    rw [hb3]
    conv => lhs; cbv
    rw [nth_Reader]
    refine cO (fun hx5 => ?_) ?_
    · rw [hx5]; try rfl
    rintro x4 hx5
    rw [hx5]
    conv => lhs; cbv
    refine cD (fun hb6 => ?_) fun hb6 => ?_
    · rw [hb6]
      conv => lhs; cbv
      try rfl
    rw [hb6]
    conv => lhs; cbv
    rw [nth_Reader]
    rw [hx5]
    conv => lhs; cbv
    rw [litb_Reader]
    refine cD (fun hb8 => ?_) fun hb8 => ?_
    · rw [if_neg (fun x => Bool.noConfusion (hb8.symm.trans x.2.1))]; try rfl
    rw [if_pos ⟨fulb_Reader _, hb8, trivial⟩]
    conv => lhs; cbv
    rw [rapb_Reader]
    try rw [rlb_Reader]
    rw [addn_Reader]
    conv => lhs; cbv
    try rfl
  rintro ⟨w9, w10⟩
  conv => lhs; cbv
  rw [frzb_Reader]
  conv => lhs; cbv
  try rfl
theorem e_s_spec_FormatInt (F : Fns) : Hs_s_spec_FormatInt (EvF F Tryz.f22 (fun id => if id = 5 then [0, 3, 4] else [])) := by
  intro a0
  unfold EvF
  obtain ⟨p, hp⟩ := gn prims
  obtain ⟨m_byte, hm_byte⟩ := gn (List.map eY)
  rw [← hp]
  obtain ⟨p_arith, p_cmp, p_wrap, _, p_scat, p_catOk, _, _, _, _, p_str, _, _, _, _, _, _, _, _, _, _, _, _, _, _, _, _, _, _, _, _, _, _, _, _, p_yI, p_ofB, p_byW, _⟩ := p
  have mcons_byte := @mconsF_byte
  have nild_byte := @nildF_byte
  have str_byte := @strF_byte
  have wy_byte := @wyF_byte
  simp only [← hp, ← hm_byte] at mcons_byte nild_byte str_byte wy_byte
  generalize hal : alp = al
  rw [s_spec_FormatInt, ← hp]
  dsimp only
  conv => lhs; cbv
  refine cC (fun hb1 => ?_) fun hb1 => ?_
  · rw [hb1]
    conv => lhs; cbv
    try rfl
  rw [hb1]
  conv => lhs; cbv
  refine (loop_al hal (fun x => match x with | (v2, v3) => ⟨[.c (.at (.int .i64 a0)), dd, dd, .c (.at (.string v2)), .c (.at (.int .i64 v3)), dd, dd, dd, dd, dd, dd, dd, dd, dd, dd, dd, dd, dd, dd, dd, dd, dd, dd, dd, dd, dd, dd, dd, dd, dd, dd], [], 1⟩) (s_spec_FormatInt_l1) (fun K g => match g with | (v2, v3) => K (.exit 0) ⟨[.c (.at (.int .i64 a0)), dd, dd, .c (.at (.string v2)), .c (.at (.int .i64 v3)), dd, dd, dd, dd, .c (.at (.int .i64 v3)), .c (.at (.bool false)), dd, dd, dd, dd, dd, dd, dd, dd, dd, dd, dd, dd, dd, dd, dd, dd, dd, dd, dd, dd], [], 2⟩) ?_ ((ByteArray.mk (Array.mk [])), a0) _ (rfl)).trans (cL ?_)
  · rintro K1 hr1 ⟨v2, v3⟩ R1
    rw [s_spec_FormatInt_l1, ← hp]
    dsimp only
    conv => lhs; cbv
    refine cD (fun hb4 => ?_) fun hb4 => ?_
    · rw [hb4]
      conv => lhs; cbv
      try rfl
    rw [hb4]
    conv => lhs; cbv
    refine cC (fun hb5 => ?_) fun hb5 => ?_
    · rw [if_pos hb5]
      try rw [hb5]
      conv => lhs; cbv
      try rfl
    rw [if_neg (Bool.eq_false_iff.1 hb5)]
    try rw [hb5]
    conv => lhs; cbv
    refine cC (fun hb6 => ?_) fun hb6 => ?_
    · rw [hb6]
      conv => lhs; cbv
      rw [wy_byte]
      conv => lhs; cbv
      rw [← (show (m_byte [(p_byW (p_arith .add .i64 48 (p_arith .sub .i64 0 (p_arith .rem .i64 v3 10))))]) = [[DT.at (.int .u8 (p_yI (p_byW (p_arith .add .i64 48 (p_arith .sub .i64 0 (p_arith .rem .i64 v3 10))))))]] by rw [mcons_byte, nild_byte])]
      rw [str_byte]
      conv => lhs; cbv
      refine cD (fun hb7 => ?_) fun hb7 => ?_
      · rw [if_neg (Bool.eq_false_iff.1 hb7)]
        try rw [hb7]
        conv => lhs; cbv
        try rfl
      rw [if_pos hb7]
      try rw [hb7]
      conv => lhs; cbv
      rw [if_neg (Bool.eq_false_iff.1 hb5)]
      conv => lhs; cbv
      try rfl
    rw [hb6]
    conv => lhs; cbv
    rw [wy_byte]
    conv => lhs; cbv
    rw [← (show (m_byte [(p_byW (p_arith .add .i64 48 (p_arith .rem .i64 v3 10)))]) = [[DT.at (.int .u8 (p_yI (p_byW (p_arith .add .i64 48 (p_arith .rem .i64 v3 10)))))]] by rw [mcons_byte, nild_byte])]
    rw [str_byte]
    conv => lhs; cbv
    refine cD (fun hb8 => ?_) fun hb8 => ?_
    · rw [if_neg (Bool.eq_false_iff.1 hb8)]
      try rw [hb8]
      conv => lhs; cbv
      try rfl
    rw [if_pos hb8]
    try rw [hb8]
    conv => lhs; cbv
    rw [if_neg (Bool.eq_false_iff.1 hb5)]
    conv => lhs; cbv
    try rfl
  rintro ⟨w9, w10⟩
  conv => lhs; cbv
  refine cD (fun hb11 => ?_) fun hb11 => ?_
  · rw [hb11]
    conv => lhs; cbv
    try rfl
  rw [hb11]
  conv => lhs; cbv
  refine cC (fun hb12 => ?_) fun hb12 => ?_
  · rw [if_pos hb12]
    try rw [hb12]
    conv => lhs; cbv
    try rfl
  rw [if_neg (Bool.eq_false_iff.1 hb12)]
  try rw [hb12]
  conv => lhs; cbv
  try rfl
theorem e_s_spec_Min (F : Fns) : Hs_s_spec_Min (EvF F Tryz.f49 (fun _ => [])) := by
  intro a0 a1
  unfold EvF
  obtain ⟨p, hp⟩ := gn prims
  rw [← hp]
  obtain ⟨_, p_cmp, _⟩ := p
  rw [s_spec_Min, ← hp]
  dsimp only
  conv => lhs; cbv
  refine cC (fun hb1 => ?_) fun hb1 => ?_
  · rw [hb1]
    conv => lhs; cbv
    try rfl
  rw [hb1]
  conv => lhs; cbv
  try rfl
theorem e_s_spec_Max (F : Fns) : Hs_s_spec_Max (EvF F Tryz.f48 (fun _ => [])) := by
  intro a0 a1
  unfold EvF
  obtain ⟨p, hp⟩ := gn prims
  rw [← hp]
  obtain ⟨_, p_cmp, _⟩ := p
  rw [s_spec_Max, ← hp]
  dsimp only
  conv => lhs; cbv
  refine cC (fun hb1 => ?_) fun hb1 => ?_
  · rw [hb1]
    conv => lhs; cbv
    try rfl
  rw [hb1]
  conv => lhs; cbv
  try rfl
theorem e_s_spec_Truncate (F : Fns) (f_spec_Min : Hs_s_spec_Min (F 49)) (f_spec_Max : Hs_s_spec_Max (F 48)) : Hs_s_spec_Truncate (EvF F Tryz.f24 (fun _ => [])) := by
  intro a0 a1
  unfold EvF
  obtain ⟨p, hp⟩ := gn prims
  obtain ⟨m_string, hm_string⟩ := gn (List.map eS)
  rw [← hp, ← hm_string]
  obtain ⟨_, _, _, _, _, _, _, _, _, _, _, _, _, _, _, p_len, p_int, _, p_sub, _, _, _, _, p_rapp, p_rlen, p_addN, p_full, p_fits, _, p_own, p_opn, p_lend, _⟩ := p
  have addn0_string := @addn0F_string
  have full_string := full_gen eS
  have lend_string := @lendF_string
  have own_string := own_gen eS (fun _ => rfl)
  have rapp0_string := @rapp0F_string
  have sub_string := @subF_string
  simp only [Hs_s_spec_Min, Hs_s_spec_Max, ← hp, ← hm_string] at addn0_string full_string lend_string own_string rapp0_string sub_string f_spec_Min f_spec_Max
  rw [s_spec_Truncate, ← hp, ← hm_string]
  dsimp only
  conv => lhs; cbv
  rw [f_spec_Min a1 (p_int (p_len (m_string a0)))]
  refine cO (fun hx2 => ?_) ?_
  · rw [hx2]; try rfl
  rintro r1 hx2
  rw [hx2]
  conv => lhs; cbv
  rw [f_spec_Max 0 r1]
  refine cO (fun hx4 => ?_) ?_
  · rw [hx4]; try rfl
  rintro r3 hx4
  rw [hx4]
  conv => lhs; cbv
  rw [sub_string]
  refine cO (fun hx6 => ?_) ?_
  · rw [hx6]; try rfl
  rintro x5 hx6
  rw [hx6]
  conv => lhs; cbv
  rw [lend_string]
  conv => lhs; cbv
  refine cD (fun hb7 => ?_) fun hb7 => ?_
  · rw [if_neg (fun x => Bool.noConfusion (hb7.symm.trans x.1))]; try rfl
  rw [if_pos ⟨hb7, trivial⟩]
  conv => lhs; cbv
  rw [rapp0_string, addn0_string]
  conv => lhs; cbv
  rw [if_pos (full_string _)]
  conv => lhs; cbv
  rw [own_string]
  conv => lhs; cbv
  try rfl
theorem e_s_spec_l4Cmp (F : Fns) : Hs_s_spec_l4Cmp (EvF F Tryz.f101 (fun _ => [])) := by
  intro a0 a1
  unfold EvF
  obtain ⟨p, hp⟩ := gn prims
  rw [← hp]
  obtain ⟨_, _, _, p_scmp, _⟩ := p
  rw [s_spec_l4Cmp, ← hp]
  dsimp only
  conv => lhs; cbv
  refine cC (fun hb1 => ?_) fun hb1 => ?_
  · rw [hb1]
    conv => lhs; cbv
    try rfl
  rw [hb1]
  conv => lhs; cbv
  refine cC (fun hb2 => ?_) fun hb2 => ?_
  · rw [hb2]
    conv => lhs; cbv
    try rfl
  rw [hb2]
  conv => lhs; cbv
  try rfl
theorem e_s_spec_CompareNames (F : Fns) (f_spec_l4Cmp : Hs_s_spec_l4Cmp (F 101)) : Hs_s_spec_CompareNames (EvF F Tryz.f95 (fun id => if id = 2 then [2, 3, 5] else [])) := by
  intro a0 a1
  unfold EvF
  obtain ⟨p, hp⟩ := gn prims
  obtain ⟨m_string, hm_string⟩ := gn (List.map eS)
  rw [← hp, ← hm_string]
  obtain ⟨p_arith, p_cmp, _, _, _, _, _, _, _, _, _, _, _, _, _, p_len, p_int, p_nth, _⟩ := p
  have nth_string := @nthF_string
  simp only [Hs_s_spec_l4Cmp, ← hp, ← hm_string] at nth_string f_spec_l4Cmp
  generalize hal : alp = al
  rw [s_spec_CompareNames, ← hp, ← hm_string]
  dsimp only
  conv => lhs; cbv
  refine (loop_al hal (fun v1 => ⟨[dd, dd, .c (.ptr (0, 0, 0) 1 0 0), .c (.ptr (0, 0, 1) 1 0 0), dd, .c (.at (.int .i64 v1)), dd, dd, dd, dd, dd, dd, dd, dd, dd, dd, dd, dd, dd, dd, dd, dd, dd, dd, dd, dd, dd, dd, dd, dd, dd, dd, dd, dd, dd, dd, dd, dd, dd, dd, dd, dd, dd, dd, dd, dd, dd, dd, dd, dd, dd], [((0, 0, 1), ⟨false, true, 41, 1, [[.rd true 9 1 (m_string a1)]]⟩), ((0, 0, 0), ⟨false, true, 41, 1, [[.rd true 9 1 (m_string a0)]]⟩)], 1⟩) (s_spec_CompareNames_l1 a0 a1) (fun K g => match g with | .inl v1 => K (.exit 0) ⟨[dd, dd, .c (.ptr (0, 0, 0) 1 0 0), .c (.ptr (0, 0, 1) 1 0 0), dd, .c (.at (.int .i64 v1)), dd, .c (.at (.int .i64 v1)), .c (.ptr (0, 0, 0) 1 0 0), .c (.rd true 9 1 (m_string a0)), .c (.at (.int .i64 (p_int (p_len (m_string a0))))), .c (.at (.bool true)), .c (.at (.bool true)), .c (.at (.int .i64 v1)), .c (.ptr (0, 0, 1) 1 0 0), .c (.rd true 9 1 (m_string a1)), .c (.at (.int .i64 (p_int (p_len (m_string a1))))), .c (.at (.bool false)), .c (.at (.bool false)), dd, dd, dd, dd, dd, dd, dd, dd, dd, dd, dd, dd, dd, dd, dd, dd, dd, dd, dd, dd, dd, dd, dd, dd, dd, dd, dd, dd, dd, dd, dd, dd], [((0, 0, 1), ⟨false, true, 41, 1, [[.rd true 9 1 (m_string a1)]]⟩), ((0, 0, 0), ⟨false, true, 41, 1, [[.rd true 9 1 (m_string a0)]]⟩)], 2⟩ | .inr (.inl v1) => K (.exit 0) ⟨[dd, dd, .c (.ptr (0, 0, 0) 1 0 0), .c (.ptr (0, 0, 1) 1 0 0), dd, .c (.at (.int .i64 v1)), dd, .c (.at (.int .i64 v1)), .c (.ptr (0, 0, 0) 1 0 0), .c (.rd true 9 1 (m_string a0)), .c (.at (.int .i64 (p_int (p_len (m_string a0))))), .c (.at (.bool false)), .c (.at (.bool false)), .c (.at undef), .c (.at undef), .c (.at undef), .c (.at undef), .c (.at undef), .c (.at (.bool false)), dd, dd, dd, dd, dd, dd, dd, dd, dd, dd, dd, dd, dd, dd, dd, dd, dd, dd, dd, dd, dd, dd, dd, dd, dd, dd, dd, dd, dd, dd, dd, dd], [((0, 0, 1), ⟨false, true, 41, 1, [[.rd true 9 1 (m_string a1)]]⟩), ((0, 0, 0), ⟨false, true, 41, 1, [[.rd true 9 1 (m_string a0)]]⟩)], 2⟩ | .inr (.inr (r)) => some [.v (.at (.int .i64 r))]) ?_ 0 _ (rfl)).trans (cL ?_)
  · rintro K1 hr1 v1 R1
    rw [s_spec_CompareNames_l1, ← hp, ← hm_string]
    dsimp only
    conv => lhs; cbv
    refine cD (fun hb2 => ?_) fun hb2 => ?_
    · rw [hb2]
      conv => lhs; cbv
      try rfl
    rw [hb2]
    conv => lhs; cbv
    refine cD (fun hb3 => ?_) fun hb3 => ?_
    · rw [hb3]
      conv => lhs; cbv
      try rfl
    rw [hb3]
    conv => lhs; cbv
    rw [nth_string]
    refine cO (fun hx5 => ?_) ?_
    · rw [hx5]; try rfl
    rintro x4 hx5
    rw [hx5]
    conv => lhs; cbv
    rw [nth_string]
    refine cO (fun hx7 => ?_) ?_
    · rw [hx7]; try rfl
    rintro x6 hx7
    rw [hx7]
    conv => lhs; cbv
    rw [f_spec_l4Cmp x4 x6]
    refine cO (fun hx9 => ?_) ?_
    · rw [hx9]; try rfl
    rintro r8 hx9
    rw [hx9]
    conv => lhs; cbv
    refine cD (fun hb10 => ?_) fun hb10 => ?_
    · rw [hb10]
      conv => lhs; cbv
      try rfl
    rw [hb10]
    conv => lhs; cbv
    rw [hr1]
    conv => lhs; cbv
    try rfl
  rintro (w11 | w14 | w17)
  · conv => lhs; cbv
    refine cC (fun hb12 => ?_) fun hb12 => ?_
    · rw [hb12]
      conv => lhs; cbv
      try rfl
    rw [hb12]
    conv => lhs; cbv
    refine cC (fun hb13 => ?_) fun hb13 => ?_
    · rw [hb13]
      conv => lhs; cbv
      try rfl
    rw [hb13]
    conv => lhs; cbv
    try rfl
  · conv => lhs; cbv
    refine cC (fun hb15 => ?_) fun hb15 => ?_
    · rw [hb15]
      conv => lhs; cbv
      try rfl
    rw [hb15]
    conv => lhs; cbv
    refine cC (fun hb16 => ?_) fun hb16 => ?_
    · rw [hb16]
      conv => lhs; cbv
      try rfl
    rw [hb16]
    conv => lhs; cbv
    try rfl
  rfl
end
end Go.Proofs.YtlbmlgnckclenaaGreatDoor
