/- The code computes these plain functions. Printed by genshal.py. -/
import Derived.Test.YtgkbhlncehgalaaGreatDoorSd
namespace Go.Proofs.YtgkbhlncehgalaaGreatDoor
open Go.RowKit
set_option linter.unusedVariables false
set_option linter.unusedSimpArgs false
set_option maxRecDepth 100000
noncomputable section
set_option maxHeartbeats 40000000

theorem e_s_laws_szStringS (F : Fns) : Hs_s_laws_szStringS (EvF F Tryz.f22 (fun id => if id = 5 then [0, 1, 5] else [])) := by
  intro a0 a1
  unfold EvF
  obtain ⟨p, hp⟩ := gn prims
  obtain ⟨m_string, hm_string⟩ := gn (List.map eS)
  rw [← hp, ← hm_string]
  obtain ⟨p_arith, p_cmp, _, _, _, _, p_ssize, _, _, _, _, _, _, _, _, p_len, p_int, p_nth, _⟩ := p
  have nth_string := @nthF_string
  simp only [← hp, ← hm_string] at nth_string
  generalize hal : alp = al
  rw [s_laws_szStringS, ← hp, ← hm_string]
  dsimp only
  conv => lhs; cbv
  refine cC (fun hb1 => ?_) fun hb1 => ?_
  · rw [hb1]
    conv => lhs; cbv
    try rfl
  rw [hb1]
  conv => lhs; cbv
  refine (loop_al hal (fun x => match x with | (v2, v3) => ⟨[.c (.rd true 9 1 (m_string a0)), .c (.at (.int .i64 v2)), dd, dd, dd, .c (.at (.int .i64 v3)), dd, dd, dd, dd, dd, dd, dd, dd, dd, dd, dd, dd, dd, dd, dd, dd, dd, dd, dd, dd, dd, dd], [], 1⟩) (s_laws_szStringS_l1 a0) (fun K g => match g with | .inl (v2, v3) => K (.exit 0) ⟨[.c (.rd true 9 1 (m_string a0)), .c (.at (.int .i64 v2)), dd, dd, dd, .c (.at (.int .i64 v3)), dd, dd, dd, dd, dd, dd, .c (.at (.int .i64 v3)), .c (.rd true 9 1 (m_string a0)), .c (.at (.int .i64 (p_int (p_len (m_string a0))))), .c (.at (.bool false)), dd, dd, dd, dd, dd, dd, dd, dd, dd, dd, dd, dd], [], 2⟩ | .inr (r) => some [.v (.at (.int .i64 r))]) ?_ (p_arith .sub .i64 a1 (p_int (p_len (m_string a0))), 0) _ (rfl)).trans (cL ?_)
  · rintro K1 hr1 ⟨v2, v3⟩ R1
    rw [s_laws_szStringS_l1, ← hp, ← hm_string]
    dsimp only
    conv => lhs; cbv
    refine cD (fun hb4 => ?_) fun hb4 => ?_
    · rw [hb4]
      conv => lhs; cbv
      try rfl
    rw [hb4]
    conv => lhs; cbv
    rw [nth_string]
    refine cO (fun hx6 => ?_) ?_
    · rw [hx6]; try rfl
    rintro x5 hx6
    rw [hx6]
    conv => lhs; cbv
    refine cD (fun hb7 => ?_) fun hb7 => ?_
    · rw [hb7]
      conv => lhs; cbv
      try rfl
    rw [hb7]
    conv => lhs; cbv
    rw [hr1]
    conv => lhs; cbv
    try rfl
  rintro (⟨w8, w9⟩ | w10)
  · conv => lhs; cbv
    try rfl
  rfl
theorem e_s_laws_szName (F : Fns) (f_laws_szStringS : Hs_s_laws_szStringS (F 22)) : Hs_s_laws_szName (EvF F Tryz.f5 (fun _ => [])) := by
  intro a0 a1
  unfold EvF
  obtain ⟨p, hp⟩ := gn prims
  obtain ⟨m_string, hm_string⟩ := gn (List.map eS)
  rw [← hp, ← hm_string]
  obtain ⟨_, p_cmp, _⟩ := p
  simp only [Hs_s_laws_szStringS, ← hm_string] at f_laws_szStringS
  rw [s_laws_szName, ← hp]
  dsimp only
  conv => lhs; cbv
  rw [f_laws_szStringS a0 a1]
  refine cO (fun hx2 => ?_) ?_
  · rw [hx2]; try rfl
  rintro r1 hx2
  rw [hx2]
  conv => lhs; cbv
  refine cC (fun hb3 => ?_) fun hb3 => ?_
  · rw [hb3]
    conv => lhs; cbv
    try rfl
  rw [hb3]
  conv => lhs; cbv
  try rfl
theorem e_s_laws_szKey (F : Fns) (f_laws_szName : Hs_s_laws_szName (F 5)) : Hs_s_laws_szKey (EvF F Tryz.f44 (fun _ => [])) := by
  intro a0 a1
  unfold EvF
  obtain ⟨p, hp⟩ := gn prims
  obtain ⟨m_string, hm_string⟩ := gn (List.map eS)
  rw [← hp, ← hm_string]
  obtain ⟨_, p_cmp, _⟩ := p
  simp only [Hs_s_laws_szName, ← hm_string] at f_laws_szName
  rw [s_laws_szKey, ← hp]
  dsimp only
  conv => lhs; cbv
  rw [f_laws_szName a0.name a1]
  refine cO (fun hx2 => ?_) ?_
  · rw [hx2]; try rfl
  rintro r1 hx2
  rw [hx2]
  conv => lhs; cbv
  refine cC (fun hb3 => ?_) fun hb3 => ?_
  · rw [hb3]
    conv => lhs; cbv
    try rfl
  rw [hb3]
  conv => lhs; cbv
  try rfl
theorem e_s_laws_szKeyS (F : Fns) (f_laws_szKey : Hs_s_laws_szKey (F 44)) : Hs_s_laws_szKeyS (EvF F Tryz.f20 (fun id => if id = 5 then [0, 1, 5] else [])) := by
  intro a0 a1
  unfold EvF
  obtain ⟨p, hp⟩ := gn prims
  obtain ⟨m_Key, hm_Key⟩ := gn (List.map eKey)
  obtain ⟨m_string, hm_string⟩ := gn (List.map eS)
  rw [← hp, ← hm_Key]
  obtain ⟨p_arith, p_cmp, _, _, _, _, _, _, _, _, _, _, _, _, _, p_len, p_int, p_nth, _⟩ := p
  have nth_Key := @nthF_Key
  simp only [Hs_s_laws_szKey, ← hp, ← hm_Key, ← hm_string] at nth_Key f_laws_szKey
  generalize hal : alp = al
  rw [s_laws_szKeyS, ← hp, ← hm_Key]
  dsimp only
  conv => lhs; cbv
  refine cC (fun hb1 => ?_) fun hb1 => ?_
  · rw [hb1]
    conv => lhs; cbv
    try rfl
  rw [hb1]
  conv => lhs; cbv
  refine (loop_al hal (fun x => match x with | (v2, v3) => ⟨[.c (.rd true 95 2 (m_Key a0)), .c (.at (.int .i64 v2)), dd, dd, dd, .c (.at (.int .i64 v3)), dd, dd, dd, dd, dd, dd, dd, dd, dd, dd, dd, dd, dd, dd, dd, dd, dd, dd, dd, dd, dd], [], 1⟩) (s_laws_szKeyS_l1 a0) (fun K g => match g with | .inl (v2, v3) => K (.exit 0) ⟨[.c (.rd true 95 2 (m_Key a0)), .c (.at (.int .i64 v2)), dd, dd, dd, .c (.at (.int .i64 v3)), dd, dd, dd, dd, dd, dd, .c (.at (.int .i64 v3)), .c (.rd true 95 2 (m_Key a0)), .c (.at (.int .i64 (p_int (p_len (m_Key a0))))), .c (.at (.bool false)), dd, dd, dd, dd, dd, dd, dd, dd, dd, dd, dd], [], 2⟩ | .inr (r) => some [.v (.at (.int .i64 r))]) ?_ (p_arith .sub .i64 a1 (p_int (p_len (m_Key a0))), 0) _ (rfl)).trans (cL ?_)
  · rintro K1 hr1 ⟨v2, v3⟩ R1
    rw [s_laws_szKeyS_l1, ← hp, ← hm_Key]
    dsimp only
    conv => lhs; cbv
    refine cD (fun hb4 => ?_) fun hb4 => ?_
    · rw [hb4]
      conv => lhs; cbv
      try rfl
    rw [hb4]
    conv => lhs; cbv
    rw [nth_Key]
    refine cO (fun hx6 => ?_) ?_
    · rw [hx6]; try rfl
    rintro x5 hx6
    rw [hx6]
    conv => lhs; cbv
    rw [f_laws_szKey x5 v2]
    refine cO (fun hx8 => ?_) ?_
    · rw [hx8]; try rfl
    rintro r7 hx8
    rw [hx8]
    conv => lhs; cbv
    refine cD (fun hb9 => ?_) fun hb9 => ?_
    · rw [hb9]
      conv => lhs; cbv
      try rfl
    rw [hb9]
    conv => lhs; cbv
    rw [hr1]
    conv => lhs; cbv
    try rfl
  rintro (⟨w10, w11⟩ | w12)
  · conv => lhs; cbv
    try rfl
  rfl
theorem e_s_laws_szReader (F : Fns) (f_laws_szName : Hs_s_laws_szName (F 5)) : Hs_s_laws_szReader (EvF F Tryz.f45 (fun _ => [])) := by
  intro a0 a1
  unfold EvF
  obtain ⟨p, hp⟩ := gn prims
  obtain ⟨m_string, hm_string⟩ := gn (List.map eS)
  rw [← hp, ← hm_string]
  obtain ⟨_, p_cmp, _⟩ := p
  simp only [Hs_s_laws_szName, ← hm_string] at f_laws_szName
  rw [s_laws_szReader, ← hp]
  dsimp only
  conv => lhs; cbv
  rw [f_laws_szName a0.name a1]
  refine cO (fun hx2 => ?_) ?_
  · rw [hx2]; try rfl
  rintro r1 hx2
  rw [hx2]
  conv => lhs; cbv
  refine cC (fun hb3 => ?_) fun hb3 => ?_
  · rw [hb3]
    conv => lhs; cbv
    try rfl
  rw [hb3]
  conv => lhs; cbv
  try rfl
theorem e_s_laws_szReaderS (F : Fns) (f_laws_szReader : Hs_s_laws_szReader (F 45)) : Hs_s_laws_szReaderS (EvF F Tryz.f21 (fun id => if id = 5 then [0, 1, 5] else [])) := by
  intro a0 a1
  unfold EvF
  obtain ⟨p, hp⟩ := gn prims
  obtain ⟨m_Reader, hm_Reader⟩ := gn (List.map eReader)
  obtain ⟨m_string, hm_string⟩ := gn (List.map eS)
  rw [← hp, ← hm_Reader]
  obtain ⟨p_arith, p_cmp, _, _, _, _, _, _, _, _, _, _, _, _, _, p_len, p_int, p_nth, _⟩ := p
  have nth_Reader := @nthF_Reader
  simp only [Hs_s_laws_szReader, ← hp, ← hm_Reader, ← hm_string] at nth_Reader f_laws_szReader
  generalize hal : alp = al
  rw [s_laws_szReaderS, ← hp, ← hm_Reader]
  dsimp only
  conv => lhs; cbv
  refine cC (fun hb1 => ?_) fun hb1 => ?_
  · rw [hb1]
    conv => lhs; cbv
    try rfl
  rw [hb1]
  conv => lhs; cbv
  refine (loop_al hal (fun x => match x with | (v2, v3) => ⟨[.c (.rd true 83 3 (m_Reader a0)), .c (.at (.int .i64 v2)), dd, dd, dd, .c (.at (.int .i64 v3)), dd, dd, dd, dd, dd, dd, dd, dd, dd, dd, dd, dd, dd, dd, dd, dd, dd, dd, dd, dd, dd], [], 1⟩) (s_laws_szReaderS_l1 a0) (fun K g => match g with | .inl (v2, v3) => K (.exit 0) ⟨[.c (.rd true 83 3 (m_Reader a0)), .c (.at (.int .i64 v2)), dd, dd, dd, .c (.at (.int .i64 v3)), dd, dd, dd, dd, dd, dd, .c (.at (.int .i64 v3)), .c (.rd true 83 3 (m_Reader a0)), .c (.at (.int .i64 (p_int (p_len (m_Reader a0))))), .c (.at (.bool false)), dd, dd, dd, dd, dd, dd, dd, dd, dd, dd, dd], [], 2⟩ | .inr (r) => some [.v (.at (.int .i64 r))]) ?_ (p_arith .sub .i64 a1 (p_int (p_len (m_Reader a0))), 0) _ (rfl)).trans (cL ?_)
  · rintro K1 hr1 ⟨v2, v3⟩ R1
    rw [s_laws_szReaderS_l1, ← hp, ← hm_Reader]
    dsimp only
    conv => lhs; cbv
    refine cD (fun hb4 => ?_) fun hb4 => ?_
    · rw [hb4]
      conv => lhs; cbv
      try rfl
    rw [hb4]
    conv => lhs; cbv
    rw [nth_Reader]
    refine cO (fun hx6 => ?_) ?_
    · rw [hx6]; try rfl
    rintro x5 hx6
    rw [hx6]
    conv => lhs; cbv
    rw [f_laws_szReader x5 v2]
    refine cO (fun hx8 => ?_) ?_
    · rw [hx8]; try rfl
    rintro r7 hx8
    rw [hx8]
    conv => lhs; cbv
    refine cD (fun hb9 => ?_) fun hb9 => ?_
    · rw [hb9]
      conv => lhs; cbv
      try rfl
    rw [hb9]
    conv => lhs; cbv
    rw [hr1]
    conv => lhs; cbv
    try rfl
  rintro (⟨w10, w11⟩ | w12)
  · conv => lhs; cbv
    try rfl
  rfl
theorem e_s_laws_szAccessController (F : Fns) (f_laws_szKeyS : Hs_s_laws_szKeyS (F 20)) (f_laws_szReaderS : Hs_s_laws_szReaderS (F 21)) : Hs_s_laws_szAccessController (EvF F Tryz.f4 (fun _ => [])) := by
  intro a0 a1
  unfold EvF
  obtain ⟨p, hp⟩ := gn prims
  obtain ⟨m_Key, hm_Key⟩ := gn (List.map eKey)
  obtain ⟨m_Reader, hm_Reader⟩ := gn (List.map eReader)
  rw [← hp, ← hm_Key, ← hm_Reader]
  obtain ⟨_, p_cmp, _⟩ := p
  simp only [Hs_s_laws_szKeyS, Hs_s_laws_szReaderS, ← hm_Key, ← hm_Reader] at f_laws_szKeyS f_laws_szReaderS
  rw [s_laws_szAccessController, ← hp]
  dsimp only
  conv => lhs; cbv
  rw [f_laws_szKeyS a0.keys a1]
  refine cO (fun hx2 => ?_) ?_
  · rw [hx2]; try rfl
  rintro r1 hx2
  rw [hx2]
  conv => lhs; cbv
  refine cC (fun hb3 => ?_) fun hb3 => ?_
  · rw [hb3]
    conv => lhs; cbv
    try rfl
  rw [hb3]
  conv => lhs; cbv
  rw [f_laws_szReaderS a0.readers r1]
  refine cO (fun hx5 => ?_) ?_
  · rw [hx5]; try rfl
  rintro r4 hx5
  rw [hx5]
  conv => lhs; cbv
  refine cC (fun hb6 => ?_) fun hb6 => ?_
  · rw [hb6]
    conv => lhs; cbv
    try rfl
  rw [hb6]
  conv => lhs; cbv
  try rfl
theorem e_s_laws_toStringS (F : Fns) : Hs_s_laws_toStringS (EvF F Tryz.f30 (fun id => if id = 3 then [0, 3, 4] else [])) := by
  intro a0
  unfold EvF
  obtain ⟨p, hp⟩ := gn prims
  obtain ⟨m_string, hm_string⟩ := gn (List.map eS)
  rw [← hp, ← hm_string]
  obtain ⟨p_arith, p_cmp, _, _, _, _, _, _, _, _, _, _, _, _, _, p_len, p_int, p_nth, _, _, p_ridx, p_rnth, p_rset, _, _, _, p_full, _, _, p_own, p_opn, _, _, _, _, _, _, _, p_mkN, p_rep, _⟩ := p
  have full_string := full_gen eS
  have lset_string := lset_gen eS
  have mkn_string := @mknF_string
  have nth_string := @nthF_string
  have own_string := own_gen eS (fun _ => rfl)
  have rep_string := @repF_string
  have rnth_string := @rnthF_string
  have rset_string := @rsetF_string
  simp only [← hp, ← hm_string] at full_string lset_string mkn_string nth_string own_string rep_string rnth_string rset_string
  generalize hal : alp = al
  rw [s_laws_toStringS, ← hp, ← hm_string]
  dsimp only
  conv => lhs; cbv
  rw [mkn_string]
  refine cO (fun hx2 => ?_) ?_
  · rw [hx2]; try rfl
  rintro x1 hx2
  rw [hx2]
  conv => lhs; cbv
  rw [rep_string _ _ _ hx2]
  conv => lhs; cbv
  refine (loop_al hal (fun x => match x with | (v3, v4) => ⟨[.c (.rd true 9 1 (m_string a0)), dd, dd, .c (.row (0, 0, 0) 9 1 0 (p_len (m_string v4))), .c (.at (.int .i64 v3)), dd, dd, dd, dd, dd, dd, dd, dd, dd, dd, dd, dd, dd, dd, dd, dd, dd], [((0, 0, 0), ⟨true, false, 9, 1, p_opn (m_string v4)⟩)], 1⟩) (s_laws_toStringS_l1 a0) (fun K g => match g with | (v3, v4) => K (.exit 0) ⟨[.c (.rd true 9 1 (m_string a0)), dd, dd, .c (.row (0, 0, 0) 9 1 0 (p_len (m_string v4))), .c (.at (.int .i64 v3)), dd, dd, dd, .c (.at (.int .i64 v3)), .c (.rd true 9 1 (m_string a0)), .c (.at (.int .i64 (p_int (p_len (m_string a0))))), .c (.at (.bool false)), dd, dd, dd, dd, dd, dd, dd, dd, dd, dd], [((0, 0, 0), ⟨true, false, 9, 1, p_opn (m_string v4)⟩)], 2⟩) ?_ (0, x1) _ (rfl)).trans (cL ?_)
  · rintro K1 hr1 ⟨v3, v4⟩ R1
    rw [s_laws_toStringS_l1, ← hp, ← hm_string]
    dsimp only
    conv => lhs; cbv
    refine cD (fun hb5 => ?_) fun hb5 => ?_
    · rw [hb5]
      conv => lhs; cbv
      try rfl
    rw [hb5]
    conv => lhs; cbv
    rw [nth_string]
    refine cO (fun hx7 => ?_) ?_
    · rw [hx7]; try rfl
    rintro x6 hx7
    rw [hx7]
    conv => lhs; cbv
    refine cO (fun hx9 => ?_) ?_
    · rw [hx9]; try rfl
    rintro x8 hx9
    rw [hx9]
    conv => lhs; cbv
    rw [rnth_string]
    refine cO (fun hx11 => ?_) ?_
    · rw [hx11]; try rfl
    rintro x10 hx11
    rw [hx11]
    conv => lhs; cbv
    rw [rset_string]
    try conv => lhs; rw [← lset_string v4 x8 x6]
    conv => lhs; cbv
    try rfl
  rintro ⟨w12, w13⟩
  conv => lhs; cbv
  rw [if_pos (full_string _)]
  conv => lhs; cbv
  rw [own_string]
  conv => lhs; cbv
  try rfl
theorem e_s_laws_toName (F : Fns) (f_laws_toStringS : Hs_s_laws_toStringS (F 30)) : Hs_s_laws_toName (EvF F Tryz.f8 (fun _ => [])) := by
  intro a0
  unfold EvF
  obtain ⟨p, hp⟩ := gn prims
  obtain ⟨m_string, hm_string⟩ := gn (List.map eS)
  rw [← hp, ← hm_string]
  obtain ⟨_, _, _, _, _, _, _, _, _, _, _, _, _, _, _, p_len, _, _, _, _, _, _, _, _, _, _, p_full, _, _, p_own, p_opn, _⟩ := p
  have full_string := full_gen eS
  have own_string := own_gen eS (fun _ => rfl)
  simp only [Hs_s_laws_toStringS, ← hp, ← hm_string] at full_string own_string f_laws_toStringS
  rw [s_laws_toName]
  conv => lhs; cbv
  rw [f_laws_toStringS a0]
  refine cO (fun hx2 => ?_) ?_
  · rw [hx2]; try rfl
  rintro r1 hx2
  rw [hx2]
  conv => lhs; cbv
  rw [if_pos (full_string _)]
  conv => lhs; cbv
  rw [own_string]
  conv => lhs; cbv
  try rfl
theorem e_s_laws_toKey (F : Fns) (f_laws_toName : Hs_s_laws_toName (F 8)) : Hs_s_laws_toKey (EvF F Tryz.f61 (fun _ => [])) := by
  intro a0
  unfold EvF
  obtain ⟨p, hp⟩ := gn prims
  obtain ⟨m_string, hm_string⟩ := gn (List.map eS)
  rw [← hp, ← hm_string]
  obtain ⟨_, _, _, _, _, _, _, _, _, _, _, _, _, _, _, p_len, _, _, _, _, _, _, _, _, _, _, p_full, _, _, p_own, p_opn, _⟩ := p
  have full_string := full_gen eS
  have own_string := own_gen eS (fun _ => rfl)
  simp only [Hs_s_laws_toName, ← hp, ← hm_string] at full_string own_string f_laws_toName
  rw [s_laws_toKey]
  conv => lhs; cbv
  rw [f_laws_toName a0.name]
  refine cO (fun hx2 => ?_) ?_
  · rw [hx2]; try rfl
  rintro r1 hx2
  rw [hx2]
  conv => lhs; cbv
  rw [if_pos (full_string _)]
  conv => lhs; cbv
  rw [own_string]
  conv => lhs; cbv
  try rfl
theorem e_s_laws_toKeyS (F : Fns) (f_laws_toKey : Hs_s_laws_toKey (F 61)) : Hs_s_laws_toKeyS (EvF F Tryz.f28 (fun id => if id = 3 then [0, 3, 4] else [])) := by
  intro a0
  unfold EvF
  obtain ⟨p, hp⟩ := gn prims
  obtain ⟨m_Key, hm_Key⟩ := gn (List.map eKey)
  obtain ⟨m_string, hm_string⟩ := gn (List.map eS)
  rw [← hp, ← hm_Key]
  obtain ⟨p_arith, p_cmp, _, _, _, _, _, _, _, _, _, _, _, _, _, p_len, p_int, p_nth, _, _, p_ridx, p_rnth, p_rset, _, _, _, p_full, _, _, p_own, p_opn, _, _, _, _, _, _, _, p_mkN, p_rep, _⟩ := p
  have full_Key := full_gen eKey
  have full_string := full_gen eS
  have lset_Key := lset_gen eKey
  have mkn_Key := @mknF_Key
  have nth_Key := @nthF_Key
  have own_Key := own_gen eKey (fun _ => rfl)
  have own_string := own_gen eS (fun _ => rfl)
  have rep_Key := @repF_Key
  have rnth_Key := @rnthF_Key
  have rset_Key := @rsetF_Key
  simp only [Hs_s_laws_toKey, ← hp, ← hm_Key, ← hm_string] at full_Key full_string lset_Key mkn_Key nth_Key own_Key own_string rep_Key rnth_Key rset_Key f_laws_toKey
  generalize hal : alp = al
  rw [s_laws_toKeyS, ← hp, ← hm_Key]
  dsimp only
  conv => lhs; cbv
  rw [mkn_Key]
  refine cO (fun hx2 => ?_) ?_
  · rw [hx2]; try rfl
  rintro x1 hx2
  rw [hx2]
  conv => lhs; cbv
  rw [rep_Key _ _ _ hx2]
  conv => lhs; cbv
  refine (loop_al hal (fun x => match x with | (v3, v4) => ⟨[.c (.rd true 95 2 (m_Key a0)), dd, dd, .c (.row (0, 0, 0) 95 2 0 (p_len (m_Key v4))), .c (.at (.int .i64 v3)), dd, dd, dd, dd, dd, dd, dd, dd, dd, dd, dd, dd, dd, dd, dd, dd, dd, dd], [((0, 0, 0), ⟨true, false, 95, 2, p_opn (m_Key v4)⟩)], 1⟩) (s_laws_toKeyS_l1 a0) (fun K g => match g with | (v3, v4) => K (.exit 0) ⟨[.c (.rd true 95 2 (m_Key a0)), dd, dd, .c (.row (0, 0, 0) 95 2 0 (p_len (m_Key v4))), .c (.at (.int .i64 v3)), dd, dd, dd, .c (.at (.int .i64 v3)), .c (.rd true 95 2 (m_Key a0)), .c (.at (.int .i64 (p_int (p_len (m_Key a0))))), .c (.at (.bool false)), dd, dd, dd, dd, dd, dd, dd, dd, dd, dd, dd], [((0, 0, 0), ⟨true, false, 95, 2, p_opn (m_Key v4)⟩)], 2⟩) ?_ (0, x1) _ (rfl)).trans (cL ?_)
  · rintro K1 hr1 ⟨v3, v4⟩ R1
    rw [s_laws_toKeyS_l1, ← hp, ← hm_Key]
    dsimp only
    conv => lhs; cbv
    refine cD (fun hb5 => ?_) fun hb5 => ?_
    · rw [hb5]
      conv => lhs; cbv
      try rfl
    rw [hb5]
    conv => lhs; cbv
    rw [nth_Key]
    refine cO (fun hx7 => ?_) ?_
    · rw [hx7]; try rfl
    rintro x6 hx7
    rw [hx7]
    conv => lhs; cbv
    rw [f_laws_toKey x6]
    refine cO (fun hx9 => ?_) ?_
    · rw [hx9]; try rfl
    rintro r8 hx9
    rw [hx9]
    conv => lhs; cbv
    refine cO (fun hx11 => ?_) ?_
    · rw [hx11]; try rfl
    rintro x10 hx11
    rw [hx11]
    conv => lhs; cbv
    rw [rnth_Key]
    refine cO (fun hx13 => ?_) ?_
    · rw [hx13]; try rfl
    rintro x12 hx13
    rw [hx13]
    conv => lhs; cbv
    rw [if_pos (full_string _)]
    conv => lhs; cbv
    rw [own_string]
    conv => lhs; cbv
    rw [rset_Key]
    try conv => lhs; rw [← lset_Key v4 x10 r8]
    conv => lhs; cbv
    try rfl
  rintro ⟨w14, w15⟩
  conv => lhs; cbv
  rw [if_pos (full_Key _)]
  conv => lhs; cbv
  rw [own_Key]
  conv => lhs; cbv
  try rfl
theorem e_s_laws_toReader (F : Fns) (f_laws_toName : Hs_s_laws_toName (F 8)) : Hs_s_laws_toReader (EvF F Tryz.f62 (fun _ => [])) := by
  intro a0
  unfold EvF
  obtain ⟨p, hp⟩ := gn prims
  obtain ⟨m_string, hm_string⟩ := gn (List.map eS)
  rw [← hp, ← hm_string]
  obtain ⟨_, _, _, _, _, _, _, _, _, _, _, _, _, _, _, p_len, _, _, _, _, _, _, _, _, _, _, p_full, _, _, p_own, p_opn, _⟩ := p
  have full_string := full_gen eS
  have own_string := own_gen eS (fun _ => rfl)
  simp only [Hs_s_laws_toName, ← hp, ← hm_string] at full_string own_string f_laws_toName
  rw [s_laws_toReader]
  conv => lhs; cbv
  rw [f_laws_toName a0.name]
  refine cO (fun hx2 => ?_) ?_
  · rw [hx2]; try rfl
  rintro r1 hx2
  rw [hx2]
  conv => lhs; cbv
  rw [if_pos (full_string _)]
  conv => lhs; cbv
  rw [own_string]
  conv => lhs; cbv
  try rfl
theorem e_s_laws_toReaderS (F : Fns) (f_laws_toReader : Hs_s_laws_toReader (F 62)) : Hs_s_laws_toReaderS (EvF F Tryz.f29 (fun id => if id = 3 then [0, 3, 4] else [])) := by
  intro a0
  unfold EvF
  obtain ⟨p, hp⟩ := gn prims
  obtain ⟨m_Reader, hm_Reader⟩ := gn (List.map eReader)
  obtain ⟨m_string, hm_string⟩ := gn (List.map eS)
  rw [← hp, ← hm_Reader]
  obtain ⟨p_arith, p_cmp, _, _, _, _, _, _, _, _, _, _, _, _, _, p_len, p_int, p_nth, _, _, p_ridx, p_rnth, p_rset, _, _, _, p_full, _, _, p_own, p_opn, _, _, _, _, _, _, _, p_mkN, p_rep, _⟩ := p
  have full_Reader := full_gen eReader
  have full_string := full_gen eS
  have lset_Reader := lset_gen eReader
  have mkn_Reader := @mknF_Reader
  have nth_Reader := @nthF_Reader
  have own_Reader := own_gen eReader (fun _ => rfl)
  have own_string := own_gen eS (fun _ => rfl)
  have rep_Reader := @repF_Reader
  have rnth_Reader := @rnthF_Reader
  have rset_Reader := @rsetF_Reader
  simp only [Hs_s_laws_toReader, ← hp, ← hm_Reader, ← hm_string] at full_Reader full_string lset_Reader mkn_Reader nth_Reader own_Reader own_string rep_Reader rnth_Reader rset_Reader f_laws_toReader
  generalize hal : alp = al
  rw [s_laws_toReaderS, ← hp, ← hm_Reader]
  dsimp only
  conv => lhs; cbv
  rw [mkn_Reader]
  refine cO (fun hx2 => ?_) ?_
  · rw [hx2]; try rfl
  rintro x1 hx2
  rw [hx2]
  conv => lhs; cbv
  rw [rep_Reader _ _ _ hx2]
  conv => lhs; cbv
  refine (loop_al hal (fun x => match x with | (v3, v4) => ⟨[.c (.rd true 83 3 (m_Reader a0)), dd, dd, .c (.row (0, 0, 0) 83 3 0 (p_len (m_Reader v4))), .c (.at (.int .i64 v3)), dd, dd, dd, dd, dd, dd, dd, dd, dd, dd, dd, dd, dd, dd, dd, dd, dd, dd], [((0, 0, 0), ⟨true, false, 83, 3, p_opn (m_Reader v4)⟩)], 1⟩) (s_laws_toReaderS_l1 a0) (fun K g => match g with | (v3, v4) => K (.exit 0) ⟨[.c (.rd true 83 3 (m_Reader a0)), dd, dd, .c (.row (0, 0, 0) 83 3 0 (p_len (m_Reader v4))), .c (.at (.int .i64 v3)), dd, dd, dd, .c (.at (.int .i64 v3)), .c (.rd true 83 3 (m_Reader a0)), .c (.at (.int .i64 (p_int (p_len (m_Reader a0))))), .c (.at (.bool false)), dd, dd, dd, dd, dd, dd, dd, dd, dd, dd, dd], [((0, 0, 0), ⟨true, false, 83, 3, p_opn (m_Reader v4)⟩)], 2⟩) ?_ (0, x1) _ (rfl)).trans (cL ?_)
  · rintro K1 hr1 ⟨v3, v4⟩ R1
    rw [s_laws_toReaderS_l1, ← hp, ← hm_Reader]
    dsimp only
    conv => lhs; cbv
    refine cD (fun hb5 => ?_) fun hb5 => ?_
    · rw [hb5]
      conv => lhs; cbv
      try rfl
    rw [hb5]
    conv => lhs; cbv
    rw [nth_Reader]
    refine cO (fun hx7 => ?_) ?_
    · rw [hx7]; try rfl
    rintro x6 hx7
    rw [hx7]
    conv => lhs; cbv
    rw [f_laws_toReader x6]
    refine cO (fun hx9 => ?_) ?_
    · rw [hx9]; try rfl
    rintro r8 hx9
    rw [hx9]
    conv => lhs; cbv
    refine cO (fun hx11 => ?_) ?_
    · rw [hx11]; try rfl
    rintro x10 hx11
    rw [hx11]
    conv => lhs; cbv
    rw [rnth_Reader]
    refine cO (fun hx13 => ?_) ?_
    · rw [hx13]; try rfl
    rintro x12 hx13
    rw [hx13]
    conv => lhs; cbv
    rw [if_pos (full_string _)]
    conv => lhs; cbv
    rw [own_string]
    conv => lhs; cbv
    rw [rset_Reader]
    try conv => lhs; rw [← lset_Reader v4 x10 r8]
    conv => lhs; cbv
    try rfl
  rintro ⟨w14, w15⟩
  conv => lhs; cbv
  rw [if_pos (full_Reader _)]
  conv => lhs; cbv
  rw [own_Reader]
  conv => lhs; cbv
  try rfl
theorem e_s_laws_toAccessController (F : Fns) (f_laws_toKeyS : Hs_s_laws_toKeyS (F 28)) (f_laws_toReaderS : Hs_s_laws_toReaderS (F 29)) : Hs_s_laws_toAccessController (EvF F Tryz.f7 (fun _ => [])) := by
  intro a0
  unfold EvF
  obtain ⟨p, hp⟩ := gn prims
  obtain ⟨m_Key, hm_Key⟩ := gn (List.map eKey)
  obtain ⟨m_Reader, hm_Reader⟩ := gn (List.map eReader)
  rw [← hp, ← hm_Key, ← hm_Reader]
  obtain ⟨_, _, _, _, _, _, _, _, _, _, _, _, _, _, _, p_len, _, _, _, _, _, _, _, _, _, _, p_full, _, _, p_own, p_opn, _⟩ := p
  have full_Key := full_gen eKey
  have full_Reader := full_gen eReader
  have own_Key := own_gen eKey (fun _ => rfl)
  have own_Reader := own_gen eReader (fun _ => rfl)
  simp only [Hs_s_laws_toKeyS, Hs_s_laws_toReaderS, ← hp, ← hm_Key, ← hm_Reader] at full_Key full_Reader own_Key own_Reader f_laws_toKeyS f_laws_toReaderS
  rw [s_laws_toAccessController]
  conv => lhs; cbv
  rw [f_laws_toKeyS a0.keys]
  refine cO (fun hx2 => ?_) ?_
  · rw [hx2]; try rfl
  rintro r1 hx2
  rw [hx2]
  conv => lhs; cbv
  rw [f_laws_toReaderS a0.readers]
  refine cO (fun hx4 => ?_) ?_
  · rw [hx4]; try rfl
  rintro r3 hx4
  rw [hx4]
  conv => lhs; cbv
  rw [if_pos (full_Key _)]
  conv => lhs; cbv
  rw [own_Key]
  conv => lhs; cbv
  rw [if_pos (full_Reader _)]
  conv => lhs; cbv
  rw [own_Reader]
  conv => lhs; cbv
  try rfl
theorem e_s_laws_toByteS (F : Fns) : Hs_s_laws_toByteS (EvF F Tryz.f9 (fun id => if id = 3 then [0, 3, 4] else [])) := by
  intro a0
  unfold EvF
  obtain ⟨p, hp⟩ := gn prims
  obtain ⟨m_byte, hm_byte⟩ := gn (List.map eY)
  rw [← hp, ← hm_byte]
  obtain ⟨p_arith, p_cmp, _, _, _, _, _, _, _, _, _, _, _, _, _, p_len, p_int, p_nth, _, _, p_ridx, p_rnth, p_rset, _, _, _, p_full, _, _, p_own, p_opn, _, _, _, _, p_yI, _, _, p_mkN, p_rep, _⟩ := p
  have full_byte := full_gen eY
  have lset_byte := lset_gen eY
  have mkn_byte := @mknF_byte
  have nth_byte := @nthF_byte
  have own_byte := own_gen eY (fun _ => rfl)
  have rep_byte := @repF_byte
  have rnth_byte := @rnthF_byte
  have rset_byte := @rsetF_byte
  simp only [← hp, ← hm_byte] at full_byte lset_byte mkn_byte nth_byte own_byte rep_byte rnth_byte rset_byte
  generalize hal : alp = al
  rw [s_laws_toByteS, ← hp, ← hm_byte]
  dsimp only
  conv => lhs; cbv
  rw [mkn_byte]
  refine cO (fun hx2 => ?_) ?_
  · rw [hx2]; try rfl
  rintro x1 hx2
  rw [hx2]
  conv => lhs; cbv
  rw [rep_byte _ _ _ hx2]
  conv => lhs; cbv
  refine (loop_al hal (fun x => match x with | (v3, v4) => ⟨[.c (.rd true 5 1 (m_byte a0)), dd, dd, .c (.row (0, 0, 0) 5 1 0 (p_len (m_byte v4))), .c (.at (.int .i64 v3)), dd, dd, dd, dd, dd, dd, dd, dd, dd, dd, dd, dd, dd, dd, dd, dd, dd], [((0, 0, 0), ⟨true, false, 5, 1, p_opn (m_byte v4)⟩)], 1⟩) (s_laws_toByteS_l1 a0) (fun K g => match g with | (v3, v4) => K (.exit 0) ⟨[.c (.rd true 5 1 (m_byte a0)), dd, dd, .c (.row (0, 0, 0) 5 1 0 (p_len (m_byte v4))), .c (.at (.int .i64 v3)), dd, dd, dd, .c (.at (.int .i64 v3)), .c (.rd true 5 1 (m_byte a0)), .c (.at (.int .i64 (p_int (p_len (m_byte a0))))), .c (.at (.bool false)), dd, dd, dd, dd, dd, dd, dd, dd, dd, dd], [((0, 0, 0), ⟨true, false, 5, 1, p_opn (m_byte v4)⟩)], 2⟩) ?_ (0, x1) _ (rfl)).trans (cL ?_)
  · rintro K1 hr1 ⟨v3, v4⟩ R1
    rw [s_laws_toByteS_l1, ← hp, ← hm_byte]
    dsimp only
    conv => lhs; cbv
    refine cD (fun hb5 => ?_) fun hb5 => ?_
    · rw [hb5]
      conv => lhs; cbv
      try rfl
    rw [hb5]
    conv => lhs; cbv
    rw [nth_byte]
    refine cO (fun hx7 => ?_) ?_
    · rw [hx7]; try rfl
    rintro x6 hx7
    rw [hx7]
    conv => lhs; cbv
    refine cO (fun hx9 => ?_) ?_
    · rw [hx9]; try rfl
    rintro x8 hx9
    rw [hx9]
    conv => lhs; cbv
    rw [rnth_byte]
    refine cO (fun hx11 => ?_) ?_
    · rw [hx11]; try rfl
    rintro x10 hx11
    rw [hx11]
    conv => lhs; cbv
    rw [rset_byte]
    try conv => lhs; rw [← lset_byte v4 x8 x6]
    conv => lhs; cbv
    try rfl
  rintro ⟨w12, w13⟩
  conv => lhs; cbv
  rw [if_pos (full_byte _)]
  conv => lhs; cbv
  rw [own_byte]
  conv => lhs; cbv
  try rfl
theorem e_s_spec_FormatInt (F : Fns) : Hs_s_spec_FormatInt (EvF F Tryz.f47 (fun id => if id = 5 then [0, 3, 4] else [])) := by
  intro a0
  unfold EvF
  obtain ⟨p, hp⟩ := gn prims
  obtain ⟨m_byte, hm_byte⟩ := gn (List.map eY)
  rw [← hp]
  obtain ⟨p_arith, p_cmp, p_wrap, _, p_scat, p_catOk, _, _, _, _, p_str, _, _, _, _, _, _, _, _, _, _, _, _, _, _, _, _, _, _, _, _, _, _, _, _, p_yI, p_ofB, p_byW, _⟩ := p
  have mcons_byte := @mconsF_byte
  have nild_byte := @nildF_byte
  have str_byte := @strF_byte
  have wy_byte := @wyF_byte
  simp only [← hp, ← hm_byte] at mcons_byte nild_byte str_byte wy_byte
  generalize hal : alp = al
  rw [s_spec_FormatInt, ← hp]
  dsimp only
  conv => lhs; cbv
  refine cC (fun hb1 => ?_) fun hb1 => ?_
  · rw [hb1]
    conv => lhs; cbv
    try rfl
  rw [hb1]
  conv => lhs; cbv
  refine (loop_al hal (fun x => match x with | (v2, v3) => ⟨[.c (.at (.int .i64 a0)), dd, dd, .c (.at (.string v2)), .c (.at (.int .i64 v3)), dd, dd, dd, dd, dd, dd, dd, dd, dd, dd, dd, dd, dd, dd, dd, dd, dd, dd, dd, dd, dd, dd, dd, dd, dd, dd], [], 1⟩) (s_spec_FormatInt_l1) (fun K g => match g with | (v2, v3) => K (.exit 0) ⟨[.c (.at (.int .i64 a0)), dd, dd, .c (.at (.string v2)), .c (.at (.int .i64 v3)), dd, dd, dd, dd, .c (.at (.int .i64 v3)), .c (.at (.bool false)), dd, dd, dd, dd, dd, dd, dd, dd, dd, dd, dd, dd, dd, dd, dd, dd, dd, dd, dd, dd], [], 2⟩) ?_ ((ByteArray.mk (Array.mk [])), a0) _ (rfl)).trans (cL ?_)
  · rintro K1 hr1 ⟨v2, v3⟩ R1
    rw [s_spec_FormatInt_l1, ← hp]
    dsimp only
    conv => lhs; cbv
    refine cD (fun hb4 => ?_) fun hb4 => ?_
    · rw [hb4]
      conv => lhs; cbv
      try rfl
    rw [hb4]
    conv => lhs; cbv
    refine cC (fun hb5 => ?_) fun hb5 => ?_
    · rw [if_pos hb5]
      try rw [hb5]
      conv => lhs; cbv
      try rfl
    rw [if_neg (Bool.eq_false_iff.1 hb5)]
    try rw [hb5]
    conv => lhs; cbv
    refine cC (fun hb6 => ?_) fun hb6 => ?_
    · rw [hb6]
      conv => lhs; cbv
      rw [wy_byte]
      conv => lhs; cbv
      rw [← (show (m_byte [(p_byW (p_arith .add .i64 48 (p_arith .sub .i64 0 (p_arith .rem .i64 v3 10))))]) = [[DT.at (.int .u8 (p_yI (p_byW (p_arith .add .i64 48 (p_arith .sub .i64 0 (p_arith .rem .i64 v3 10))))))]] by rw [mcons_byte, nild_byte])]
      rw [str_byte]
      conv => lhs; cbv
      refine cD (fun hb7 => ?_) fun hb7 => ?_
      · rw [if_neg (Bool.eq_false_iff.1 hb7)]
        try rw [hb7]
        conv => lhs; cbv
        try rfl
      rw [if_pos hb7]
      try rw [hb7]
      conv => lhs; cbv
      rw [if_neg (Bool.eq_false_iff.1 hb5)]
      conv => lhs; cbv
      try rfl
    rw [hb6]
    conv => lhs; cbv
    rw [wy_byte]
    conv => lhs; cbv
    rw [← (show (m_byte [(p_byW (p_arith .add .i64 48 (p_arith .rem .i64 v3 10)))]) = [[DT.at (.int .u8 (p_yI (p_byW (p_arith .add .i64 48 (p_arith .rem .i64 v3 10)))))]] by rw [mcons_byte, nild_byte])]
    rw [str_byte]
    conv => lhs; cbv
    refine cD (fun hb8 => ?_) fun hb8 => ?_
    · rw [if_neg (Bool.eq_false_iff.1 hb8)]
      try rw [hb8]
      conv => lhs; cbv
      try rfl
    rw [if_pos hb8]
    try rw [hb8]
    conv => lhs; cbv
    rw [if_neg (Bool.eq_false_iff.1 hb5)]
    conv => lhs; cbv
    try rfl
  rintro ⟨w9, w10⟩
  conv => lhs; cbv
  refine cD (fun hb11 => ?_) fun hb11 => ?_
  · rw [hb11]
    conv => lhs; cbv
    try rfl
  rw [hb11]
  conv => lhs; cbv
  refine cC (fun hb12 => ?_) fun hb12 => ?_
  · rw [if_pos hb12]
    try rw [hb12]
    conv => lhs; cbv
    try rfl
  rw [if_neg (Bool.eq_false_iff.1 hb12)]
  try rw [hb12]
  conv => lhs; cbv
  try rfl
theorem e_s_spec_l1In (F : Fns) : Hs_s_spec_l1In (EvF F Tryz.f50 (fun _ => [])) := by
  intro a0 a1 a2
  unfold EvF
  obtain ⟨p, hp⟩ := gn prims
  rw [← hp]
  obtain ⟨_, p_cmp, _⟩ := p
  rw [s_spec_l1In, ← hp]
  dsimp only
  conv => lhs; cbv
  refine cC (fun hb1 => ?_) fun hb1 => ?_
  · rw [hb1]
    conv => lhs; cbv
    try rfl
  rw [hb1]
  conv => lhs; cbv
  try rfl
theorem e_s_spec_ValidPart (F : Fns) (f_spec_l1In : Hs_s_spec_l1In (F 50)) : Hs_s_spec_ValidPart (EvF F Tryz.f102 (fun id => if id = 4 then [0, 3] else [])) := by
  intro a0
  unfold EvF
  obtain ⟨p, hp⟩ := gn prims
  rw [← hp]
  obtain ⟨p_arith, p_cmp, p_wrap, _, _, _, p_ssize, p_sat, _, _, _, p_bnot, _⟩ := p
  simp only [Hs_s_spec_l1In] at f_spec_l1In
  generalize hal : alp = al
  rw [s_spec_ValidPart, ← hp]
  dsimp only
  conv => lhs; cbv
  rw [f_spec_l1In (p_ssize a0) 1 8]
  refine cO (fun hx2 => ?_) ?_
  · rw [hx2]; try rfl
  rintro r1 hx2
  rw [hx2]
  conv => lhs; cbv
  refine cC (fun hb3 => ?_) fun hb3 => ?_
  · rw [hb3]
    conv => lhs; cbv
    try rfl
  rw [hb3]
  conv => lhs; cbv
  refine (loop_al hal (fun v4 => ⟨[.c (.at (.string a0)), dd, dd, .c (.at (.int .i64 v4)), dd, dd, dd, dd, dd, dd, dd, dd, dd, dd, dd, dd, dd, dd, dd, dd, dd, dd, dd, dd, dd, dd, dd, dd, dd, dd, dd], [], 1⟩) (s_spec_ValidPart_l1 a0) (fun K g => match g with | .inl v4 => K (.exit 0) ⟨[.c (.at (.string a0)), dd, dd, .c (.at (.int .i64 v4)), dd, dd, dd, dd, dd, .c (.at (.int .i64 v4)), .c (.at (.string a0)), .c (.at (.int .i64 (p_ssize a0))), .c (.at (.bool false)), dd, dd, dd, dd, dd, dd, dd, dd, dd, dd, dd, dd, dd, dd, dd, dd, dd, dd], [], 2⟩ | .inr (r) => some [.v (.at (.bool r))]) ?_ 0 _ (rfl)).trans (cL ?_)
  · rintro K1 hr1 v4 R1
    rw [s_spec_ValidPart_l1, ← hp]
    dsimp only
    conv => lhs; cbv
    refine cD (fun hb5 => ?_) fun hb5 => ?_
    · rw [hb5]
      conv => lhs; cbv
      try rfl
    rw [hb5]
    conv => lhs; cbv
    refine cO (fun hx7 => ?_) ?_
    · rw [hx7]; try rfl
    rintro x6 hx7
    rw [hx7]
    conv => lhs; cbv
    rw [f_spec_l1In (p_wrap .i64 x6) 97 122]
    refine cO (fun hx9 => ?_) ?_
    · rw [hx9]; try rfl
    rintro r8 hx9
    rw [hx9]
    conv => lhs; cbv
    refine cD (fun hb10 => ?_) fun hb10 => ?_
    · rw [hb10]
      conv => lhs; cbv
      try rfl
    rw [hb10]
    conv => lhs; cbv
    rw [f_spec_l1In (p_wrap .i64 x6) 48 57]
    refine cO (fun hx12 => ?_) ?_
    · rw [hx12]; try rfl
    rintro r11 hx12
    rw [hx12]
    conv => lhs; cbv
    refine cD (fun hb13 => ?_) fun hb13 => ?_
    · rw [hb13]
      conv => lhs; cbv
      try rfl
    rw [hb13]
    conv => lhs; cbv
    refine cD (fun hb14 => ?_) fun hb14 => ?_
    · rw [hb14]
      conv => lhs; cbv
      try rfl
    rw [hb14]
    conv => lhs; cbv
    rw [hr1]
    conv => lhs; cbv
    try rfl
  rintro (w15 | w16)
  · conv => lhs; cbv
    try rfl
  rfl
theorem e_s_spec_ValidName (F : Fns) (f_spec_ValidPart : Hs_s_spec_ValidPart (F 102)) : Hs_s_spec_ValidName (EvF F Tryz.f82 (fun id => if id = 2 then [1, 3] else [])) := by
  intro a0
  unfold EvF
  obtain ⟨p, hp⟩ := gn prims
  obtain ⟨m_string, hm_string⟩ := gn (List.map eS)
  rw [← hp, ← hm_string]
  obtain ⟨p_arith, p_cmp, _, _, _, _, _, _, _, _, _, p_bnot, _, _, _, p_len, p_int, p_nth, _⟩ := p
  have nth_string := @nthF_string
  simp only [Hs_s_spec_ValidPart, ← hp, ← hm_string] at nth_string f_spec_ValidPart
  generalize hal : alp = al
  rw [s_spec_ValidName, ← hp, ← hm_string]
  dsimp only
  conv => lhs; cbv
  refine (loop_al hal (fun v1 => ⟨[dd, .c (.ptr (0, 0, 0) 1 0 0), dd, .c (.at (.int .i64 v1)), dd, dd, dd, dd, dd, dd, dd, dd, dd, dd, dd, dd, dd, dd, dd, dd, dd, dd], [((0, 0, 0), ⟨false, true, 32, 1, [[.rd true 9 1 (m_string a0)]]⟩)], 1⟩) (s_spec_ValidName_l1 a0) (fun K g => match g with | .inl v1 => K (.exit 0) ⟨[dd, .c (.ptr (0, 0, 0) 1 0 0), dd, .c (.at (.int .i64 v1)), .c (.at (.int .i64 v1)), .c (.ptr (0, 0, 0) 1 0 0), .c (.rd true 9 1 (m_string a0)), .c (.at (.int .i64 (p_int (p_len (m_string a0))))), .c (.at (.bool false)), dd, dd, dd, dd, dd, dd, dd, dd, dd, dd, dd, dd, dd], [((0, 0, 0), ⟨false, true, 32, 1, [[.rd true 9 1 (m_string a0)]]⟩)], 2⟩ | .inr (r) => some [.v (.at (.bool r))]) ?_ 0 _ (rfl)).trans (cL ?_)
  · rintro K1 hr1 v1 R1
    rw [s_spec_ValidName_l1, ← hp, ← hm_string]
    dsimp only
    conv => lhs; cbv
    refine cD (fun hb2 => ?_) fun hb2 => ?_
    · rw [hb2]
      conv => lhs; cbv
      try rfl
    rw [hb2]
    conv => lhs; cbv
    rw [nth_string]
    refine cO (fun hx4 => ?_) ?_
    · rw [hx4]; try rfl
    rintro x3 hx4
    rw [hx4]
    conv => lhs; cbv
    rw [f_spec_ValidPart x3]
    refine cO (fun hx6 => ?_) ?_
    · rw [hx6]; try rfl
    rintro r5 hx6
    rw [hx6]
    conv => lhs; cbv
    refine cD (fun hb7 => ?_) fun hb7 => ?_
    · rw [hb7]
      conv => lhs; cbv
      try rfl
    rw [hb7]
    conv => lhs; cbv
    rw [hr1]
    conv => lhs; cbv
    try rfl
  rintro (w8 | w9)
  · conv => lhs; cbv
    try rfl
  rfl
theorem e_s_spec_l4Copy (F : Fns) : Hs_s_spec_l4Copy (EvF F Tryz.f83 (fun _ => [])) := by
  intro a0
  unfold EvF
  obtain ⟨p, hp⟩ := gn prims
  obtain ⟨m_string, hm_string⟩ := gn (List.map eS)
  rw [← hp, ← hm_string]
  obtain ⟨_, _, _, _, _, _, _, _, _, _, _, _, _, _, _, p_len, _, _, _, _, _, _, _, p_rapp, p_rlen, p_addN, p_full, p_fits, _, p_own, p_opn, p_lend, _⟩ := p
  have addn0_string := @addn0F_string
  have full_string := full_gen eS
  have lend_string := @lendF_string
  have own_string := own_gen eS (fun _ => rfl)
  have rapp0_string := @rapp0F_string
  simp only [← hp, ← hm_string] at addn0_string full_string lend_string own_string rapp0_string
  rw [s_spec_l4Copy, ← hp, ← hm_string]
  dsimp only
  conv => lhs; cbv
  rw [lend_string]
  conv => lhs; cbv
  refine cD (fun hb1 => ?_) fun hb1 => ?_
  · rw [if_neg (fun x => Bool.noConfusion (hb1.symm.trans x.1))]; try rfl
  rw [if_pos ⟨hb1, trivial⟩]
  conv => lhs; cbv
  rw [rapp0_string, addn0_string]
  conv => lhs; cbv
  rw [if_pos (full_string _)]
  conv => lhs; cbv
  rw [own_string]
  conv => lhs; cbv
  try rfl
theorem e_s_spec_AppendPart (F : Fns) (f_spec_ValidName : Hs_s_spec_ValidName (F 82)) (f_spec_l4Copy : Hs_s_spec_l4Copy (F 83)) : Hs_s_spec_AppendPart (EvF F Tryz.f46 (fun _ => [])) := by
  intro a0 a1
  unfold EvF
  obtain ⟨p, hp⟩ := gn prims
  obtain ⟨m_string, hm_string⟩ := gn (List.map eS)
  rw [← hp, ← hm_string]
  obtain ⟨_, _, _, _, _, _, _, _, _, _, _, p_bnot, _, _, _, p_len, _, _, _, _, _, _, _, p_rapp, p_rlen, p_addN, p_full, p_fits, p_frz, p_own, p_opn, p_lend, _⟩ := p
  have addn_string := addn_gen eS
  have addn0_string := @addn0F_string
  have frz_string := frz_gen eS (fun _ => rfl)
  have full_string := full_gen eS
  have lend_string := @lendF_string
  have lit_string := @litF_string
  have own_string := own_gen eS (fun _ => rfl)
  have rapp_string := rapp_gen eS
  have rapp0_string := @rapp0F_string
  simp only [Hs_s_spec_ValidName, Hs_s_spec_l4Copy, ← hp, ← hm_string] at addn_string addn0_string frz_string full_string lend_string lit_string own_string rapp_string rapp0_string f_spec_ValidName f_spec_l4Copy
  rw [s_spec_AppendPart, ← hp, ← hm_string]
  dsimp only
  conv => lhs; cbv
  rw [lend_string]
  conv => lhs; cbv
  refine cD (fun hb1 => ?_) fun hb1 => ?_
  · rw [if_neg (fun x => Bool.noConfusion (hb1.symm.trans x.1))]; try rfl
  rw [if_pos ⟨hb1, trivial⟩]
  conv => lhs; cbv
  rw [rapp0_string, addn0_string]
  conv => lhs; cbv
  rw [lit_string]
  refine cD (fun hb2 => ?_) fun hb2 => ?_
  · rw [if_neg (fun x => Bool.noConfusion (hb2.symm.trans x.2.1))]; try rfl
  rw [if_pos ⟨full_string _, hb2, trivial⟩]
  conv => lhs; cbv
  rw [rapp_string, addn_string]
  conv => lhs; cbv
  rw [frz_string]
  conv => lhs; cbv
  rw [f_spec_ValidName (a0 ++ [a1])]
  refine cO (fun hx4 => ?_) ?_
  · rw [hx4]; try rfl
  rintro r3 hx4
  rw [hx4]
  conv => lhs; cbv
  refine cD (fun hb5 => ?_) fun hb5 => ?_
  · rw [hb5]
    conv => lhs; cbv
    rw [if_pos (full_string _)]
    conv => lhs; cbv
    rw [own_string]
    conv => lhs; cbv
    try rfl
  rw [hb5]
  conv => lhs; cbv
  rw [f_spec_l4Copy a0]
  refine cO (fun hx7 => ?_) ?_
  · rw [hx7]; try rfl
  rintro r6 hx7
  rw [hx7]
  conv => lhs; cbv
  rw [if_pos (full_string _)]
  conv => lhs; cbv
  rw [own_string]
  conv => lhs; cbv
  try rfl
theorem e_s_spec_EpochName (F : Fns) (f_spec_FormatInt : Hs_s_spec_FormatInt (F 47)) (f_spec_AppendPart : Hs_s_spec_AppendPart (F 46)) : Hs_s_spec_EpochName (EvF F Tryz.f23 (fun _ => [])) := by
  intro a0 a1
  unfold EvF
  obtain ⟨p, hp⟩ := gn prims
  obtain ⟨m_Key, hm_Key⟩ := gn (List.map eKey)
  obtain ⟨m_Reader, hm_Reader⟩ := gn (List.map eReader)
  obtain ⟨m_string, hm_string⟩ := gn (List.map eS)
  rw [← hp, ← hm_Key, ← hm_Reader, ← hm_string]
  obtain ⟨_, _, _, _, p_scat, p_catOk, _, _, _, _, _, _, _, _, _, p_len, _, _, _, _, _, _, _, _, _, _, p_full, _, _, p_own, p_opn, _⟩ := p
  have full_string := full_gen eS
  have own_string := own_gen eS (fun _ => rfl)
  simp only [Hs_s_spec_FormatInt, Hs_s_spec_AppendPart, ← hp, ← hm_string] at full_string own_string f_spec_FormatInt f_spec_AppendPart
  rw [s_spec_EpochName, ← hp]
  dsimp only
  conv => lhs; cbv
  rw [f_spec_FormatInt a0.epoch]
  refine cO (fun hx2 => ?_) ?_
  · rw [hx2]; try rfl
  rintro r1 hx2
  rw [hx2]
  conv => lhs; cbv
  refine cD (fun hb3 => ?_) fun hb3 => ?_
  · rw [if_neg (Bool.eq_false_iff.1 hb3)]
    try rw [hb3]
    conv => lhs; cbv
    try rfl
  rw [if_pos hb3]
  try rw [hb3]
  conv => lhs; cbv
  rw [f_spec_AppendPart a1 (p_scat (ByteArray.mk (Array.mk [101])) r1)]
  refine cO (fun hx5 => ?_) ?_
  · rw [hx5]; try rfl
  rintro ⟨r4_0, r4_1⟩ hx5
  rw [hx5]
  conv => lhs; cbv
  rw [if_pos (full_string _)]
  conv => lhs; cbv
  rw [own_string]
  conv => lhs; cbv
  try rfl
theorem e_s_spec_ValidSecret (F : Fns) (f_spec_l1In : Hs_s_spec_l1In (F 50)) : Hs_s_spec_ValidSecret (EvF F Tryz.f49 (fun _ => [])) := by
  intro a0
  unfold EvF
  obtain ⟨p, hp⟩ := gn prims
  rw [← hp]
  simp only [Hs_s_spec_l1In] at f_spec_l1In
  rw [s_spec_ValidSecret]
  conv => lhs; cbv
  rw [f_spec_l1In a0 1 2147483646]
  refine cO (fun hx2 => ?_) ?_
  · rw [hx2]; try rfl
  rintro r1 hx2
  rw [hx2]
  conv => lhs; cbv
  try rfl
theorem e_s_spec_l4Cmp (F : Fns) : Hs_s_spec_l4Cmp (EvF F Tryz.f120 (fun _ => [])) := by
  intro a0 a1
  unfold EvF
  obtain ⟨p, hp⟩ := gn prims
  rw [← hp]
  obtain ⟨_, _, _, p_scmp, _⟩ := p
  rw [s_spec_l4Cmp, ← hp]
  dsimp only
  conv => lhs; cbv
  refine cC (fun hb1 => ?_) fun hb1 => ?_
  · rw [hb1]
    conv => lhs; cbv
    try rfl
  rw [hb1]
  conv => lhs; cbv
  refine cC (fun hb2 => ?_) fun hb2 => ?_
  · rw [hb2]
    conv => lhs; cbv
    try rfl
  rw [hb2]
  conv => lhs; cbv
  try rfl
theorem e_s_spec_CompareNames (F : Fns) (f_spec_l4Cmp : Hs_s_spec_l4Cmp (F 120)) : Hs_s_spec_CompareNames (EvF F Tryz.f115 (fun id => if id = 2 then [2, 3, 5] else [])) := by
  intro a0 a1
  unfold EvF
  obtain ⟨p, hp⟩ := gn prims
  obtain ⟨m_string, hm_string⟩ := gn (List.map eS)
  rw [← hp, ← hm_string]
  obtain ⟨p_arith, p_cmp, _, _, _, _, _, _, _, _, _, _, _, _, _, p_len, p_int, p_nth, _⟩ := p
  have nth_string := @nthF_string
  simp only [Hs_s_spec_l4Cmp, ← hp, ← hm_string] at nth_string f_spec_l4Cmp
  generalize hal : alp = al
  rw [s_spec_CompareNames, ← hp, ← hm_string]
  dsimp only
  conv => lhs; cbv
  refine (loop_al hal (fun v1 => ⟨[dd, dd, .c (.ptr (0, 0, 0) 1 0 0), .c (.ptr (0, 0, 1) 1 0 0), dd, .c (.at (.int .i64 v1)), dd, dd, dd, dd, dd, dd, dd, dd, dd, dd, dd, dd, dd, dd, dd, dd, dd, dd, dd, dd, dd, dd, dd, dd, dd, dd, dd, dd, dd, dd, dd, dd, dd, dd, dd, dd, dd, dd, dd, dd, dd, dd, dd, dd, dd], [((0, 0, 1), ⟨false, true, 32, 1, [[.rd true 9 1 (m_string a1)]]⟩), ((0, 0, 0), ⟨false, true, 32, 1, [[.rd true 9 1 (m_string a0)]]⟩)], 1⟩) (s_spec_CompareNames_l1 a0 a1) (fun K g => match g with | .inl v1 => K (.exit 0) ⟨[dd, dd, .c (.ptr (0, 0, 0) 1 0 0), .c (.ptr (0, 0, 1) 1 0 0), dd, .c (.at (.int .i64 v1)), dd, .c (.at (.int .i64 v1)), .c (.ptr (0, 0, 0) 1 0 0), .c (.rd true 9 1 (m_string a0)), .c (.at (.int .i64 (p_int (p_len (m_string a0))))), .c (.at (.bool true)), .c (.at (.bool true)), .c (.at (.int .i64 v1)), .c (.ptr (0, 0, 1) 1 0 0), .c (.rd true 9 1 (m_string a1)), .c (.at (.int .i64 (p_int (p_len (m_string a1))))), .c (.at (.bool false)), .c (.at (.bool false)), dd, dd, dd, dd, dd, dd, dd, dd, dd, dd, dd, dd, dd, dd, dd, dd, dd, dd, dd, dd, dd, dd, dd, dd, dd, dd, dd, dd, dd, dd, dd, dd], [((0, 0, 1), ⟨false, true, 32, 1, [[.rd true 9 1 (m_string a1)]]⟩), ((0, 0, 0), ⟨false, true, 32, 1, [[.rd true 9 1 (m_string a0)]]⟩)], 2⟩ | .inr (.inl v1) => K (.exit 0) ⟨[dd, dd, .c (.ptr (0, 0, 0) 1 0 0), .c (.ptr (0, 0, 1) 1 0 0), dd, .c (.at (.int .i64 v1)), dd, .c (.at (.int .i64 v1)), .c (.ptr (0, 0, 0) 1 0 0), .c (.rd true 9 1 (m_string a0)), .c (.at (.int .i64 (p_int (p_len (m_string a0))))), .c (.at (.bool false)), .c (.at (.bool false)), .c (.at undef), .c (.at undef), .c (.at undef), .c (.at undef), .c (.at undef), .c (.at (.bool false)), dd, dd, dd, dd, dd, dd, dd, dd, dd, dd, dd, dd, dd, dd, dd, dd, dd, dd, dd, dd, dd, dd, dd, dd, dd, dd, dd, dd, dd, dd, dd, dd], [((0, 0, 1), ⟨false, true, 32, 1, [[.rd true 9 1 (m_string a1)]]⟩), ((0, 0, 0), ⟨false, true, 32, 1, [[.rd true 9 1 (m_string a0)]]⟩)], 2⟩ | .inr (.inr (r)) => some [.v (.at (.int .i64 r))]) ?_ 0 _ (rfl)).trans (cL ?_)
  · rintro K1 hr1 v1 R1
    rw [s_spec_CompareNames_l1, ← hp, ← hm_string]
    dsimp only
    conv => lhs; cbv
    refine cD (fun hb2 => ?_) fun hb2 => ?_
    · rw [hb2]
      conv => lhs; cbv
      try rfl
    rw [hb2]
    conv => lhs; cbv
    refine cD (fun hb3 => ?_) fun hb3 => ?_
    · rw [hb3]
      conv => lhs; cbv
      try rfl
    rw [hb3]
    conv => lhs; cbv
    rw [nth_string]
    refine cO (fun hx5 => ?_) ?_
    · rw [hx5]; try rfl
    rintro x4 hx5
    rw [hx5]
    conv => lhs; cbv
    rw [nth_string]
    refine cO (fun hx7 => ?_) ?_
    · rw [hx7]; try rfl
    rintro x6 hx7
    rw [hx7]
    conv => lhs; cbv
    rw [f_spec_l4Cmp x4 x6]
    refine cO (fun hx9 => ?_) ?_
    · rw [hx9]; try rfl
    rintro r8 hx9
    rw [hx9]
    conv => lhs; cbv
    refine cD (fun hb10 => ?_) fun hb10 => ?_
    · rw [hb10]
      conv => lhs; cbv
      try rfl
    rw [hb10]
    conv => lhs; cbv
    rw [hr1]
    conv => lhs; cbv
    try rfl
  rintro (w11 | w14 | w17)
  · conv => lhs; cbv
    refine cC (fun hb12 => ?_) fun hb12 => ?_
    · rw [hb12]
      conv => lhs; cbv
      try rfl
    rw [hb12]
    conv => lhs; cbv
    refine cC (fun hb13 => ?_) fun hb13 => ?_
    · rw [hb13]
      conv => lhs; cbv
      try rfl
    rw [hb13]
    conv => lhs; cbv
    try rfl
  · conv => lhs; cbv
    refine cC (fun hb15 => ?_) fun hb15 => ?_
    · rw [hb15]
      conv => lhs; cbv
      try rfl
    rw [hb15]
    conv => lhs; cbv
    refine cC (fun hb16 => ?_) fun hb16 => ?_
    · rw [hb16]
      conv => lhs; cbv
      try rfl
    rw [hb16]
    conv => lhs; cbv
    try rfl
  rfl
theorem e_s_spec_EqualNames (F : Fns) (f_spec_CompareNames : Hs_s_spec_CompareNames (F 115)) : Hs_s_spec_EqualNames (EvF F Tryz.f103 (fun _ => [])) := by
  intro a0 a1
  unfold EvF
  obtain ⟨p, hp⟩ := gn prims
  obtain ⟨m_string, hm_string⟩ := gn (List.map eS)
  rw [← hp, ← hm_string]
  obtain ⟨_, p_cmp, _⟩ := p
  simp only [Hs_s_spec_CompareNames, ← hm_string] at f_spec_CompareNames
  rw [s_spec_EqualNames, ← hp]
  dsimp only
  conv => lhs; cbv
  rw [f_spec_CompareNames a0 a1]
  refine cO (fun hx2 => ?_) ?_
  · rw [hx2]; try rfl
  rintro r1 hx2
  rw [hx2]
  conv => lhs; cbv
  try rfl
theorem e_s_spec_l9Find (F : Fns) (f_spec_EqualNames : Hs_s_spec_EqualNames (F 103)) : Hs_s_spec_l9Find (EvF F Tryz.f84 (fun id => if id = 2 then [0, 3, 5] else [])) := by
  intro a0 a1
  unfold EvF
  obtain ⟨p, hp⟩ := gn prims
  obtain ⟨m_Key, hm_Key⟩ := gn (List.map eKey)
  obtain ⟨m_string, hm_string⟩ := gn (List.map eS)
  rw [← hp, ← hm_Key, ← hm_string]
  obtain ⟨p_arith, p_cmp, _, _, _, _, _, _, _, _, _, _, _, _, _, p_len, p_int, p_nth, _⟩ := p
  have nth_Key := @nthF_Key
  simp only [Hs_s_spec_EqualNames, ← hp, ← hm_Key, ← hm_string] at nth_Key f_spec_EqualNames
  generalize hal : alp = al
  rw [s_spec_l9Find]
  conv => lhs; cbv
  refine (loop_al hal (fun v1 => ⟨[.c (.rd true 95 2 (m_Key a0)), dd, dd, .c (.ptr (0, 0, 0) 1 0 0), dd, .c (.at (.int .i64 v1)), dd, dd, dd, dd, dd, dd, dd, dd, dd, dd, dd, dd, dd, dd], [((0, 0, 0), ⟨false, true, 32, 1, [[.rd true 9 1 (m_string a1)]]⟩)], 1⟩) (s_spec_l9Find_l1 a0 a1) (fun K g => match g with | .inl v1 => K (.exit 0) ⟨[.c (.rd true 95 2 (m_Key a0)), dd, dd, .c (.ptr (0, 0, 0) 1 0 0), dd, .c (.at (.int .i64 v1)), .c (.at (.int .i64 v1)), .c (.rd true 95 2 (m_Key a0)), .c (.at (.int .i64 (p_int (p_len (m_Key a0))))), .c (.at (.bool false)), dd, dd, dd, dd, dd, dd, dd, dd, dd, dd], [((0, 0, 0), ⟨false, true, 32, 1, [[.rd true 9 1 (m_string a1)]]⟩)], 2⟩ | .inr (r) => some [.v (.at (.int .i64 r))]) ?_ 0 _ (rfl)).trans (cL ?_)
  · rintro K1 hr1 v1 R1
    rw [s_spec_l9Find_l1, ← hp, ← hm_Key]
    dsimp only
    conv => lhs; cbv
    refine cD (fun hb2 => ?_) fun hb2 => ?_
    · rw [hb2]
      conv => lhs; cbv
      try rfl
    rw [hb2]
    conv => lhs; cbv
    rw [nth_Key]
    refine cO (fun hx4 => ?_) ?_
    · rw [hx4]; try rfl
    rintro x3 hx4
    rw [hx4]
    conv => lhs; cbv
    rw [f_spec_EqualNames x3.name a1]
    refine cO (fun hx6 => ?_) ?_
    · rw [hx6]; try rfl
    rintro r5 hx6
    rw [hx6]
    conv => lhs; cbv
    refine cD (fun hb7 => ?_) fun hb7 => ?_
    · rw [hb7]
      conv => lhs; cbv
      try rfl
    rw [hb7]
    conv => lhs; cbv
    rw [hr1]
    conv => lhs; cbv
    try rfl
  rintro (w8 | w9)
  · conv => lhs; cbv
    try rfl
  rfl
theorem e_s_spec_ValidKeys (F : Fns) (f_spec_ValidName : Hs_s_spec_ValidName (F 82)) (f_spec_ValidSecret : Hs_s_spec_ValidSecret (F 49)) (f_spec_l9Find : Hs_s_spec_l9Find (F 84)) : Hs_s_spec_ValidKeys (EvF F Tryz.f48 (fun id => if id = 7 then [0, 3, 4] else if id = 2 then [0, 3] else [])) := by
  intro a0
  unfold EvF
  obtain ⟨p, hp⟩ := gn prims
  obtain ⟨m_Key, hm_Key⟩ := gn (List.map eKey)
  obtain ⟨m_string, hm_string⟩ := gn (List.map eS)
  rw [← hp, ← hm_Key]
  obtain ⟨p_arith, p_cmp, _, _, _, _, _, _, _, _, _, p_bnot, _, _, _, p_len, p_int, p_nth, p_sub, _⟩ := p
  have nth_Key := @nthF_Key
  have sub_Key := @subF_Key
  simp only [Hs_s_spec_ValidName, Hs_s_spec_ValidSecret, Hs_s_spec_l9Find, ← hp, ← hm_Key, ← hm_string] at nth_Key sub_Key f_spec_ValidName f_spec_ValidSecret f_spec_l9Find
  generalize hal : alp = al
  rw [s_spec_ValidKeys, ← hp, ← hm_Key]
  dsimp only
  conv => lhs; cbv
  refine (loop_al hal (fun v1 => ⟨[.c (.rd true 95 2 (m_Key a0)), dd, dd, .c (.at (.int .i64 v1)), dd, dd, dd, dd, dd, dd, dd, dd, dd, dd, dd, dd, dd, dd, dd, dd, dd, dd, dd, dd, dd, dd, dd, dd, dd, dd, dd, dd, dd, dd, dd, dd, dd, dd, dd, dd, dd, dd, dd, dd, dd, dd, dd, dd, dd, dd, dd, dd, dd, dd, dd, dd, dd, dd, dd, dd, dd, dd, dd, dd, dd, dd, dd, dd], [], 1⟩) (s_spec_ValidKeys_l1 a0) (fun K g => match g with | .inl v1 => K (.exit 0) ⟨[.c (.rd true 95 2 (m_Key a0)), dd, dd, .c (.at (.int .i64 v1)), dd, .c (.at (.int .i64 v1)), .c (.rd true 95 2 (m_Key a0)), .c (.at (.int .i64 (p_int (p_len (m_Key a0))))), .c (.at (.bool false)), dd, dd, dd, dd, dd, dd, dd, dd, dd, dd, dd, dd, dd, dd, dd, dd, dd, dd, dd, dd, dd, dd, dd, dd, dd, dd, dd, dd, dd, dd, dd, dd, dd, dd, dd, dd, dd, dd, dd, dd, dd, dd, dd, dd, dd, dd, dd, dd, dd, dd, dd, dd, dd, dd, dd, dd, dd, dd, dd], [], 2⟩ | .inr (r) => some [.v (.at (.bool r))]) ?_ 0 _ (rfl)).trans (cL ?_)
  · rintro K1 hr1 v1 R1
    rw [s_spec_ValidKeys_l1, ← hp, ← hm_Key, ← hm_string]
    dsimp only
    conv => lhs; cbv
    refine cD (fun hb2 => ?_) fun hb2 => ?_
    · rw [hb2]
      conv => lhs; cbv
      try rfl
    rw [hb2]
    conv => lhs; cbv
    rw [nth_Key]
    refine cO (fun hx4 => ?_) ?_
    · rw [hx4]; try rfl
    rintro x3 hx4
    rw [hx4]
    conv => lhs; cbv
    rw [f_spec_ValidName x3.name]
    refine cO (fun hx6 => ?_) ?_
    · rw [hx6]; try rfl
    rintro r5 hx6
    rw [hx6]
    conv => lhs; cbv
    refine cC (fun hb7 => ?_) fun hb7 => ?_
    · rw [hb7]
      conv => lhs; cbv
      rw [hr1]
      conv => lhs; cbv
      try rfl
    rw [hb7]
    conv => lhs; cbv
    rw [nth_Key]
    rw [hx4]
    conv => lhs; cbv
    refine cC (fun hb9 => ?_) fun hb9 => ?_
    · rw [hb9]
      conv => lhs; cbv
      rw [hr1]
      conv => lhs; cbv
      try rfl
    rw [hb9]
    conv => lhs; cbv
    rw [nth_Key]
    rw [hx4]
    conv => lhs; cbv
    rw [f_spec_ValidSecret x3.secret]
    refine cO (fun hx12 => ?_) ?_
    · rw [hx12]; try rfl
    rintro r11 hx12
    rw [hx12]
    conv => lhs; cbv
    refine cC (fun hb13 => ?_) fun hb13 => ?_
    · rw [hb13]
      conv => lhs; cbv
      rw [hr1]
      conv => lhs; cbv
      try rfl
    rw [hb13]
    conv => lhs; cbv
    rw [sub_Key]
    refine cO (fun hx15 => ?_) ?_
    · rw [hx15]; try rfl
    rintro x14 hx15
    rw [hx15]
    conv => lhs; cbv
    rw [nth_Key]
    rw [hx4]
    conv => lhs; cbv
    rw [f_spec_l9Find x14 x3.name]
    refine cO (fun hx18 => ?_) ?_
    · rw [hx18]; try rfl
    rintro r17 hx18
    rw [hx18]
    conv => lhs; cbv
    refine cC (fun hb19 => ?_) fun hb19 => ?_
    · rw [hb19]
      conv => lhs; cbv
      rw [hr1]
      conv => lhs; cbv
      try rfl
    rw [hb19]
    conv => lhs; cbv
    refine (loop_al hal (fun v20 => ⟨[.c (.rd true 95 2 (m_Key a0)), dd, dd, .c (.at (.int .i64 v1)), .c (.at (.int .i64 v20)), dd, dd, dd, dd, dd, dd, dd, dd, dd, dd, dd, dd, dd, dd, dd, dd, dd, dd, dd, dd, dd, dd, dd, dd, dd, dd, dd, dd, dd, dd, dd, dd, dd, dd, dd, dd, dd, dd, dd, dd, dd, dd, dd, dd, dd, dd, dd, dd, dd, dd, dd, dd, dd, dd, dd, dd, dd, dd, dd, dd, dd, dd, dd], [], 1⟩) (s_spec_ValidKeys_l2 a0 v1) (fun K g => match g with | .inl v20 => K (.exit 2) ⟨[.c (.rd true 95 2 (m_Key a0)), dd, dd, .c (.at (.int .i64 v1)), .c (.at (.int .i64 v20)), dd, dd, dd, dd, dd, dd, dd, dd, dd, dd, dd, dd, dd, dd, dd, dd, dd, dd, dd, dd, dd, dd, dd, dd, dd, dd, dd, dd, dd, dd, dd, dd, dd, dd, dd, dd, dd, dd, dd, dd, dd, dd, dd, dd, .c (.at (.int .i64 v20)), .c (.at (.int .i64 v1)), .c (.at (.bool false)), dd, dd, dd, dd, dd, dd, dd, dd, dd, dd, dd, dd, dd, dd, dd, dd], [], 2⟩ | .inr (r) => some [.v (.at (.bool r))]) ?_ 0 _ (rfl)).trans (cL ?_)
    · rintro K2 hr2 v20 R2
      rw [s_spec_ValidKeys_l2, ← hp]
      dsimp only
      conv => lhs; cbv
      refine cD (fun hb21 => ?_) fun hb21 => ?_
      · rw [hb21]
        conv => lhs; cbv
        try rfl
      rw [hb21]
      conv => lhs; cbv
      rw [nth_Key]
      refine cO (fun hx23 => ?_) ?_
      · rw [hx23]; try rfl
      rintro x22 hx23
      rw [hx23]
      conv => lhs; cbv
      rw [nth_Key]
      refine cO (fun hx25 => ?_) ?_
      · rw [hx25]; try rfl
      rintro x24 hx25
      rw [hx25]
      conv => lhs; cbv
      refine cD (fun hb26 => ?_) fun hb26 => ?_
      · rw [hb26]
        conv => lhs; cbv
        try rfl
      rw [hb26]
      conv => lhs; cbv
      rw [hr2]
      conv => lhs; cbv
      rw [hr1]
      conv => lhs; cbv
      try rfl
    rintro (w27 | w28)
    · conv => lhs; cbv
      try rfl
    rfl
  rintro (w29 | w30)
  · conv => lhs; cbv
    try rfl
  rfl
theorem e_s_spec_l26Find (F : Fns) (f_spec_EqualNames : Hs_s_spec_EqualNames (F 103)) : Hs_s_spec_l26Find (EvF F Tryz.f85 (fun id => if id = 2 then [0, 1, 5, 7] else [])) := by
  intro a0 a1 a2
  unfold EvF
  obtain ⟨p, hp⟩ := gn prims
  obtain ⟨m_Reader, hm_Reader⟩ := gn (List.map eReader)
  obtain ⟨m_string, hm_string⟩ := gn (List.map eS)
  rw [← hp, ← hm_Reader, ← hm_string]
  obtain ⟨p_arith, p_cmp, _, _, _, _, _, _, _, _, _, _, _, _, _, p_len, p_int, p_nth, _⟩ := p
  have nth_Reader := @nthF_Reader
  simp only [Hs_s_spec_EqualNames, ← hp, ← hm_Reader, ← hm_string] at nth_Reader f_spec_EqualNames
  generalize hal : alp = al
  rw [s_spec_l26Find]
  conv => lhs; cbv
  refine (loop_al hal (fun v1 => ⟨[.c (.rd true 83 3 (m_Reader a0)), .c (.at (.int .i64 a1)), dd, dd, dd, .c (.ptr (0, 0, 0) 1 0 0), dd, .c (.at (.int .i64 v1)), dd, dd, dd, dd, dd, dd, dd, dd, dd, dd, dd, dd, dd, dd, dd, dd, dd, dd, dd, dd, dd, dd, dd], [((0, 0, 0), ⟨false, true, 32, 1, [[.rd true 9 1 (m_string a2)]]⟩)], 1⟩) (s_spec_l26Find_l1 a0 a1 a2) (fun K g => match g with | .inl v1 => K (.exit 0) ⟨[.c (.rd true 83 3 (m_Reader a0)), .c (.at (.int .i64 a1)), dd, dd, dd, .c (.ptr (0, 0, 0) 1 0 0), dd, .c (.at (.int .i64 v1)), .c (.at (.int .i64 v1)), .c (.rd true 83 3 (m_Reader a0)), .c (.at (.int .i64 (p_int (p_len (m_Reader a0))))), .c (.at (.bool false)), dd, dd, dd, dd, dd, dd, dd, dd, dd, dd, dd, dd, dd, dd, dd, dd, dd, dd, dd], [((0, 0, 0), ⟨false, true, 32, 1, [[.rd true 9 1 (m_string a2)]]⟩)], 2⟩ | .inr (r) => some [.v (.at (.int .i64 r))]) ?_ 0 _ (rfl)).trans (cL ?_)
  · rintro K1 hr1 v1 R1
    rw [s_spec_l26Find_l1, ← hp, ← hm_Reader]
    dsimp only
    conv => lhs; cbv
    refine cD (fun hb2 => ?_) fun hb2 => ?_
    · rw [hb2]
      conv => lhs; cbv
      try rfl
    rw [hb2]
    conv => lhs; cbv
    rw [nth_Reader]
    refine cO (fun hx4 => ?_) ?_
    · rw [hx4]; try rfl
    rintro x3 hx4
    rw [hx4]
    conv => lhs; cbv
    refine cD (fun hb5 => ?_) fun hb5 => ?_
    · rw [hb5]
      conv => lhs; cbv
      try rfl
    rw [hb5]
    conv => lhs; cbv
    rw [nth_Reader]
    rw [hx4]
    conv => lhs; cbv
    rw [f_spec_EqualNames x3.name a2]
    refine cO (fun hx8 => ?_) ?_
    · rw [hx8]; try rfl
    rintro r7 hx8
    rw [hx8]
    conv => lhs; cbv
    refine cD (fun hb9 => ?_) fun hb9 => ?_
    · rw [hb9]
      conv => lhs; cbv
      try rfl
    rw [hb9]
    conv => lhs; cbv
    rw [hr1]
    conv => lhs; cbv
    try rfl
  rintro (w10 | w11)
  · conv => lhs; cbv
    try rfl
  rfl
theorem e_s_spec_ValidReaders (F : Fns) (f_spec_l1In : Hs_s_spec_l1In (F 50)) (f_spec_ValidName : Hs_s_spec_ValidName (F 82)) (f_spec_l26Find : Hs_s_spec_l26Find (F 85)) : Hs_s_spec_ValidReaders (EvF F Tryz.f51 (fun id => if id = 2 then [0, 3] else [])) := by
  intro a0
  unfold EvF
  obtain ⟨p, hp⟩ := gn prims
  obtain ⟨m_Reader, hm_Reader⟩ := gn (List.map eReader)
  obtain ⟨m_string, hm_string⟩ := gn (List.map eS)
  rw [← hp, ← hm_Reader]
  obtain ⟨p_arith, p_cmp, _, _, _, _, _, _, _, _, _, p_bnot, _, _, _, p_len, p_int, p_nth, p_sub, _⟩ := p
  have nth_Reader := @nthF_Reader
  have sub_Reader := @subF_Reader
  simp only [Hs_s_spec_l1In, Hs_s_spec_ValidName, Hs_s_spec_l26Find, ← hp, ← hm_Reader, ← hm_string] at nth_Reader sub_Reader f_spec_l1In f_spec_ValidName f_spec_l26Find
  generalize hal : alp = al
  rw [s_spec_ValidReaders, ← hp, ← hm_Reader]
  dsimp only
  conv => lhs; cbv
  refine (loop_al hal (fun v1 => ⟨[.c (.rd true 83 3 (m_Reader a0)), dd, dd, .c (.at (.int .i64 v1)), dd, dd, dd, dd, dd, dd, dd, dd, dd, dd, dd, dd, dd, dd, dd, dd, dd, dd, dd, dd, dd, dd, dd, dd, dd, dd, dd, dd, dd, dd, dd, dd, dd, dd, dd, dd, dd, dd, dd, dd, dd, dd, dd, dd, dd, dd, dd, dd, dd, dd, dd], [], 1⟩) (s_spec_ValidReaders_l1 a0) (fun K g => match g with | .inl v1 => K (.exit 0) ⟨[.c (.rd true 83 3 (m_Reader a0)), dd, dd, .c (.at (.int .i64 v1)), .c (.at (.int .i64 v1)), .c (.rd true 83 3 (m_Reader a0)), .c (.at (.int .i64 (p_int (p_len (m_Reader a0))))), .c (.at (.bool false)), dd, dd, dd, dd, dd, dd, dd, dd, dd, dd, dd, dd, dd, dd, dd, dd, dd, dd, dd, dd, dd, dd, dd, dd, dd, dd, dd, dd, dd, dd, dd, dd, dd, dd, dd, dd, dd, dd, dd, dd, dd, dd, dd, dd, dd, dd, dd], [], 2⟩ | .inr (r) => some [.v (.at (.bool r))]) ?_ 0 _ (rfl)).trans (cL ?_)
  · rintro K1 hr1 v1 R1
    rw [s_spec_ValidReaders_l1, ← hp, ← hm_Reader]
    dsimp only
    conv => lhs; cbv
    refine cD (fun hb2 => ?_) fun hb2 => ?_
    · rw [hb2]
      conv => lhs; cbv
      try rfl
    rw [hb2]
    conv => lhs; cbv
    rw [nth_Reader]
    refine cO (fun hx4 => ?_) ?_
    · rw [hx4]; try rfl
    rintro x3 hx4
    rw [hx4]
    conv => lhs; cbv
    rw [f_spec_l1In x3.node 0 5]
    refine cO (fun hx6 => ?_) ?_
    · rw [hx6]; try rfl
    rintro r5 hx6
    rw [hx6]
    conv => lhs; cbv
    refine cC (fun hb7 => ?_) fun hb7 => ?_
    · rw [hb7]
      conv => lhs; cbv
      rw [hr1]
      conv => lhs; cbv
      try rfl
    rw [hb7]
    conv => lhs; cbv
    rw [nth_Reader]
    rw [hx4]
    conv => lhs; cbv
    rw [f_spec_ValidName x3.name]
    refine cO (fun hx10 => ?_) ?_
    · rw [hx10]; try rfl
    rintro r9 hx10
    rw [hx10]
    conv => lhs; cbv
    refine cC (fun hb11 => ?_) fun hb11 => ?_
    · rw [hb11]
      conv => lhs; cbv
      rw [hr1]
      conv => lhs; cbv
      try rfl
    rw [hb11]
    conv => lhs; cbv
    rw [nth_Reader]
    rw [hx4]
    conv => lhs; cbv
    rw [f_spec_l1In x3.epoch 0 1000]
    refine cO (fun hx14 => ?_) ?_
    · rw [hx14]; try rfl
    rintro r13 hx14
    rw [hx14]
    conv => lhs; cbv
    refine cC (fun hb15 => ?_) fun hb15 => ?_
    · rw [hb15]
      conv => lhs; cbv
      rw [hr1]
      conv => lhs; cbv
      try rfl
    rw [hb15]
    conv => lhs; cbv
    rw [sub_Reader]
    refine cO (fun hx17 => ?_) ?_
    · rw [hx17]; try rfl
    rintro x16 hx17
    rw [hx17]
    conv => lhs; cbv
    rw [nth_Reader]
    rw [hx4]
    conv => lhs; cbv
    rw [nth_Reader]
    rw [hx4]
    conv => lhs; cbv
    rw [f_spec_l26Find x16 x3.node x3.name]
    refine cO (fun hx21 => ?_) ?_
    · rw [hx21]; try rfl
    rintro r20 hx21
    rw [hx21]
    conv => lhs; cbv
    refine cD (fun hb22 => ?_) fun hb22 => ?_
    · rw [hb22]
      conv => lhs; cbv
      try rfl
    rw [hb22]
    conv => lhs; cbv
    rw [hr1]
    conv => lhs; cbv
    try rfl
  rintro (w23 | w24)
  · conv => lhs; cbv
    try rfl
  rfl
end
end Go.Proofs.YtgkbhlncehgalaaGreatDoor
