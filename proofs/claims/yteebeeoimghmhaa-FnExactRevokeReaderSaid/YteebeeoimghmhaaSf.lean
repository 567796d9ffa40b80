/- The code computes these plain functions. Printed by genshal.py. -/
import Derived.Test.YteebeeoimghmhaaSd
namespace Go.Proofs.Yteebeeoimghmhaa
open Go.RowKit
set_option linter.unusedVariables false
set_option linter.unusedSimpArgs false
set_option maxRecDepth 100000
noncomputable section
set_option maxHeartbeats 40000000

theorem e_s_laws_szStringS (F : Fns) : Hs_s_laws_szStringS (EvF F Try.f17 (fun id => if id = 5 then [0, 1, 5] else [])) := by
  intro a0 a1
  unfold EvF
  obtain ⟨p, hp⟩ := gn prims
  obtain ⟨m_string, hm_string⟩ := gn (List.map eS)
  rw [← hp, ← hm_string]
  obtain ⟨p_arith, p_cmp, _, _, _, _, p_ssize, _, _, _, _, _, _, _, _, p_len, p_int, p_nth, _⟩ := p
  have nth_string := @nthF_string
  simp only [← hp, ← hm_string] at nth_string
  generalize hal : alp = al
  rw [s_laws_szStringS, ← hp, ← hm_string]
  dsimp only
  conv => lhs; cbv
  refine cC (fun hb1 => ?_) fun hb1 => ?_
  · rw [hb1]
    conv => lhs; cbv
    try rfl
  rw [hb1]
  conv => lhs; cbv
  refine (loop_al hal (fun x => match x with | (v2, v3) => ⟨[.c (.rd true 9 1 (m_string a0)), .c (.at (.int .i64 v2)), dd, dd, dd, .c (.at (.int .i64 v3)), dd, dd, dd, dd, dd, dd, dd, dd, dd, dd, dd, dd, dd, dd, dd, dd, dd, dd, dd, dd, dd, dd], [], 1⟩) (s_laws_szStringS_l1 a0) (fun K g => match g with | .inl (v2, v3) => K (.exit 0) ⟨[.c (.rd true 9 1 (m_string a0)), .c (.at (.int .i64 v2)), dd, dd, dd, .c (.at (.int .i64 v3)), dd, dd, dd, dd, dd, dd, .c (.at (.int .i64 v3)), .c (.rd true 9 1 (m_string a0)), .c (.at (.int .i64 (p_int (p_len (m_string a0))))), .c (.at (.bool false)), dd, dd, dd, dd, dd, dd, dd, dd, dd, dd, dd, dd], [], 2⟩ | .inr (r) => some [.v (.at (.int .i64 r))]) ?_ (p_arith .sub .i64 a1 (p_int (p_len (m_string a0))), 0) _ (rfl)).trans (cL ?_)
  · rintro K1 hr1 ⟨v2, v3⟩ R1
    rw [s_laws_szStringS_l1, ← hp, ← hm_string]
    dsimp only
    conv => lhs; cbv
    refine cD (fun hb4 => ?_) fun hb4 => ?_
    · rw [hb4]
      conv => lhs; cbv
      try rfl
    rw [hb4]
    conv => lhs; cbv
    rw [nth_string]
    refine cO (fun hx6 => ?_) ?_
    · rw [hx6]; try rfl
    rintro x5 hx6
    rw [hx6]
    conv => lhs; cbv
    refine cD (fun hb7 => ?_) fun hb7 => ?_
    · rw [hb7]
      conv => lhs; cbv
      try rfl
    rw [hb7]
    conv => lhs; cbv
    rw [hr1]
    conv => lhs; cbv
    try rfl
  rintro (⟨w8, w9⟩ | w10)
  · conv => lhs; cbv
    try rfl
  rfl
theorem e_s_laws_szName (F : Fns) (f_laws_szStringS : Hs_s_laws_szStringS (F 17)) : Hs_s_laws_szName (EvF F Try.f5 (fun _ => [])) := by
  intro a0 a1
  unfold EvF
  obtain ⟨p, hp⟩ := gn prims
  obtain ⟨m_string, hm_string⟩ := gn (List.map eS)
  rw [← hp, ← hm_string]
  obtain ⟨_, p_cmp, _⟩ := p
  simp only [Hs_s_laws_szStringS, ← hm_string] at f_laws_szStringS
  rw [s_laws_szName, ← hp]
  dsimp only
  conv => lhs; cbv
  rw [f_laws_szStringS a0 a1]
  refine cO (fun hx2 => ?_) ?_
  · rw [hx2]; try rfl
  rintro r1 hx2
  rw [hx2]
  conv => lhs; cbv
  refine cC (fun hb3 => ?_) fun hb3 => ?_
  · rw [hb3]
    conv => lhs; cbv
    try rfl
  rw [hb3]
  conv => lhs; cbv
  try rfl
theorem e_s_laws_szKey (F : Fns) (f_laws_szName : Hs_s_laws_szName (F 5)) : Hs_s_laws_szKey (EvF F Try.f35 (fun _ => [])) := by
  intro a0 a1
  unfold EvF
  obtain ⟨p, hp⟩ := gn prims
  obtain ⟨m_string, hm_string⟩ := gn (List.map eS)
  rw [← hp, ← hm_string]
  obtain ⟨_, p_cmp, _⟩ := p
  simp only [Hs_s_laws_szName, ← hm_string] at f_laws_szName
  rw [s_laws_szKey, ← hp]
  dsimp only
  conv => lhs; cbv
  rw [f_laws_szName a0.name a1]
  refine cO (fun hx2 => ?_) ?_
  · rw [hx2]; try rfl
  rintro r1 hx2
  rw [hx2]
  conv => lhs; cbv
  refine cC (fun hb3 => ?_) fun hb3 => ?_
  · rw [hb3]
    conv => lhs; cbv
    try rfl
  rw [hb3]
  conv => lhs; cbv
  try rfl
theorem e_s_laws_szKeyS (F : Fns) (f_laws_szKey : Hs_s_laws_szKey (F 35)) : Hs_s_laws_szKeyS (EvF F Try.f15 (fun id => if id = 5 then [0, 1, 5] else [])) := by
  intro a0 a1
  unfold EvF
  obtain ⟨p, hp⟩ := gn prims
  obtain ⟨m_Key, hm_Key⟩ := gn (List.map eKey)
  obtain ⟨m_string, hm_string⟩ := gn (List.map eS)
  rw [← hp, ← hm_Key]
  obtain ⟨p_arith, p_cmp, _, _, _, _, _, _, _, _, _, _, _, _, _, p_len, p_int, p_nth, _⟩ := p
  have nth_Key := @nthF_Key
  simp only [Hs_s_laws_szKey, ← hp, ← hm_Key, ← hm_string] at nth_Key f_laws_szKey
  generalize hal : alp = al
  rw [s_laws_szKeyS, ← hp, ← hm_Key]
  dsimp only
  conv => lhs; cbv
  refine cC (fun hb1 => ?_) fun hb1 => ?_
  · rw [hb1]
    conv => lhs; cbv
    try rfl
  rw [hb1]
  conv => lhs; cbv
  refine (loop_al hal (fun x => match x with | (v2, v3) => ⟨[.c (.rd true 66 2 (m_Key a0)), .c (.at (.int .i64 v2)), dd, dd, dd, .c (.at (.int .i64 v3)), dd, dd, dd, dd, dd, dd, dd, dd, dd, dd, dd, dd, dd, dd, dd, dd, dd, dd, dd, dd, dd], [], 1⟩) (s_laws_szKeyS_l1 a0) (fun K g => match g with | .inl (v2, v3) => K (.exit 0) ⟨[.c (.rd true 66 2 (m_Key a0)), .c (.at (.int .i64 v2)), dd, dd, dd, .c (.at (.int .i64 v3)), dd, dd, dd, dd, dd, dd, .c (.at (.int .i64 v3)), .c (.rd true 66 2 (m_Key a0)), .c (.at (.int .i64 (p_int (p_len (m_Key a0))))), .c (.at (.bool false)), dd, dd, dd, dd, dd, dd, dd, dd, dd, dd, dd], [], 2⟩ | .inr (r) => some [.v (.at (.int .i64 r))]) ?_ (p_arith .sub .i64 a1 (p_int (p_len (m_Key a0))), 0) _ (rfl)).trans (cL ?_)
  · rintro K1 hr1 ⟨v2, v3⟩ R1
    rw [s_laws_szKeyS_l1, ← hp, ← hm_Key]
    dsimp only
    conv => lhs; cbv
    refine cD (fun hb4 => ?_) fun hb4 => ?_
    · rw [hb4]
      conv => lhs; cbv
      try rfl
    rw [hb4]
    conv => lhs; cbv
    rw [nth_Key]
    refine cO (fun hx6 => ?_) ?_
    · rw [hx6]; try rfl
    rintro x5 hx6
    rw [hx6]
    conv => lhs; cbv
    rw [f_laws_szKey x5 v2]
    refine cO (fun hx8 => ?_) ?_
    · rw [hx8]; try rfl
    rintro r7 hx8
    rw [hx8]
    conv => lhs; cbv
    refine cD (fun hb9 => ?_) fun hb9 => ?_
    · rw [hb9]
      conv => lhs; cbv
      try rfl
    rw [hb9]
    conv => lhs; cbv
    rw [hr1]
    conv => lhs; cbv
    try rfl
  rintro (⟨w10, w11⟩ | w12)
  · conv => lhs; cbv
    try rfl
  rfl
theorem e_s_laws_szReader (F : Fns) (f_laws_szName : Hs_s_laws_szName (F 5)) : Hs_s_laws_szReader (EvF F Try.f36 (fun _ => [])) := by
  intro a0 a1
  unfold EvF
  obtain ⟨p, hp⟩ := gn prims
  obtain ⟨m_string, hm_string⟩ := gn (List.map eS)
  rw [← hp, ← hm_string]
  obtain ⟨_, p_cmp, _⟩ := p
  simp only [Hs_s_laws_szName, ← hm_string] at f_laws_szName
  rw [s_laws_szReader, ← hp]
  dsimp only
  conv => lhs; cbv
  rw [f_laws_szName a0.name a1]
  refine cO (fun hx2 => ?_) ?_
  · rw [hx2]; try rfl
  rintro r1 hx2
  rw [hx2]
  conv => lhs; cbv
  refine cC (fun hb3 => ?_) fun hb3 => ?_
  · rw [hb3]
    conv => lhs; cbv
    try rfl
  rw [hb3]
  conv => lhs; cbv
  try rfl
theorem e_s_laws_szReaderS (F : Fns) (f_laws_szReader : Hs_s_laws_szReader (F 36)) : Hs_s_laws_szReaderS (EvF F Try.f16 (fun id => if id = 5 then [0, 1, 5] else [])) := by
  intro a0 a1
  unfold EvF
  obtain ⟨p, hp⟩ := gn prims
  obtain ⟨m_Reader, hm_Reader⟩ := gn (List.map eReader)
  obtain ⟨m_string, hm_string⟩ := gn (List.map eS)
  rw [← hp, ← hm_Reader]
  obtain ⟨p_arith, p_cmp, _, _, _, _, _, _, _, _, _, _, _, _, _, p_len, p_int, p_nth, _⟩ := p
  have nth_Reader := @nthF_Reader
  simp only [Hs_s_laws_szReader, ← hp, ← hm_Reader, ← hm_string] at nth_Reader f_laws_szReader
  generalize hal : alp = al
  rw [s_laws_szReaderS, ← hp, ← hm_Reader]
  dsimp only
  conv => lhs; cbv
  refine cC (fun hb1 => ?_) fun hb1 => ?_
  · rw [hb1]
    conv => lhs; cbv
    try rfl
  rw [hb1]
  conv => lhs; cbv
  refine (loop_al hal (fun x => match x with | (v2, v3) => ⟨[.c (.rd true 68 3 (m_Reader a0)), .c (.at (.int .i64 v2)), dd, dd, dd, .c (.at (.int .i64 v3)), dd, dd, dd, dd, dd, dd, dd, dd, dd, dd, dd, dd, dd, dd, dd, dd, dd, dd, dd, dd, dd], [], 1⟩) (s_laws_szReaderS_l1 a0) (fun K g => match g with | .inl (v2, v3) => K (.exit 0) ⟨[.c (.rd true 68 3 (m_Reader a0)), .c (.at (.int .i64 v2)), dd, dd, dd, .c (.at (.int .i64 v3)), dd, dd, dd, dd, dd, dd, .c (.at (.int .i64 v3)), .c (.rd true 68 3 (m_Reader a0)), .c (.at (.int .i64 (p_int (p_len (m_Reader a0))))), .c (.at (.bool false)), dd, dd, dd, dd, dd, dd, dd, dd, dd, dd, dd], [], 2⟩ | .inr (r) => some [.v (.at (.int .i64 r))]) ?_ (p_arith .sub .i64 a1 (p_int (p_len (m_Reader a0))), 0) _ (rfl)).trans (cL ?_)
  · rintro K1 hr1 ⟨v2, v3⟩ R1
    rw [s_laws_szReaderS_l1, ← hp, ← hm_Reader]
    dsimp only
    conv => lhs; cbv
    refine cD (fun hb4 => ?_) fun hb4 => ?_
    · rw [hb4]
      conv => lhs; cbv
      try rfl
    rw [hb4]
    conv => lhs; cbv
    rw [nth_Reader]
    refine cO (fun hx6 => ?_) ?_
    · rw [hx6]; try rfl
    rintro x5 hx6
    rw [hx6]
    conv => lhs; cbv
    rw [f_laws_szReader x5 v2]
    refine cO (fun hx8 => ?_) ?_
    · rw [hx8]; try rfl
    rintro r7 hx8
    rw [hx8]
    conv => lhs; cbv
    refine cD (fun hb9 => ?_) fun hb9 => ?_
    · rw [hb9]
      conv => lhs; cbv
      try rfl
    rw [hb9]
    conv => lhs; cbv
    rw [hr1]
    conv => lhs; cbv
    try rfl
  rintro (⟨w10, w11⟩ | w12)
  · conv => lhs; cbv
    try rfl
  rfl
theorem e_s_laws_szAccessController (F : Fns) (f_laws_szKeyS : Hs_s_laws_szKeyS (F 15)) (f_laws_szReaderS : Hs_s_laws_szReaderS (F 16)) : Hs_s_laws_szAccessController (EvF F Try.f4 (fun _ => [])) := by
  intro a0 a1
  unfold EvF
  obtain ⟨p, hp⟩ := gn prims
  obtain ⟨m_Key, hm_Key⟩ := gn (List.map eKey)
  obtain ⟨m_Reader, hm_Reader⟩ := gn (List.map eReader)
  rw [← hp, ← hm_Key, ← hm_Reader]
  obtain ⟨_, p_cmp, _⟩ := p
  simp only [Hs_s_laws_szKeyS, Hs_s_laws_szReaderS, ← hm_Key, ← hm_Reader] at f_laws_szKeyS f_laws_szReaderS
  rw [s_laws_szAccessController, ← hp]
  dsimp only
  conv => lhs; cbv
  rw [f_laws_szKeyS a0.keys a1]
  refine cO (fun hx2 => ?_) ?_
  · rw [hx2]; try rfl
  rintro r1 hx2
  rw [hx2]
  conv => lhs; cbv
  refine cC (fun hb3 => ?_) fun hb3 => ?_
  · rw [hb3]
    conv => lhs; cbv
    try rfl
  rw [hb3]
  conv => lhs; cbv
  rw [f_laws_szReaderS a0.readers r1]
  refine cO (fun hx5 => ?_) ?_
  · rw [hx5]; try rfl
  rintro r4 hx5
  rw [hx5]
  conv => lhs; cbv
  refine cC (fun hb6 => ?_) fun hb6 => ?_
  · rw [hb6]
    conv => lhs; cbv
    try rfl
  rw [hb6]
  conv => lhs; cbv
  try rfl
theorem e_s_laws_toStringS (F : Fns) : Hs_s_laws_toStringS (EvF F Try.f23 (fun id => if id = 3 then [0, 3, 4] else [])) := by
  intro a0
  unfold EvF
  obtain ⟨p, hp⟩ := gn prims
  obtain ⟨m_string, hm_string⟩ := gn (List.map eS)
  rw [← hp, ← hm_string]
  obtain ⟨p_arith, p_cmp, _, _, _, _, _, _, _, _, _, _, _, _, _, p_len, p_int, p_nth, _, _, p_ridx, p_rnth, p_rset, _, _, _, p_full, _, _, p_own, p_opn, _, _, _, _, _, _, _, p_mkN, p_rep, _⟩ := p
  have full_string := full_gen eS
  have lset_string := lset_gen eS
  have mkn_string := @mknF_string
  have nth_string := @nthF_string
  have own_string := own_gen eS (fun _ => rfl)
  have rep_string := @repF_string
  have rnth_string := @rnthF_string
  have rset_string := @rsetF_string
  simp only [← hp, ← hm_string] at full_string lset_string mkn_string nth_string own_string rep_string rnth_string rset_string
  generalize hal : alp = al
  rw [s_laws_toStringS, ← hp, ← hm_string]
  dsimp only
  conv => lhs; cbv
  rw [mkn_string]
  refine cO (fun hx2 => ?_) ?_
  · rw [hx2]; try rfl
  rintro x1 hx2
  rw [hx2]
  conv => lhs; cbv
  rw [rep_string _ _ _ hx2]
  conv => lhs; cbv
  refine (loop_al hal (fun x => match x with | (v3, v4) => ⟨[.c (.rd true 9 1 (m_string a0)), dd, dd, .c (.row (0, 0, 0) 9 1 0 (p_len (m_string v4))), .c (.at (.int .i64 v3)), dd, dd, dd, dd, dd, dd, dd, dd, dd, dd, dd, dd, dd, dd, dd, dd, dd], [((0, 0, 0), ⟨true, false, 9, 1, p_opn (m_string v4)⟩)], 1⟩) (s_laws_toStringS_l1 a0) (fun K g => match g with | (v3, v4) => K (.exit 0) ⟨[.c (.rd true 9 1 (m_string a0)), dd, dd, .c (.row (0, 0, 0) 9 1 0 (p_len (m_string v4))), .c (.at (.int .i64 v3)), dd, dd, dd, .c (.at (.int .i64 v3)), .c (.rd true 9 1 (m_string a0)), .c (.at (.int .i64 (p_int (p_len (m_string a0))))), .c (.at (.bool false)), dd, dd, dd, dd, dd, dd, dd, dd, dd, dd], [((0, 0, 0), ⟨true, false, 9, 1, p_opn (m_string v4)⟩)], 2⟩) ?_ (0, x1) _ (rfl)).trans (cL ?_)
  · rintro K1 hr1 ⟨v3, v4⟩ R1
    rw [s_laws_toStringS_l1, ← hp, ← hm_string]
    dsimp only
    conv => lhs; cbv
    refine cD (fun hb5 => ?_) fun hb5 => ?_
    · rw [hb5]
      conv => lhs; cbv
      try rfl
    rw [hb5]
    conv => lhs; cbv
    rw [nth_string]
    refine cO (fun hx7 => ?_) ?_
    · rw [hx7]; try rfl
    rintro x6 hx7
    rw [hx7]
    conv => lhs; cbv
    refine cO (fun hx9 => ?_) ?_
    · rw [hx9]; try rfl
    rintro x8 hx9
    rw [hx9]
    conv => lhs; cbv
    rw [rnth_string]
    refine cO (fun hx11 => ?_) ?_
    · rw [hx11]; try rfl
    rintro x10 hx11
    rw [hx11]
    conv => lhs; cbv
    rw [rset_string]
    try conv => lhs; rw [← lset_string v4 x8 x6]
    conv => lhs; cbv
    try rfl
  rintro ⟨w12, w13⟩
  conv => lhs; cbv
  rw [if_pos (full_string _)]
  conv => lhs; cbv
  rw [own_string]
  conv => lhs; cbv
  try rfl
theorem e_s_laws_toName (F : Fns) (f_laws_toStringS : Hs_s_laws_toStringS (F 23)) : Hs_s_laws_toName (EvF F Try.f8 (fun _ => [])) := by
  intro a0
  unfold EvF
  obtain ⟨p, hp⟩ := gn prims
  obtain ⟨m_string, hm_string⟩ := gn (List.map eS)
  rw [← hp, ← hm_string]
  obtain ⟨_, _, _, _, _, _, _, _, _, _, _, _, _, _, _, p_len, _, _, _, _, _, _, _, _, _, _, p_full, _, _, p_own, p_opn, _⟩ := p
  have full_string := full_gen eS
  have own_string := own_gen eS (fun _ => rfl)
  simp only [Hs_s_laws_toStringS, ← hp, ← hm_string] at full_string own_string f_laws_toStringS
  rw [s_laws_toName]
  conv => lhs; cbv
  rw [f_laws_toStringS a0]
  refine cO (fun hx2 => ?_) ?_
  · rw [hx2]; try rfl
  rintro r1 hx2
  rw [hx2]
  conv => lhs; cbv
  rw [if_pos (full_string _)]
  conv => lhs; cbv
  rw [own_string]
  conv => lhs; cbv
  try rfl
theorem e_s_laws_toKey (F : Fns) (f_laws_toName : Hs_s_laws_toName (F 8)) : Hs_s_laws_toKey (EvF F Try.f39 (fun _ => [])) := by
  intro a0
  unfold EvF
  obtain ⟨p, hp⟩ := gn prims
  obtain ⟨m_string, hm_string⟩ := gn (List.map eS)
  rw [← hp, ← hm_string]
  obtain ⟨_, _, _, _, _, _, _, _, _, _, _, _, _, _, _, p_len, _, _, _, _, _, _, _, _, _, _, p_full, _, _, p_own, p_opn, _⟩ := p
  have full_string := full_gen eS
  have own_string := own_gen eS (fun _ => rfl)
  simp only [Hs_s_laws_toName, ← hp, ← hm_string] at full_string own_string f_laws_toName
  rw [s_laws_toKey]
  conv => lhs; cbv
  rw [f_laws_toName a0.name]
  refine cO (fun hx2 => ?_) ?_
  · rw [hx2]; try rfl
  rintro r1 hx2
  rw [hx2]
  conv => lhs; cbv
  rw [if_pos (full_string _)]
  conv => lhs; cbv
  rw [own_string]
  conv => lhs; cbv
  try rfl
theorem e_s_laws_toKeyS (F : Fns) (f_laws_toKey : Hs_s_laws_toKey (F 39)) : Hs_s_laws_toKeyS (EvF F Try.f21 (fun id => if id = 3 then [0, 3, 4] else [])) := by
  intro a0
  unfold EvF
  obtain ⟨p, hp⟩ := gn prims
  obtain ⟨m_Key, hm_Key⟩ := gn (List.map eKey)
  obtain ⟨m_string, hm_string⟩ := gn (List.map eS)
  rw [← hp, ← hm_Key]
  obtain ⟨p_arith, p_cmp, _, _, _, _, _, _, _, _, _, _, _, _, _, p_len, p_int, p_nth, _, _, p_ridx, p_rnth, p_rset, _, _, _, p_full, _, _, p_own, p_opn, _, _, _, _, _, _, _, p_mkN, p_rep, _⟩ := p
  have full_Key := full_gen eKey
  have full_string := full_gen eS
  have lset_Key := lset_gen eKey
  have mkn_Key := @mknF_Key
  have nth_Key := @nthF_Key
  have own_Key := own_gen eKey (fun _ => rfl)
  have own_string := own_gen eS (fun _ => rfl)
  have rep_Key := @repF_Key
  have rnth_Key := @rnthF_Key
  have rset_Key := @rsetF_Key
  simp only [Hs_s_laws_toKey, ← hp, ← hm_Key, ← hm_string] at full_Key full_string lset_Key mkn_Key nth_Key own_Key own_string rep_Key rnth_Key rset_Key f_laws_toKey
  generalize hal : alp = al
  rw [s_laws_toKeyS, ← hp, ← hm_Key]
  dsimp only
  conv => lhs; cbv
  rw [mkn_Key]
  refine cO (fun hx2 => ?_) ?_
  · rw [hx2]; try rfl
  rintro x1 hx2
  rw [hx2]
  conv => lhs; cbv
  rw [rep_Key _ _ _ hx2]
  conv => lhs; cbv
  refine (loop_al hal (fun x => match x with | (v3, v4) => ⟨[.c (.rd true 66 2 (m_Key a0)), dd, dd, .c (.row (0, 0, 0) 66 2 0 (p_len (m_Key v4))), .c (.at (.int .i64 v3)), dd, dd, dd, dd, dd, dd, dd, dd, dd, dd, dd, dd, dd, dd, dd, dd, dd, dd], [((0, 0, 0), ⟨true, false, 66, 2, p_opn (m_Key v4)⟩)], 1⟩) (s_laws_toKeyS_l1 a0) (fun K g => match g with | (v3, v4) => K (.exit 0) ⟨[.c (.rd true 66 2 (m_Key a0)), dd, dd, .c (.row (0, 0, 0) 66 2 0 (p_len (m_Key v4))), .c (.at (.int .i64 v3)), dd, dd, dd, .c (.at (.int .i64 v3)), .c (.rd true 66 2 (m_Key a0)), .c (.at (.int .i64 (p_int (p_len (m_Key a0))))), .c (.at (.bool false)), dd, dd, dd, dd, dd, dd, dd, dd, dd, dd, dd], [((0, 0, 0), ⟨true, false, 66, 2, p_opn (m_Key v4)⟩)], 2⟩) ?_ (0, x1) _ (rfl)).trans (cL ?_)
  · rintro K1 hr1 ⟨v3, v4⟩ R1
    rw [s_laws_toKeyS_l1, ← hp, ← hm_Key]
    dsimp only
    conv => lhs; cbv
    refine cD (fun hb5 => ?_) fun hb5 => ?_
    · rw [hb5]
      conv => lhs; cbv
      try rfl
    rw [hb5]
    conv => lhs; cbv
    rw [nth_Key]
    refine cO (fun hx7 => ?_) ?_
    · rw [hx7]; try rfl
    rintro x6 hx7
    rw [hx7]
    conv => lhs; cbv
    rw [f_laws_toKey x6]
    refine cO (fun hx9 => ?_) ?_
    · rw [hx9]; try rfl
    rintro r8 hx9
    rw [hx9]
    conv => lhs; cbv
    refine cO (fun hx11 => ?_) ?_
    · rw [hx11]; try rfl
    rintro x10 hx11
    rw [hx11]
    conv => lhs; cbv
    rw [rnth_Key]
    refine cO (fun hx13 => ?_) ?_
    · rw [hx13]; try rfl
    rintro x12 hx13
    rw [hx13]
    conv => lhs; cbv
    rw [if_pos (full_string _)]
    conv => lhs; cbv
    rw [own_string]
    conv => lhs; cbv
    rw [rset_Key]
    try conv => lhs; rw [← lset_Key v4 x10 r8]
    conv => lhs; cbv
    try rfl
  rintro ⟨w14, w15⟩
  conv => lhs; cbv
  rw [if_pos (full_Key _)]
  conv => lhs; cbv
  rw [own_Key]
  conv => lhs; cbv
  try rfl
theorem e_s_laws_toReader (F : Fns) (f_laws_toName : Hs_s_laws_toName (F 8)) : Hs_s_laws_toReader (EvF F Try.f40 (fun _ => [])) := by
  intro a0
  unfold EvF
  obtain ⟨p, hp⟩ := gn prims
  obtain ⟨m_string, hm_string⟩ := gn (List.map eS)
  rw [← hp, ← hm_string]
  obtain ⟨_, _, _, _, _, _, _, _, _, _, _, _, _, _, _, p_len, _, _, _, _, _, _, _, _, _, _, p_full, _, _, p_own, p_opn, _⟩ := p
  have full_string := full_gen eS
  have own_string := own_gen eS (fun _ => rfl)
  simp only [Hs_s_laws_toName, ← hp, ← hm_string] at full_string own_string f_laws_toName
  rw [s_laws_toReader]
  conv => lhs; cbv
  rw [f_laws_toName a0.name]
  refine cO (fun hx2 => ?_) ?_
  · rw [hx2]; try rfl
  rintro r1 hx2
  rw [hx2]
  conv => lhs; cbv
  rw [if_pos (full_string _)]
  conv => lhs; cbv
  rw [own_string]
  conv => lhs; cbv
  try rfl
theorem e_s_laws_toReaderS (F : Fns) (f_laws_toReader : Hs_s_laws_toReader (F 40)) : Hs_s_laws_toReaderS (EvF F Try.f22 (fun id => if id = 3 then [0, 3, 4] else [])) := by
  intro a0
  unfold EvF
  obtain ⟨p, hp⟩ := gn prims
  obtain ⟨m_Reader, hm_Reader⟩ := gn (List.map eReader)
  obtain ⟨m_string, hm_string⟩ := gn (List.map eS)
  rw [← hp, ← hm_Reader]
  obtain ⟨p_arith, p_cmp, _, _, _, _, _, _, _, _, _, _, _, _, _, p_len, p_int, p_nth, _, _, p_ridx, p_rnth, p_rset, _, _, _, p_full, _, _, p_own, p_opn, _, _, _, _, _, _, _, p_mkN, p_rep, _⟩ := p
  have full_Reader := full_gen eReader
  have full_string := full_gen eS
  have lset_Reader := lset_gen eReader
  have mkn_Reader := @mknF_Reader
  have nth_Reader := @nthF_Reader
  have own_Reader := own_gen eReader (fun _ => rfl)
  have own_string := own_gen eS (fun _ => rfl)
  have rep_Reader := @repF_Reader
  have rnth_Reader := @rnthF_Reader
  have rset_Reader := @rsetF_Reader
  simp only [Hs_s_laws_toReader, ← hp, ← hm_Reader, ← hm_string] at full_Reader full_string lset_Reader mkn_Reader nth_Reader own_Reader own_string rep_Reader rnth_Reader rset_Reader f_laws_toReader
  generalize hal : alp = al
  rw [s_laws_toReaderS, ← hp, ← hm_Reader]
  dsimp only
  conv => lhs; cbv
  rw [mkn_Reader]
  refine cO (fun hx2 => ?_) ?_
  · rw [hx2]; try rfl
  rintro x1 hx2
  rw [hx2]
  conv => lhs; cbv
  rw [rep_Reader _ _ _ hx2]
  conv => lhs; cbv
  refine (loop_al hal (fun x => match x with | (v3, v4) => ⟨[.c (.rd true 68 3 (m_Reader a0)), dd, dd, .c (.row (0, 0, 0) 68 3 0 (p_len (m_Reader v4))), .c (.at (.int .i64 v3)), dd, dd, dd, dd, dd, dd, dd, dd, dd, dd, dd, dd, dd, dd, dd, dd, dd, dd], [((0, 0, 0), ⟨true, false, 68, 3, p_opn (m_Reader v4)⟩)], 1⟩) (s_laws_toReaderS_l1 a0) (fun K g => match g with | (v3, v4) => K (.exit 0) ⟨[.c (.rd true 68 3 (m_Reader a0)), dd, dd, .c (.row (0, 0, 0) 68 3 0 (p_len (m_Reader v4))), .c (.at (.int .i64 v3)), dd, dd, dd, .c (.at (.int .i64 v3)), .c (.rd true 68 3 (m_Reader a0)), .c (.at (.int .i64 (p_int (p_len (m_Reader a0))))), .c (.at (.bool false)), dd, dd, dd, dd, dd, dd, dd, dd, dd, dd, dd], [((0, 0, 0), ⟨true, false, 68, 3, p_opn (m_Reader v4)⟩)], 2⟩) ?_ (0, x1) _ (rfl)).trans (cL ?_)
  · rintro K1 hr1 ⟨v3, v4⟩ R1
    rw [s_laws_toReaderS_l1, ← hp, ← hm_Reader]
    dsimp only
    conv => lhs; cbv
    refine cD (fun hb5 => ?_) fun hb5 => ?_
    · rw [hb5]
      conv => lhs; cbv
      try rfl
    rw [hb5]
    conv => lhs; cbv
    rw [nth_Reader]
    refine cO (fun hx7 => ?_) ?_
    · rw [hx7]; try rfl
    rintro x6 hx7
    rw [hx7]
    conv => lhs; cbv
    rw [f_laws_toReader x6]
    refine cO (fun hx9 => ?_) ?_
    · rw [hx9]; try rfl
    rintro r8 hx9
    rw [hx9]
    conv => lhs; cbv
    refine cO (fun hx11 => ?_) ?_
    · rw [hx11]; try rfl
    rintro x10 hx11
    rw [hx11]
    conv => lhs; cbv
    rw [rnth_Reader]
    refine cO (fun hx13 => ?_) ?_
    · rw [hx13]; try rfl
    rintro x12 hx13
    rw [hx13]
    conv => lhs; cbv
    rw [if_pos (full_string _)]
    conv => lhs; cbv
    rw [own_string]
    conv => lhs; cbv
    rw [rset_Reader]
    try conv => lhs; rw [← lset_Reader v4 x10 r8]
    conv => lhs; cbv
    try rfl
  rintro ⟨w14, w15⟩
  conv => lhs; cbv
  rw [if_pos (full_Reader _)]
  conv => lhs; cbv
  rw [own_Reader]
  conv => lhs; cbv
  try rfl
theorem e_s_laws_toAccessController (F : Fns) (f_laws_toKeyS : Hs_s_laws_toKeyS (F 21)) (f_laws_toReaderS : Hs_s_laws_toReaderS (F 22)) : Hs_s_laws_toAccessController (EvF F Try.f7 (fun _ => [])) := by
  intro a0
  unfold EvF
  obtain ⟨p, hp⟩ := gn prims
  obtain ⟨m_Key, hm_Key⟩ := gn (List.map eKey)
  obtain ⟨m_Reader, hm_Reader⟩ := gn (List.map eReader)
  rw [← hp, ← hm_Key, ← hm_Reader]
  obtain ⟨_, _, _, _, _, _, _, _, _, _, _, _, _, _, _, p_len, _, _, _, _, _, _, _, _, _, _, p_full, _, _, p_own, p_opn, _⟩ := p
  have full_Key := full_gen eKey
  have full_Reader := full_gen eReader
  have own_Key := own_gen eKey (fun _ => rfl)
  have own_Reader := own_gen eReader (fun _ => rfl)
  simp only [Hs_s_laws_toKeyS, Hs_s_laws_toReaderS, ← hp, ← hm_Key, ← hm_Reader] at full_Key full_Reader own_Key own_Reader f_laws_toKeyS f_laws_toReaderS
  rw [s_laws_toAccessController]
  conv => lhs; cbv
  rw [f_laws_toKeyS a0.keys]
  refine cO (fun hx2 => ?_) ?_
  · rw [hx2]; try rfl
  rintro r1 hx2
  rw [hx2]
  conv => lhs; cbv
  rw [f_laws_toReaderS a0.readers]
  refine cO (fun hx4 => ?_) ?_
  · rw [hx4]; try rfl
  rintro r3 hx4
  rw [hx4]
  conv => lhs; cbv
  rw [if_pos (full_Key _)]
  conv => lhs; cbv
  rw [own_Key]
  conv => lhs; cbv
  rw [if_pos (full_Reader _)]
  conv => lhs; cbv
  rw [own_Reader]
  conv => lhs; cbv
  try rfl
theorem e_s_spec_l4Copy (F : Fns) : Hs_s_spec_l4Copy (EvF F Try.f37 (fun _ => [])) := by
  intro a0
  unfold EvF
  obtain ⟨p, hp⟩ := gn prims
  obtain ⟨m_string, hm_string⟩ := gn (List.map eS)
  rw [← hp, ← hm_string]
  obtain ⟨_, _, _, _, _, _, _, _, _, _, _, _, _, _, _, p_len, _, _, _, _, _, _, _, p_rapp, p_rlen, p_addN, p_full, p_fits, _, p_own, p_opn, p_lend, _⟩ := p
  have addn0_string := @addn0F_string
  have full_string := full_gen eS
  have lend_string := @lendF_string
  have own_string := own_gen eS (fun _ => rfl)
  have rapp0_string := @rapp0F_string
  simp only [← hp, ← hm_string] at addn0_string full_string lend_string own_string rapp0_string
  rw [s_spec_l4Copy, ← hp, ← hm_string]
  dsimp only
  conv => lhs; cbv
  rw [lend_string]
  conv => lhs; cbv
  refine cD (fun hb1 => ?_) fun hb1 => ?_
  · rw [if_neg (fun x => Bool.noConfusion (hb1.symm.trans x.1))]; try rfl
  rw [if_pos ⟨hb1, trivial⟩]
  conv => lhs; cbv
  rw [rapp0_string, addn0_string]
  conv => lhs; cbv
  rw [if_pos (full_string _)]
  conv => lhs; cbv
  rw [own_string]
  conv => lhs; cbv
  try rfl
theorem e_s_spec_l9Copy (F : Fns) (f_spec_l4Copy : Hs_s_spec_l4Copy (F 37)) : Hs_s_spec_l9Copy (EvF F Try.f18 (fun id => if id = 3 then [0, 3, 4] else [])) := by
  intro a0
  unfold EvF
  obtain ⟨p, hp⟩ := gn prims
  obtain ⟨m_Key, hm_Key⟩ := gn (List.map eKey)
  obtain ⟨m_string, hm_string⟩ := gn (List.map eS)
  rw [← hp, ← hm_Key]
  obtain ⟨p_arith, p_cmp, _, _, _, _, _, _, _, _, _, _, _, _, _, p_len, p_int, p_nth, _, _, _, _, _, p_rapp, p_rlen, p_addN, p_full, p_fits, _, p_own, p_opn, _⟩ := p
  have addn_Key := addn_gen eKey
  have full_Key := full_gen eKey
  have full_string := full_gen eS
  have len0_Key := @len0F_Key
  have lit_Key := @litF_Key
  have nth_Key := @nthF_Key
  have opn0_Key := @opn0F_Key
  have own_Key := own_gen eKey (fun _ => rfl)
  have own_string := own_gen eS (fun _ => rfl)
  have rapp_Key := rapp_gen eKey
  simp only [Hs_s_spec_l4Copy, ← hp, ← hm_Key, ← hm_string] at addn_Key full_Key full_string len0_Key lit_Key nth_Key opn0_Key own_Key own_string rapp_Key f_spec_l4Copy
  generalize hal : alp = al
  rw [s_spec_l9Copy]
  conv => lhs; cbv
  refine (loop_al hal (fun x => match x with | (v1, v2) => ⟨[.c (.rd true 66 2 (m_Key a0)), dd, dd, .c (.row (0, 0, 0) 66 2 0 (p_len (m_Key v2))), .c (.at (.int .i64 v1)), dd, dd, dd, dd, dd, dd, dd, dd, dd, dd, dd, dd, dd, dd, dd, dd, dd, dd, dd, dd, dd, dd, dd, dd, dd], [((0, 0, 0), ⟨true, false, 66, 2, p_opn (m_Key v2)⟩)], 1⟩) (s_spec_l9Copy_l1 a0) (fun K g => match g with | (v1, v2) => K (.exit 0) ⟨[.c (.rd true 66 2 (m_Key a0)), dd, dd, .c (.row (0, 0, 0) 66 2 0 (p_len (m_Key v2))), .c (.at (.int .i64 v1)), dd, dd, .c (.at (.int .i64 v1)), .c (.rd true 66 2 (m_Key a0)), .c (.at (.int .i64 (p_int (p_len (m_Key a0))))), .c (.at (.bool false)), dd, dd, dd, dd, dd, dd, dd, dd, dd, dd, dd, dd, dd, dd, dd, dd, dd, dd, dd], [((0, 0, 0), ⟨true, false, 66, 2, p_opn (m_Key v2)⟩)], 2⟩) ?_ (0, []) _ (by simp only [opn0_Key, len0_Key]; rfl)).trans (cL ?_)
  · rintro K1 hr1 ⟨v1, v2⟩ R1
    rw [s_spec_l9Copy_l1, ← hp, ← hm_Key]
    dsimp only
    conv => lhs; cbv
    refine cD (fun hb3 => ?_) fun hb3 => ?_
    · rw [hb3]
      conv => lhs; cbv
      try rfl
    rw [hb3]
    conv => lhs; cbv
    rw [nth_Key]
    refine cO (fun hx5 => ?_) ?_
    · rw [hx5]; try rfl
    rintro x4 hx5
    rw [hx5]
    conv => lhs; cbv
    rw [f_spec_l4Copy x4.name]
    refine cO (fun hx7 => ?_) ?_
    · rw [hx7]; try rfl
    rintro r6 hx7
    rw [hx7]
    conv => lhs; cbv
    rw [nth_Key]
    rw [hx5]
    conv => lhs; cbv
    rw [if_pos (full_string _)]
    conv => lhs; cbv
    rw [own_string]
    conv => lhs; cbv
    rw [lit_Key]
    refine cD (fun hb9 => ?_) fun hb9 => ?_
    · rw [if_neg (fun x => Bool.noConfusion (hb9.symm.trans x.2.1))]; try rfl
    rw [if_pos ⟨full_Key _, hb9, trivial⟩]
    conv => lhs; cbv
    rw [rapp_Key, addn_Key]
    conv => lhs; cbv
    try rfl
  rintro ⟨w10, w11⟩
  conv => lhs; cbv
  rw [if_pos (full_Key _)]
  conv => lhs; cbv
  rw [own_Key]
  conv => lhs; cbv
  try rfl
theorem e_s_spec_Min (F : Fns) : Hs_s_spec_Min (EvF F Try.f59 (fun _ => [])) := by
  intro a0 a1
  unfold EvF
  obtain ⟨p, hp⟩ := gn prims
  rw [← hp]
  obtain ⟨_, p_cmp, _⟩ := p
  rw [s_spec_Min, ← hp]
  dsimp only
  conv => lhs; cbv
  refine cC (fun hb1 => ?_) fun hb1 => ?_
  · rw [hb1]
    conv => lhs; cbv
    try rfl
  rw [hb1]
  conv => lhs; cbv
  try rfl
theorem e_s_spec_Max (F : Fns) : Hs_s_spec_Max (EvF F Try.f58 (fun _ => [])) := by
  intro a0 a1
  unfold EvF
  obtain ⟨p, hp⟩ := gn prims
  rw [← hp]
  obtain ⟨_, p_cmp, _⟩ := p
  rw [s_spec_Max, ← hp]
  dsimp only
  conv => lhs; cbv
  refine cC (fun hb1 => ?_) fun hb1 => ?_
  · rw [hb1]
    conv => lhs; cbv
    try rfl
  rw [hb1]
  conv => lhs; cbv
  try rfl
theorem e_s_spec_Truncate (F : Fns) (f_spec_Min : Hs_s_spec_Min (F 59)) (f_spec_Max : Hs_s_spec_Max (F 58)) : Hs_s_spec_Truncate (EvF F Try.f53 (fun _ => [])) := by
  intro a0 a1
  unfold EvF
  obtain ⟨p, hp⟩ := gn prims
  obtain ⟨m_string, hm_string⟩ := gn (List.map eS)
  rw [← hp, ← hm_string]
  obtain ⟨_, _, _, _, _, _, _, _, _, _, _, _, _, _, _, p_len, p_int, _, p_sub, _, _, _, _, p_rapp, p_rlen, p_addN, p_full, p_fits, _, p_own, p_opn, p_lend, _⟩ := p
  have addn0_string := @addn0F_string
  have full_string := full_gen eS
  have lend_string := @lendF_string
  have own_string := own_gen eS (fun _ => rfl)
  have rapp0_string := @rapp0F_string
  have sub_string := @subF_string
  simp only [Hs_s_spec_Min, Hs_s_spec_Max, ← hp, ← hm_string] at addn0_string full_string lend_string own_string rapp0_string sub_string f_spec_Min f_spec_Max
  rw [s_spec_Truncate, ← hp, ← hm_string]
  dsimp only
  conv => lhs; cbv
  rw [f_spec_Min a1 (p_int (p_len (m_string a0)))]
  refine cO (fun hx2 => ?_) ?_
  · rw [hx2]; try rfl
  rintro r1 hx2
  rw [hx2]
  conv => lhs; cbv
  rw [f_spec_Max 0 r1]
  refine cO (fun hx4 => ?_) ?_
  · rw [hx4]; try rfl
  rintro r3 hx4
  rw [hx4]
  conv => lhs; cbv
  rw [sub_string]
  refine cO (fun hx6 => ?_) ?_
  · rw [hx6]; try rfl
  rintro x5 hx6
  rw [hx6]
  conv => lhs; cbv
  rw [lend_string]
  conv => lhs; cbv
  refine cD (fun hb7 => ?_) fun hb7 => ?_
  · rw [if_neg (fun x => Bool.noConfusion (hb7.symm.trans x.1))]; try rfl
  rw [if_pos ⟨hb7, trivial⟩]
  conv => lhs; cbv
  rw [rapp0_string, addn0_string]
  conv => lhs; cbv
  rw [if_pos (full_string _)]
  conv => lhs; cbv
  rw [own_string]
  conv => lhs; cbv
  try rfl
theorem e_s_spec_l4Cmp (F : Fns) : Hs_s_spec_l4Cmp (EvF F Try.f60 (fun _ => [])) := by
  intro a0 a1
  unfold EvF
  obtain ⟨p, hp⟩ := gn prims
  rw [← hp]
  obtain ⟨_, _, _, p_scmp, _⟩ := p
  rw [s_spec_l4Cmp, ← hp]
  dsimp only
  conv => lhs; cbv
  refine cC (fun hb1 => ?_) fun hb1 => ?_
  · rw [hb1]
    conv => lhs; cbv
    try rfl
  rw [hb1]
  conv => lhs; cbv
  refine cC (fun hb2 => ?_) fun hb2 => ?_
  · rw [hb2]
    conv => lhs; cbv
    try rfl
  rw [hb2]
  conv => lhs; cbv
  try rfl
theorem e_s_spec_CompareNames (F : Fns) (f_spec_l4Cmp : Hs_s_spec_l4Cmp (F 60)) : Hs_s_spec_CompareNames (EvF F Try.f57 (fun id => if id = 2 then [2, 3, 5] else [])) := by
  intro a0 a1
  unfold EvF
  obtain ⟨p, hp⟩ := gn prims
  obtain ⟨m_string, hm_string⟩ := gn (List.map eS)
  rw [← hp, ← hm_string]
  obtain ⟨p_arith, p_cmp, _, _, _, _, _, _, _, _, _, _, _, _, _, p_len, p_int, p_nth, _⟩ := p
  have nth_string := @nthF_string
  simp only [Hs_s_spec_l4Cmp, ← hp, ← hm_string] at nth_string f_spec_l4Cmp
  generalize hal : alp = al
  rw [s_spec_CompareNames, ← hp, ← hm_string]
  dsimp only
  conv => lhs; cbv
  refine (loop_al hal (fun v1 => ⟨[dd, dd, .c (.ptr (0, 0, 0) 1 0 0), .c (.ptr (0, 0, 1) 1 0 0), dd, .c (.at (.int .i64 v1)), dd, dd, dd, dd, dd, dd, dd, dd, dd, dd, dd, dd, dd, dd, dd, dd, dd, dd, dd, dd, dd, dd, dd, dd, dd, dd, dd, dd, dd, dd, dd, dd, dd, dd, dd, dd, dd, dd, dd, dd, dd, dd, dd, dd, dd], [((0, 0, 1), ⟨false, true, 37, 1, [[.rd true 9 1 (m_string a1)]]⟩), ((0, 0, 0), ⟨false, true, 37, 1, [[.rd true 9 1 (m_string a0)]]⟩)], 1⟩) (s_spec_CompareNames_l1 a0 a1) (fun K g => match g with | .inl v1 => K (.exit 0) ⟨[dd, dd, .c (.ptr (0, 0, 0) 1 0 0), .c (.ptr (0, 0, 1) 1 0 0), dd, .c (.at (.int .i64 v1)), dd, .c (.at (.int .i64 v1)), .c (.ptr (0, 0, 0) 1 0 0), .c (.rd true 9 1 (m_string a0)), .c (.at (.int .i64 (p_int (p_len (m_string a0))))), .c (.at (.bool true)), .c (.at (.bool true)), .c (.at (.int .i64 v1)), .c (.ptr (0, 0, 1) 1 0 0), .c (.rd true 9 1 (m_string a1)), .c (.at (.int .i64 (p_int (p_len (m_string a1))))), .c (.at (.bool false)), .c (.at (.bool false)), dd, dd, dd, dd, dd, dd, dd, dd, dd, dd, dd, dd, dd, dd, dd, dd, dd, dd, dd, dd, dd, dd, dd, dd, dd, dd, dd, dd, dd, dd, dd, dd], [((0, 0, 1), ⟨false, true, 37, 1, [[.rd true 9 1 (m_string a1)]]⟩), ((0, 0, 0), ⟨false, true, 37, 1, [[.rd true 9 1 (m_string a0)]]⟩)], 2⟩ | .inr (.inl v1) => K (.exit 0) ⟨[dd, dd, .c (.ptr (0, 0, 0) 1 0 0), .c (.ptr (0, 0, 1) 1 0 0), dd, .c (.at (.int .i64 v1)), dd, .c (.at (.int .i64 v1)), .c (.ptr (0, 0, 0) 1 0 0), .c (.rd true 9 1 (m_string a0)), .c (.at (.int .i64 (p_int (p_len (m_string a0))))), .c (.at (.bool false)), .c (.at (.bool false)), .c (.at undef), .c (.at undef), .c (.at undef), .c (.at undef), .c (.at undef), .c (.at (.bool false)), dd, dd, dd, dd, dd, dd, dd, dd, dd, dd, dd, dd, dd, dd, dd, dd, dd, dd, dd, dd, dd, dd, dd, dd, dd, dd, dd, dd, dd, dd, dd, dd], [((0, 0, 1), ⟨false, true, 37, 1, [[.rd true 9 1 (m_string a1)]]⟩), ((0, 0, 0), ⟨false, true, 37, 1, [[.rd true 9 1 (m_string a0)]]⟩)], 2⟩ | .inr (.inr (r)) => some [.v (.at (.int .i64 r))]) ?_ 0 _ (rfl)).trans (cL ?_)
  · rintro K1 hr1 v1 R1
    rw [s_spec_CompareNames_l1, ← hp, ← hm_string]
    dsimp only
    conv => lhs; cbv
    refine cD (fun hb2 => ?_) fun hb2 => ?_
    · rw [hb2]
      conv => lhs; cbv
      try rfl
    rw [hb2]
    conv => lhs; cbv
    refine cD (fun hb3 => ?_) fun hb3 => ?_
    · rw [hb3]
      conv => lhs; cbv
      try rfl
    rw [hb3]
    conv => lhs; cbv
    rw [nth_string]
    refine cO (fun hx5 => ?_) ?_
    · rw [hx5]; try rfl
    rintro x4 hx5
    rw [hx5]
    conv => lhs; cbv
    rw [nth_string]
    refine cO (fun hx7 => ?_) ?_
    · rw [hx7]; try rfl
    rintro x6 hx7
    rw [hx7]
    conv => lhs; cbv
    rw [f_spec_l4Cmp x4 x6]
    refine cO (fun hx9 => ?_) ?_
    · rw [hx9]; try rfl
    rintro r8 hx9
    rw [hx9]
    conv => lhs; cbv
    refine cD (fun hb10 => ?_) fun hb10 => ?_
    · rw [hb10]
      conv => lhs; cbv
      try rfl
    rw [hb10]
    conv => lhs; cbv
    rw [hr1]
    conv => lhs; cbv
    try rfl
  rintro (w11 | w14 | w17)
  · conv => lhs; cbv
    refine cC (fun hb12 => ?_) fun hb12 => ?_
    · rw [hb12]
      conv => lhs; cbv
      try rfl
    rw [hb12]
    conv => lhs; cbv
    refine cC (fun hb13 => ?_) fun hb13 => ?_
    · rw [hb13]
      conv => lhs; cbv
      try rfl
    rw [hb13]
    conv => lhs; cbv
    try rfl
  · conv => lhs; cbv
    refine cC (fun hb15 => ?_) fun hb15 => ?_
    · rw [hb15]
      conv => lhs; cbv
      try rfl
    rw [hb15]
    conv => lhs; cbv
    refine cC (fun hb16 => ?_) fun hb16 => ?_
    · rw [hb16]
      conv => lhs; cbv
      try rfl
    rw [hb16]
    conv => lhs; cbv
    try rfl
  rfl
theorem e_s_spec_EqualNames (F : Fns) (f_spec_CompareNames : Hs_s_spec_CompareNames (F 57)) : Hs_s_spec_EqualNames (EvF F Try.f52 (fun _ => [])) := by
  intro a0 a1
  unfold EvF
  obtain ⟨p, hp⟩ := gn prims
  obtain ⟨m_string, hm_string⟩ := gn (List.map eS)
  rw [← hp, ← hm_string]
  obtain ⟨_, p_cmp, _⟩ := p
  simp only [Hs_s_spec_CompareNames, ← hm_string] at f_spec_CompareNames
  rw [s_spec_EqualNames, ← hp]
  dsimp only
  conv => lhs; cbv
  rw [f_spec_CompareNames a0 a1]
  refine cO (fun hx2 => ?_) ?_
  · rw [hx2]; try rfl
  rintro r1 hx2
  rw [hx2]
  conv => lhs; cbv
  try rfl
theorem e_s_spec_HasPrefix (F : Fns) (f_spec_Truncate : Hs_s_spec_Truncate (F 53)) (f_spec_EqualNames : Hs_s_spec_EqualNames (F 52)) : Hs_s_spec_HasPrefix (EvF F Try.f38 (fun _ => [])) := by
  intro a0 a1
  unfold EvF
  obtain ⟨p, hp⟩ := gn prims
  obtain ⟨m_string, hm_string⟩ := gn (List.map eS)
  rw [← hp, ← hm_string]
  obtain ⟨_, p_cmp, _, _, _, _, _, _, _, _, _, _, _, _, _, p_len, p_int, _, _, _, _, _, _, _, _, _, _, _, p_frz, _, p_opn, _⟩ := p
  have frz_string := frz_gen eS (fun _ => rfl)
  simp only [Hs_s_spec_Truncate, Hs_s_spec_EqualNames, ← hp, ← hm_string] at frz_string f_spec_Truncate f_spec_EqualNames
  rw [s_spec_HasPrefix, ← hp, ← hm_string]
  dsimp only
  conv => lhs; cbv
  refine cD (fun hb1 => ?_) fun hb1 => ?_
  · rw [hb1]
    conv => lhs; cbv
    try rfl
  rw [hb1]
  conv => lhs; cbv
  rw [f_spec_Truncate a0 (p_int (p_len (m_string a1)))]
  refine cO (fun hx3 => ?_) ?_
  · rw [hx3]; try rfl
  rintro r2 hx3
  rw [hx3]
  conv => lhs; cbv
  rw [frz_string]
  conv => lhs; cbv
  rw [f_spec_EqualNames r2 a1]
  refine cO (fun hx5 => ?_) ?_
  · rw [hx5]; try rfl
  rintro r4 hx5
  rw [hx5]
  conv => lhs; cbv
  try rfl
theorem e_s_spec_RemoveReader (F : Fns) (f_spec_HasPrefix : Hs_s_spec_HasPrefix (F 38)) (f_spec_l4Copy : Hs_s_spec_l4Copy (F 37)) : Hs_s_spec_RemoveReader (EvF F Try.f19 (fun id => if id = 3 then [0, 1, 5, 7, 8] else [])) := by
  intro a0 a1 a2
  unfold EvF
  obtain ⟨p, hp⟩ := gn prims
  obtain ⟨m_Reader, hm_Reader⟩ := gn (List.map eReader)
  obtain ⟨m_string, hm_string⟩ := gn (List.map eS)
  rw [← hp, ← hm_Reader, ← hm_string]
  obtain ⟨p_arith, p_cmp, _, _, _, _, _, _, _, _, _, _, _, _, _, p_len, p_int, p_nth, _, _, _, _, _, p_rapp, p_rlen, p_addN, p_full, p_fits, _, p_own, p_opn, _⟩ := p
  have addn_Reader := addn_gen eReader
  have full_Reader := full_gen eReader
  have full_string := full_gen eS
  have len0_Reader := @len0F_Reader
  have lit_Reader := @litF_Reader
  have nth_Reader := @nthF_Reader
  have opn0_Reader := @opn0F_Reader
  have own_Reader := own_gen eReader (fun _ => rfl)
  have own_string := own_gen eS (fun _ => rfl)
  have rapp_Reader := rapp_gen eReader
  simp only [Hs_s_spec_HasPrefix, Hs_s_spec_l4Copy, ← hp, ← hm_Reader, ← hm_string] at addn_Reader full_Reader full_string len0_Reader lit_Reader nth_Reader opn0_Reader own_Reader own_string rapp_Reader f_spec_HasPrefix f_spec_l4Copy
  generalize hal : alp = al
  rw [s_spec_RemoveReader]
  conv => lhs; cbv
  refine (loop_al hal (fun x => match x with | (v1, v2) => ⟨[.c (.rd true 68 3 (m_Reader a0)), .c (.at (.int .i64 a1)), dd, dd, dd, .c (.ptr (0, 0, 0) 1 0 0), dd, .c (.row (0, 0, 1) 68 3 0 (p_len (m_Reader v2))), .c (.at (.int .i64 v1)), dd, dd, dd, dd, dd, dd, dd, dd, dd, dd, dd, dd, dd, dd, dd, dd, dd, dd, dd, dd, dd, dd, dd, dd, dd, dd, dd, dd, dd, dd, dd, dd, dd, dd, dd, dd, dd, dd, dd, dd, dd, dd, dd, dd, dd, dd, dd, dd, dd, dd, dd, dd, dd, dd, dd], [((0, 0, 0), ⟨false, true, 37, 1, [[.rd true 9 1 (m_string a2)]]⟩), ((0, 0, 1), ⟨true, false, 68, 3, p_opn (m_Reader v2)⟩)], 1⟩) (s_spec_RemoveReader_l1 a0 a1 a2) (fun K g => match g with | (v1, v2) => K (.exit 0) ⟨[.c (.rd true 68 3 (m_Reader a0)), .c (.at (.int .i64 a1)), dd, dd, dd, .c (.ptr (0, 0, 0) 1 0 0), dd, .c (.row (0, 0, 1) 68 3 0 (p_len (m_Reader v2))), .c (.at (.int .i64 v1)), dd, dd, .c (.at (.int .i64 v1)), .c (.rd true 68 3 (m_Reader a0)), .c (.at (.int .i64 (p_int (p_len (m_Reader a0))))), .c (.at (.bool false)), dd, dd, dd, dd, dd, dd, dd, dd, dd, dd, dd, dd, dd, dd, dd, dd, dd, dd, dd, dd, dd, dd, dd, dd, dd, dd, dd, dd, dd, dd, dd, dd, dd, dd, dd, dd, dd, dd, dd, dd, dd, dd, dd, dd, dd, dd, dd, dd, dd], [((0, 0, 0), ⟨false, true, 37, 1, [[.rd true 9 1 (m_string a2)]]⟩), ((0, 0, 1), ⟨true, false, 68, 3, p_opn (m_Reader v2)⟩)], 2⟩) ?_ (0, []) _ (by simp only [opn0_Reader, len0_Reader]; rfl)).trans (cL ?_)
  · rintro K1 hr1 ⟨v1, v2⟩ R1
    rw [s_spec_RemoveReader_l1, ← hp, ← hm_Reader]
    dsimp only
    conv => lhs; cbv
    refine cD (fun hb3 => ?_) fun hb3 => ?_
    · rw [hb3]
      conv => lhs; cbv
      try rfl
    rw [hb3]
    conv => lhs; cbv
    rw [nth_Reader]
    refine cO (fun hx5 => ?_) ?_
    · rw [hx5]; try rfl
    rintro x4 hx5
    rw [hx5]
    conv => lhs; cbv
    refine cD (fun hb6 => ?_) fun hb6 => ?_
    · rw [hb6]
      conv => lhs; cbv
      rw [nth_Reader]
      rw [hx5]
      conv => lhs; cbv
      rw [f_spec_l4Copy x4.name]
      refine cO (fun hx23 => ?_) ?_
      · rw [hx23]; try rfl
      rintro r22 hx23
      rw [hx23]
      conv => lhs; cbv
      rw [nth_Reader]
      rw [hx5]
      conv => lhs; cbv
      rw [nth_Reader]
      rw [hx5]
      conv => lhs; cbv
      rw [if_pos (full_string _)]
      conv => lhs; cbv
      rw [own_string]
      conv => lhs; cbv
      rw [lit_Reader]
      refine cD (fun hb26 => ?_) fun hb26 => ?_
      · rw [if_neg (fun x => Bool.noConfusion (hb26.symm.trans x.2.1))]; try rfl
      rw [if_pos ⟨full_Reader _, hb26, trivial⟩]
      conv => lhs; cbv
      rw [rapp_Reader, addn_Reader]
      conv => lhs; cbv
      try rfl
    rw [hb6]
    conv => lhs; cbv
    rw [nth_Reader]
    rw [hx5]
    conv => lhs; cbv
    rw [f_spec_HasPrefix x4.name a2]
    refine cO (fun hx9 => ?_) ?_
    · rw [hx9]; try rfl
    rintro r8 hx9
    rw [hx9]
    conv => lhs; cbv
    refine cC (fun hb10 => ?_) fun hb10 => ?_
    · rw [hb10]
      conv => lhs; cbv
      try rfl
    rw [hb10]
    conv => lhs; cbv
    rw [nth_Reader]
    rw [hx5]
    conv => lhs; cbv
    rw [f_spec_HasPrefix a2 x4.name]
    refine cO (fun hx13 => ?_) ?_
    · rw [hx13]; try rfl
    rintro r12 hx13
    rw [hx13]
    conv => lhs; cbv
    refine cC (fun hb14 => ?_) fun hb14 => ?_
    · rw [hb14]
      conv => lhs; cbv
      try rfl
    rw [hb14]
    conv => lhs; cbv
    rw [nth_Reader]
    rw [hx5]
    conv => lhs; cbv
    rw [f_spec_l4Copy x4.name]
    refine cO (fun hx17 => ?_) ?_
    · rw [hx17]; try rfl
    rintro r16 hx17
    rw [hx17]
    conv => lhs; cbv
    rw [nth_Reader]
    rw [hx5]
    conv => lhs; cbv
    rw [nth_Reader]
    rw [hx5]
    conv => lhs; cbv
    rw [if_pos (full_string _)]
    conv => lhs; cbv
    rw [own_string]
    conv => lhs; cbv
    rw [lit_Reader]
    refine cD (fun hb20 => ?_) fun hb20 => ?_
    · rw [if_neg (fun x => Bool.noConfusion (hb20.symm.trans x.2.1))]; try rfl
    rw [if_pos ⟨full_Reader _, hb20, trivial⟩]
    conv => lhs; cbv
    rw [rapp_Reader, addn_Reader]
    conv => lhs; cbv
    try rfl
  rintro ⟨w27, w28⟩
  conv => lhs; cbv
  rw [if_pos (full_Reader _)]
  conv => lhs; cbv
  rw [own_Reader]
  conv => lhs; cbv
  try rfl
theorem e_s_spec_MayRead (F : Fns) (f_spec_HasPrefix : Hs_s_spec_HasPrefix (F 38)) : Hs_s_spec_MayRead (EvF F Try.f20 (fun id => if id = 2 then [0, 1, 5, 7] else [])) := by
  intro a0 a1 a2
  unfold EvF
  obtain ⟨p, hp⟩ := gn prims
  obtain ⟨m_Reader, hm_Reader⟩ := gn (List.map eReader)
  obtain ⟨m_string, hm_string⟩ := gn (List.map eS)
  rw [← hp, ← hm_Reader, ← hm_string]
  obtain ⟨p_arith, p_cmp, _, _, _, _, _, _, _, _, _, _, _, _, _, p_len, p_int, p_nth, _⟩ := p
  have nth_Reader := @nthF_Reader
  simp only [Hs_s_spec_HasPrefix, ← hp, ← hm_Reader, ← hm_string] at nth_Reader f_spec_HasPrefix
  generalize hal : alp = al
  rw [s_spec_MayRead]
  conv => lhs; cbv
  refine (loop_al hal (fun v1 => ⟨[.c (.rd true 68 3 (m_Reader a0)), .c (.at (.int .i64 a1)), dd, dd, dd, .c (.ptr (0, 0, 0) 1 0 0), dd, .c (.at (.int .i64 v1)), dd, dd, dd, dd, dd, dd, dd, dd, dd, dd, dd, dd, dd, dd, dd, dd, dd, dd, dd, dd, dd, dd], [((0, 0, 0), ⟨false, true, 37, 1, [[.rd true 9 1 (m_string a2)]]⟩)], 1⟩) (s_spec_MayRead_l1 a0 a1 a2) (fun K g => match g with | .inl v1 => K (.exit 0) ⟨[.c (.rd true 68 3 (m_Reader a0)), .c (.at (.int .i64 a1)), dd, dd, dd, .c (.ptr (0, 0, 0) 1 0 0), dd, .c (.at (.int .i64 v1)), .c (.at (.int .i64 v1)), .c (.rd true 68 3 (m_Reader a0)), .c (.at (.int .i64 (p_int (p_len (m_Reader a0))))), .c (.at (.bool false)), dd, dd, dd, dd, dd, dd, dd, dd, dd, dd, dd, dd, dd, dd, dd, dd, dd, dd], [((0, 0, 0), ⟨false, true, 37, 1, [[.rd true 9 1 (m_string a2)]]⟩)], 2⟩ | .inr (r) => some [.v (.at (.bool r))]) ?_ 0 _ (rfl)).trans (cL ?_)
  · rintro K1 hr1 v1 R1
    rw [s_spec_MayRead_l1, ← hp, ← hm_Reader]
    dsimp only
    conv => lhs; cbv
    refine cD (fun hb2 => ?_) fun hb2 => ?_
    · rw [hb2]
      conv => lhs; cbv
      try rfl
    rw [hb2]
    conv => lhs; cbv
    rw [nth_Reader]
    refine cO (fun hx4 => ?_) ?_
    · rw [hx4]; try rfl
    rintro x3 hx4
    rw [hx4]
    conv => lhs; cbv
    refine cD (fun hb5 => ?_) fun hb5 => ?_
    · rw [hb5]
      conv => lhs; cbv
      try rfl
    rw [hb5]
    conv => lhs; cbv
    rw [nth_Reader]
    rw [hx4]
    conv => lhs; cbv
    rw [f_spec_HasPrefix a2 x3.name]
    refine cO (fun hx8 => ?_) ?_
    · rw [hx8]; try rfl
    rintro r7 hx8
    rw [hx8]
    conv => lhs; cbv
    refine cD (fun hb9 => ?_) fun hb9 => ?_
    · rw [hb9]
      conv => lhs; cbv
      try rfl
    rw [hb9]
    conv => lhs; cbv
    rw [hr1]
    conv => lhs; cbv
    try rfl
  rintro (w10 | w11)
  · conv => lhs; cbv
    try rfl
  rfl
theorem e_s_spec_RevokeReader (F : Fns) (f_spec_l9Copy : Hs_s_spec_l9Copy (F 18)) (f_spec_RemoveReader : Hs_s_spec_RemoveReader (F 19)) (f_spec_MayRead : Hs_s_spec_MayRead (F 20)) : Hs_s_spec_RevokeReader (EvF F Try.f6 (fun _ => [])) := by
  intro a0 a1 a2
  unfold EvF
  obtain ⟨p, hp⟩ := gn prims
  obtain ⟨m_Key, hm_Key⟩ := gn (List.map eKey)
  obtain ⟨m_Reader, hm_Reader⟩ := gn (List.map eReader)
  obtain ⟨m_string, hm_string⟩ := gn (List.map eS)
  rw [← hp, ← hm_Key, ← hm_Reader, ← hm_string]
  obtain ⟨p_arith, p_cmp, _, _, _, _, _, _, _, _, _, _, _, _, _, p_len, _, _, _, _, _, _, _, _, _, _, p_full, _, _, p_own, p_opn, _⟩ := p
  have full_Key := full_gen eKey
  have full_Reader := full_gen eReader
  have own_Key := own_gen eKey (fun _ => rfl)
  have own_Reader := own_gen eReader (fun _ => rfl)
  simp only [Hs_s_spec_l9Copy, Hs_s_spec_RemoveReader, Hs_s_spec_MayRead, ← hp, ← hm_Key, ← hm_Reader, ← hm_string] at full_Key full_Reader own_Key own_Reader f_spec_l9Copy f_spec_RemoveReader f_spec_MayRead
  rw [s_spec_RevokeReader, ← hp]
  dsimp only
  conv => lhs; cbv
  rw [f_spec_l9Copy a0.keys]
  refine cO (fun hx2 => ?_) ?_
  · rw [hx2]; try rfl
  rintro r1 hx2
  rw [hx2]
  conv => lhs; cbv
  rw [f_spec_RemoveReader a0.readers a1 a2]
  refine cO (fun hx4 => ?_) ?_
  · rw [hx4]; try rfl
  rintro r3 hx4
  rw [hx4]
  conv => lhs; cbv
  rw [f_spec_MayRead a0.readers a1 a2]
  refine cO (fun hx6 => ?_) ?_
  · rw [hx6]; try rfl
  rintro r5 hx6
  rw [hx6]
  conv => lhs; cbv
  refine cD (fun hb7 => ?_) fun hb7 => ?_
  · rw [hb7]
    conv => lhs; cbv
    rw [if_pos (full_Key _)]
    conv => lhs; cbv
    rw [own_Key]
    conv => lhs; cbv
    rw [if_pos (full_Reader _)]
    conv => lhs; cbv
    rw [own_Reader]
    conv => lhs; cbv
    try rfl
  rw [hb7]
  conv => lhs; cbv
  refine cC (fun hb8 => ?_) fun hb8 => ?_
  · rw [hb8]
    conv => lhs; cbv
    rw [if_pos (full_Key _)]
    conv => lhs; cbv
    rw [own_Key]
    conv => lhs; cbv
    rw [if_pos (full_Reader _)]
    conv => lhs; cbv
    rw [own_Reader]
    conv => lhs; cbv
    try rfl
  rw [hb8]
  conv => lhs; cbv
  rw [if_pos (full_Key _)]
  conv => lhs; cbv
  rw [own_Key]
  conv => lhs; cbv
  rw [if_pos (full_Reader _)]
  conv => lhs; cbv
  rw [own_Reader]
  conv => lhs; cbv
  try rfl
theorem e_s_slices_Clone_string (F : Fns) : Hs_s_slices_Clone_string (EvF F Try.f54 (fun _ => [])) := by
  intro a0
  unfold EvF
  obtain ⟨p, hp⟩ := gn prims
  obtain ⟨m_string, hm_string⟩ := gn (List.map eS)
  rw [← hp, ← hm_string]
  obtain ⟨_, _, _, _, _, _, _, _, _, _, _, _, _, _, _, p_len, _, _, _, _, _, _, _, p_rapp, p_rlen, p_addN, p_full, p_fits, _, p_own, p_opn, p_lend, _, _, p_both, _⟩ := p
  have h_both : @p_both = @Prims.both prims := congrArg (fun q : Prims => @Prims.both q) hp
  have addn0_string := @addn0F_string
  have fits0_string := @fits0F_string
  have full_string := full_gen eS
  have lend_string := @lendF_string
  have leni_string := @leniF_string
  have nild_string := @nildF_string
  have own_string := own_gen eS (fun _ => rfl)
  have rapp0_string := @rapp0F_string
  simp only [← hp, ← hm_string] at addn0_string fits0_string full_string lend_string nild_string own_string rapp0_string
  simp only [← hp, ← hm_string] at leni_string
  rw [s_slices_Clone_string, ← hp, ← hm_string]
  dsimp only
  conv => lhs; cbv
  rw [h_both]
  refine bothO_eq ?_ (fun h0 => ?_)
  · conv => lhs; cbv
    rw [lend_string]
    conv => lhs; cbv
    refine cD (fun hb1 => ?_) fun hb1 => ?_
    · rw [if_neg (fun x => Bool.noConfusion (hb1.symm.trans x.1))]; try rfl
    rw [if_pos ⟨hb1, trivial⟩]
    conv => lhs; cbv
    rw [rapp0_string, addn0_string]
    conv => lhs; cbv
    rw [if_pos (full_string _)]
    conv => lhs; cbv
    rw [own_string]
    conv => lhs; cbv
    try rfl
  · obtain rfl := leni_string _ h0
    rw [fits0_string]
    simp only [cond_true, Option.bind_some, nild_string]
theorem e_s_impl_copyName (F : Fns) (f_slices_Clone_string : Hs_s_slices_Clone_string (F 54)) : Hs_s_impl_copyName (EvF F Try.f41 (fun _ => [])) := by
  intro a0
  unfold EvF
  obtain ⟨p, hp⟩ := gn prims
  obtain ⟨m_string, hm_string⟩ := gn (List.map eS)
  rw [← hp, ← hm_string]
  obtain ⟨_, _, _, _, _, _, _, _, _, _, _, _, _, _, _, p_len, _, _, _, _, _, _, _, _, _, _, p_full, _, _, p_own, p_opn, _⟩ := p
  have full_string := full_gen eS
  have own_string := own_gen eS (fun _ => rfl)
  simp only [Hs_s_slices_Clone_string, ← hp, ← hm_string] at full_string own_string f_slices_Clone_string
  rw [s_impl_copyName]
  conv => lhs; cbv
  rw [f_slices_Clone_string a0]
  refine cO (fun hx2 => ?_) ?_
  · rw [hx2]; try rfl
  rintro r1 hx2
  rw [hx2]
  conv => lhs; cbv
  rw [if_pos (full_string _)]
  conv => lhs; cbv
  rw [own_string]
  conv => lhs; cbv
  try rfl
theorem e_s_impl_copyKeys (F : Fns) (f_impl_copyName : Hs_s_impl_copyName (F 41)) : Hs_s_impl_copyKeys (EvF F Try.f24 (fun id => if id = 3 then [3, 7, 8, 9] else [])) := by
  intro a0
  unfold EvF
  obtain ⟨p, hp⟩ := gn prims
  obtain ⟨m_Key, hm_Key⟩ := gn (List.map eKey)
  obtain ⟨m_string, hm_string⟩ := gn (List.map eS)
  rw [← hp, ← hm_Key]
  obtain ⟨p_arith, p_cmp, _, _, _, _, _, _, _, _, _, _, _, _, _, p_len, p_int, p_nth, _, _, _, _, _, p_rapp, p_rlen, p_addN, p_full, p_fits, _, p_own, p_opn, _⟩ := p
  have addn_Key := addn_gen eKey
  have full_Key := full_gen eKey
  have full_string := full_gen eS
  have len0_Key := @len0F_Key
  have lit_Key := @litF_Key
  have nth_Key := @nthF_Key
  have opn0_Key := @opn0F_Key
  have own_Key := own_gen eKey (fun _ => rfl)
  have own_string := own_gen eS (fun _ => rfl)
  have rapp_Key := rapp_gen eKey
  simp only [Hs_s_impl_copyName, ← hp, ← hm_Key, ← hm_string] at addn_Key full_Key full_string len0_Key lit_Key nth_Key opn0_Key own_Key own_string rapp_Key f_impl_copyName
  generalize hal : alp = al
  rw [s_impl_copyKeys]
  conv => lhs; cbv
  refine (loop_al hal (fun x => match x with | (v1, v2) => ⟨[dd, dd, dd, .c (.row (0, 0, 0) 66 2 0 (p_len (m_Key v2))), dd, dd, dd, .c (.rd true 66 2 (m_Key a0)), .c (.at (.int .i64 (p_int (p_len (m_Key a0))))), .c (.at (.int .i64 v1)), dd, dd, dd, dd, dd, dd, dd, dd, dd, dd, dd, dd, dd, dd], [((0, 0, 0), ⟨true, false, 66, 2, p_opn (m_Key v2)⟩)], 1⟩) (s_impl_copyKeys_l1 a0) (fun K g => match g with | (v1, v2) => K (.exit 0) ⟨[dd, dd, dd, .c (.row (0, 0, 0) 66 2 0 (p_len (m_Key v2))), dd, dd, dd, .c (.rd true 66 2 (m_Key a0)), .c (.at (.int .i64 (p_int (p_len (m_Key a0))))), .c (.at (.int .i64 v1)), .c (.at (.bool false)), dd, dd, dd, dd, dd, dd, dd, dd, dd, dd, dd, dd, dd], [((0, 0, 0), ⟨true, false, 66, 2, p_opn (m_Key v2)⟩)], 2⟩) ?_ (0, []) _ (by simp only [opn0_Key, len0_Key]; rfl)).trans (cL ?_)
  · rintro K1 hr1 ⟨v1, v2⟩ R1
    rw [s_impl_copyKeys_l1, ← hp, ← hm_Key]
    dsimp only
    conv => lhs; cbv
    refine cD (fun hb3 => ?_) fun hb3 => ?_
    · rw [hb3]
      conv => lhs; cbv
      try rfl
    rw [hb3]
    conv => lhs; cbv
    rw [nth_Key]
    refine cO (fun hx5 => ?_) ?_
    · rw [hx5]; try rfl
    rintro x4 hx5
    rw [hx5]
    conv => lhs; cbv
    rw [f_impl_copyName x4.name]
    refine cO (fun hx7 => ?_) ?_
    · rw [hx7]; try rfl
    rintro r6 hx7
    rw [hx7]
    conv => lhs; cbv
    rw [if_pos (full_string _)]
    conv => lhs; cbv
    rw [own_string]
    conv => lhs; cbv
    rw [lit_Key]
    refine cD (fun hb8 => ?_) fun hb8 => ?_
    · rw [if_neg (fun x => Bool.noConfusion (hb8.symm.trans x.2.1))]; try rfl
    rw [if_pos ⟨full_Key _, hb8, trivial⟩]
    conv => lhs; cbv
    rw [rapp_Key, addn_Key]
    conv => lhs; cbv
    try rfl
  rintro ⟨w9, w10⟩
  conv => lhs; cbv
  rw [if_pos (full_Key _)]
  conv => lhs; cbv
  rw [own_Key]
  conv => lhs; cbv
  try rfl
theorem e_s_impl_copyReaders (F : Fns) (f_impl_copyName : Hs_s_impl_copyName (F 41)) : Hs_s_impl_copyReaders (EvF F Try.f43 (fun id => if id = 3 then [3, 7, 8, 9] else [])) := by
  intro a0
  unfold EvF
  obtain ⟨p, hp⟩ := gn prims
  obtain ⟨m_Reader, hm_Reader⟩ := gn (List.map eReader)
  obtain ⟨m_string, hm_string⟩ := gn (List.map eS)
  rw [← hp, ← hm_Reader]
  obtain ⟨p_arith, p_cmp, _, _, _, _, _, _, _, _, _, _, _, _, _, p_len, p_int, p_nth, _, _, _, _, _, p_rapp, p_rlen, p_addN, p_full, p_fits, _, p_own, p_opn, _⟩ := p
  have addn_Reader := addn_gen eReader
  have full_Reader := full_gen eReader
  have full_string := full_gen eS
  have len0_Reader := @len0F_Reader
  have lit_Reader := @litF_Reader
  have nth_Reader := @nthF_Reader
  have opn0_Reader := @opn0F_Reader
  have own_Reader := own_gen eReader (fun _ => rfl)
  have own_string := own_gen eS (fun _ => rfl)
  have rapp_Reader := rapp_gen eReader
  simp only [Hs_s_impl_copyName, ← hp, ← hm_Reader, ← hm_string] at addn_Reader full_Reader full_string len0_Reader lit_Reader nth_Reader opn0_Reader own_Reader own_string rapp_Reader f_impl_copyName
  generalize hal : alp = al
  rw [s_impl_copyReaders]
  conv => lhs; cbv
  refine (loop_al hal (fun x => match x with | (v1, v2) => ⟨[dd, dd, dd, .c (.row (0, 0, 0) 68 3 0 (p_len (m_Reader v2))), dd, dd, dd, .c (.rd true 68 3 (m_Reader a0)), .c (.at (.int .i64 (p_int (p_len (m_Reader a0))))), .c (.at (.int .i64 v1)), dd, dd, dd, dd, dd, dd, dd, dd, dd, dd, dd, dd, dd, dd, dd, dd], [((0, 0, 0), ⟨true, false, 68, 3, p_opn (m_Reader v2)⟩)], 1⟩) (s_impl_copyReaders_l1 a0) (fun K g => match g with | (v1, v2) => K (.exit 0) ⟨[dd, dd, dd, .c (.row (0, 0, 0) 68 3 0 (p_len (m_Reader v2))), dd, dd, dd, .c (.rd true 68 3 (m_Reader a0)), .c (.at (.int .i64 (p_int (p_len (m_Reader a0))))), .c (.at (.int .i64 v1)), .c (.at (.bool false)), dd, dd, dd, dd, dd, dd, dd, dd, dd, dd, dd, dd, dd, dd, dd], [((0, 0, 0), ⟨true, false, 68, 3, p_opn (m_Reader v2)⟩)], 2⟩) ?_ (0, []) _ (by simp only [opn0_Reader, len0_Reader]; rfl)).trans (cL ?_)
  · rintro K1 hr1 ⟨v1, v2⟩ R1
    rw [s_impl_copyReaders_l1, ← hp, ← hm_Reader]
    dsimp only
    conv => lhs; cbv
    refine cD (fun hb3 => ?_) fun hb3 => ?_
    · rw [hb3]
      conv => lhs; cbv
      try rfl
    rw [hb3]
    conv => lhs; cbv
    rw [nth_Reader]
    refine cO (fun hx5 => ?_) ?_
    · rw [hx5]; try rfl
    rintro x4 hx5
    rw [hx5]
    conv => lhs; cbv
    rw [f_impl_copyName x4.name]
    refine cO (fun hx7 => ?_) ?_
    · rw [hx7]; try rfl
    rintro r6 hx7
    rw [hx7]
    conv => lhs; cbv
    rw [if_pos (full_string _)]
    conv => lhs; cbv
    rw [own_string]
    conv => lhs; cbv
    rw [lit_Reader]
    refine cD (fun hb8 => ?_) fun hb8 => ?_
    · rw [if_neg (fun x => Bool.noConfusion (hb8.symm.trans x.2.1))]; try rfl
    rw [if_pos ⟨full_Reader _, hb8, trivial⟩]
    conv => lhs; cbv
    rw [rapp_Reader, addn_Reader]
    conv => lhs; cbv
    try rfl
  rintro ⟨w9, w10⟩
  conv => lhs; cbv
  rw [if_pos (full_Reader _)]
  conv => lhs; cbv
  rw [own_Reader]
  conv => lhs; cbv
  try rfl
theorem e_s_slices_Equal_string (F : Fns) : Hs_s_slices_Equal_string (EvF F Try.f56 (fun id => if id = 4 then [0, 1, 12, 13] else [])) := by
  intro a0 a1
  unfold EvF
  obtain ⟨p, hp⟩ := gn prims
  obtain ⟨m_string, hm_string⟩ := gn (List.map eS)
  rw [← hp, ← hm_string]
  obtain ⟨p_arith, p_cmp, _, p_scmp, _, _, _, _, _, _, _, _, _, _, _, p_len, p_int, p_nth, _⟩ := p
  have nth_string := @nthF_string
  simp only [← hp, ← hm_string] at nth_string
  generalize hal : alp = al
  rw [s_slices_Equal_string, ← hp, ← hm_string]
  dsimp only
  conv => lhs; cbv
  refine cC (fun hb1 => ?_) fun hb1 => ?_
  · rw [hb1]
    conv => lhs; cbv
    try rfl
  rw [hb1]
  conv => lhs; cbv
  refine (loop_al hal (fun v2 => ⟨[.c (.rd true 9 1 (m_string a0)), .c (.rd true 9 1 (m_string a1)), dd, dd, dd, dd, dd, dd, dd, dd, dd, dd, .c (.at (.int .i64 (p_int (p_len (m_string a0))))), .c (.at (.int .i64 v2)), dd, dd, dd, dd, dd, dd, dd, dd, dd, dd, dd, dd], [], 1⟩) (s_slices_Equal_string_l1 a0 a1) (fun K g => match g with | .inl v2 => K (.exit 0) ⟨[.c (.rd true 9 1 (m_string a0)), .c (.rd true 9 1 (m_string a1)), dd, dd, dd, dd, dd, dd, dd, dd, dd, dd, .c (.at (.int .i64 (p_int (p_len (m_string a0))))), .c (.at (.int .i64 v2)), .c (.at (.bool false)), dd, dd, dd, dd, dd, dd, dd, dd, dd, dd, dd], [], 2⟩ | .inr (r) => some [.v (.at (.bool r))]) ?_ 0 _ (rfl)).trans (cL ?_)
  · rintro K1 hr1 v2 R1
    rw [s_slices_Equal_string_l1, ← hp, ← hm_string]
    dsimp only
    conv => lhs; cbv
    refine cD (fun hb3 => ?_) fun hb3 => ?_
    · rw [hb3]
      conv => lhs; cbv
      try rfl
    rw [hb3]
    conv => lhs; cbv
    rw [nth_string]
    refine cO (fun hx5 => ?_) ?_
    · rw [hx5]; try rfl
    rintro x4 hx5
    rw [hx5]
    conv => lhs; cbv
    rw [nth_string]
    refine cO (fun hx7 => ?_) ?_
    · rw [hx7]; try rfl
    rintro x6 hx7
    rw [hx7]
    conv => lhs; cbv
    refine cD (fun hb8 => ?_) fun hb8 => ?_
    · rw [hb8]
      conv => lhs; cbv
      try rfl
    rw [hb8]
    conv => lhs; cbv
    rw [hr1]
    conv => lhs; cbv
    try rfl
  rintro (w9 | w10)
  · conv => lhs; cbv
    try rfl
  rfl
theorem e_s_impl_HasPrefix (F : Fns) (f_slices_Equal_string : Hs_s_slices_Equal_string (F 56)) : Hs_s_impl_HasPrefix (EvF F Try.f45 (fun _ => [])) := by
  intro a0 a1
  unfold EvF
  obtain ⟨p, hp⟩ := gn prims
  obtain ⟨m_string, hm_string⟩ := gn (List.map eS)
  rw [← hp, ← hm_string]
  obtain ⟨_, p_cmp, _, _, _, _, _, _, _, _, _, _, _, _, _, p_len, p_int, _, p_sub, _⟩ := p
  have sub_string := @subF_string
  simp only [Hs_s_slices_Equal_string, ← hp, ← hm_string] at sub_string f_slices_Equal_string
  rw [s_impl_HasPrefix, ← hp, ← hm_string]
  dsimp only
  conv => lhs; cbv
  refine cD (fun hb1 => ?_) fun hb1 => ?_
  · rw [hb1]
    conv => lhs; cbv
    try rfl
  rw [hb1]
  conv => lhs; cbv
  rw [sub_string]
  refine cO (fun hx3 => ?_) ?_
  · rw [hx3]; try rfl
  rintro x2 hx3
  rw [hx3]
  conv => lhs; cbv
  rw [f_slices_Equal_string x2 a1]
  refine cO (fun hx5 => ?_) ?_
  · rw [hx5]; try rfl
  rintro r4 hx5
  rw [hx5]
  conv => lhs; cbv
  try rfl
theorem e_s_impl_RemoveReader_1 (F : Fns) (f_impl_HasPrefix : Hs_s_impl_HasPrefix (F 45)) : Hs_s_impl_RemoveReader_1 (EvF F Try.f44 (fun _ => [])) := by
  intro a0 k0 k1
  unfold EvF
  obtain ⟨p, hp⟩ := gn prims
  obtain ⟨m_string, hm_string⟩ := gn (List.map eS)
  rw [← hp, ← hm_string]
  obtain ⟨_, p_cmp, _⟩ := p
  simp only [Hs_s_impl_HasPrefix, ← hm_string] at f_impl_HasPrefix
  rw [s_impl_RemoveReader_1, ← hp]
  dsimp only
  conv => lhs; cbv
  refine cD (fun hb1 => ?_) fun hb1 => ?_
  · rw [hb1]
    conv => lhs; cbv
    try rfl
  rw [hb1]
  conv => lhs; cbv
  rw [f_impl_HasPrefix a0.name k1]
  refine cO (fun hx3 => ?_) ?_
  · rw [hx3]; try rfl
  rintro r2 hx3
  rw [hx3]
  conv => lhs; cbv
  refine cC (fun hb4 => ?_) fun hb4 => ?_
  · rw [hb4]
    conv => lhs; cbv
    try rfl
  rw [hb4]
  conv => lhs; cbv
  rw [f_impl_HasPrefix k1 a0.name]
  refine cO (fun hx6 => ?_) ?_
  · rw [hx6]; try rfl
  rintro r5 hx6
  rw [hx6]
  conv => lhs; cbv
  try rfl
theorem e_s_slices_IndexFunc_Reader__RemoveReader_1 (F : Fns) (f_impl_RemoveReader_1 : Hs_s_impl_RemoveReader_1 (F 44)) : Hs_s_slices_IndexFunc_Reader__RemoveReader_1 (EvF F Try.f55 (fun id => if id = 2 then [0, 1, 7, 8] else [])) := by
  intro a0 c1_0 c1_1
  unfold EvF
  obtain ⟨p, hp⟩ := gn prims
  obtain ⟨m_Reader, hm_Reader⟩ := gn (List.map eReader)
  obtain ⟨m_string, hm_string⟩ := gn (List.map eS)
  rw [← hp, ← hm_Reader, ← hm_string]
  obtain ⟨p_arith, p_cmp, _, _, _, _, _, _, _, _, _, _, _, _, _, p_len, p_int, p_nth, _⟩ := p
  have nth_Reader := @nthF_Reader
  simp only [Hs_s_impl_RemoveReader_1, ← hp, ← hm_Reader, ← hm_string] at nth_Reader f_impl_RemoveReader_1
  generalize hal : alp = al
  rw [s_slices_IndexFunc_Reader__RemoveReader_1]
  conv => lhs; cbv
  refine (loop_al hal (fun v1 => ⟨[.c (.rd true 68 3 (m_Reader a0)), .c (.fn 44 [.bp true [.at (.int .i64 c1_0)] 0, .bp true [.sl 9 1 (m_string c1_1)] 0]), dd, dd, dd, dd, dd, .c (.at (.int .i64 (p_int (p_len (m_Reader a0))))), .c (.at (.int .i64 v1)), dd, dd, dd, dd, dd, dd, dd, dd, dd, dd], [], 1⟩) (s_slices_IndexFunc_Reader__RemoveReader_1_l1 a0 c1_0 c1_1) (fun K g => match g with | .inl v1 => K (.exit 0) ⟨[.c (.rd true 68 3 (m_Reader a0)), .c (.fn 44 [.bp true [.at (.int .i64 c1_0)] 0, .bp true [.sl 9 1 (m_string c1_1)] 0]), dd, dd, dd, dd, dd, .c (.at (.int .i64 (p_int (p_len (m_Reader a0))))), .c (.at (.int .i64 v1)), .c (.at (.bool false)), dd, dd, dd, dd, dd, dd, dd, dd, dd], [], 2⟩ | .inr (r) => some [.v (.at (.int .i64 r))]) ?_ 0 _ (rfl)).trans (cL ?_)
  · rintro K1 hr1 v1 R1
    rw [s_slices_IndexFunc_Reader__RemoveReader_1_l1, ← hp, ← hm_Reader]
    dsimp only
    conv => lhs; cbv
    refine cD (fun hb2 => ?_) fun hb2 => ?_
    · rw [hb2]
      conv => lhs; cbv
      try rfl
    rw [hb2]
    conv => lhs; cbv
    rw [nth_Reader]
    refine cO (fun hx4 => ?_) ?_
    · rw [hx4]; try rfl
    rintro x3 hx4
    rw [hx4]
    conv => lhs; cbv
    rw [f_impl_RemoveReader_1 x3 c1_0 c1_1]
    refine cO (fun hx6 => ?_) ?_
    · rw [hx6]; try rfl
    rintro r5 hx6
    rw [hx6]
    conv => lhs; cbv
    refine cD (fun hb7 => ?_) fun hb7 => ?_
    · rw [hb7]
      conv => lhs; cbv
      try rfl
    rw [hb7]
    conv => lhs; cbv
    rw [hr1]
    conv => lhs; cbv
    try rfl
  rintro (w8 | w9)
  · conv => lhs; cbv
    try rfl
  rfl
theorem e_s_impl_RemoveReader (F : Fns) (f_impl_copyReaders : Hs_s_impl_copyReaders (F 43)) (f_slices_DeleteFunc_Reader__RemoveReader_1 : Has_s_slices_DeleteFunc_Reader__RemoveReader_1 F) : Hs_s_impl_RemoveReader (EvF F Try.f25 (fun _ => [])) := by
  intro a0 a1 a2
  unfold EvF
  obtain ⟨p, hp⟩ := gn prims
  obtain ⟨m_Reader, hm_Reader⟩ := gn (List.map eReader)
  obtain ⟨m_string, hm_string⟩ := gn (List.map eS)
  rw [← hp, ← hm_Reader, ← hm_string]
  obtain ⟨_, _, _, _, _, _, _, _, _, _, _, _, _, _, _, p_len, _, _, _, _, _, _, _, _, _, _, p_full, _, _, p_own, p_opn, _⟩ := p
  have full_Reader := full_gen eReader
  have own_Reader := own_gen eReader (fun _ => rfl)
  simp only [Hs_s_impl_copyReaders, Has_s_slices_DeleteFunc_Reader__RemoveReader_1, ← hp, ← hm_Reader, ← hm_string] at full_Reader own_Reader f_impl_copyReaders f_slices_DeleteFunc_Reader__RemoveReader_1
  rw [s_impl_RemoveReader]
  conv => lhs; cbv
  rw [f_impl_copyReaders a0]
  refine cO (fun hx2 => ?_) ?_
  · rw [hx2]; try rfl
  rintro r1 hx2
  rw [hx2]
  conv => lhs; cbv
  rw [if_pos (full_Reader _)]
  conv => lhs; cbv
  rw [own_Reader]
  conv => lhs; cbv
  have hc := f_slices_DeleteFunc_Reader__RemoveReader_1 r1 a1 a2
  try dsimp only at hc
  rw [hc]
  clear hc
  refine cO (fun hx4 => ?_) ?_
  · rw [hx4]; try rfl
  rintro r3 hx4
  rw [hx4]
  conv => lhs; cbv
  repeat (first | rw [own_Reader])
  try conv => lhs; cbv
  conv => lhs; cbv
  rw [if_pos (full_Reader _)]
  conv => lhs; cbv
  rw [own_Reader]
  conv => lhs; cbv
  try rfl
theorem e_s_impl_MayRead_1 (F : Fns) (f_impl_HasPrefix : Hs_s_impl_HasPrefix (F 45)) : Hs_s_impl_MayRead_1 (EvF F Try.f47 (fun _ => [])) := by
  intro a0 k0 k1
  unfold EvF
  obtain ⟨p, hp⟩ := gn prims
  obtain ⟨m_string, hm_string⟩ := gn (List.map eS)
  rw [← hp, ← hm_string]
  obtain ⟨_, p_cmp, _⟩ := p
  simp only [Hs_s_impl_HasPrefix, ← hm_string] at f_impl_HasPrefix
  rw [s_impl_MayRead_1, ← hp]
  dsimp only
  conv => lhs; cbv
  refine cD (fun hb1 => ?_) fun hb1 => ?_
  · rw [hb1]
    conv => lhs; cbv
    try rfl
  rw [hb1]
  conv => lhs; cbv
  rw [f_impl_HasPrefix k1 a0.name]
  refine cO (fun hx3 => ?_) ?_
  · rw [hx3]; try rfl
  rintro r2 hx3
  rw [hx3]
  conv => lhs; cbv
  try rfl
theorem e_s_slices_IndexFunc_Reader__MayRead_1 (F : Fns) (f_impl_MayRead_1 : Hs_s_impl_MayRead_1 (F 47)) : Hs_s_slices_IndexFunc_Reader__MayRead_1 (EvF F Try.f55 (fun id => if id = 2 then [0, 1, 7, 8] else [])) := by
  intro a0 c1_0 c1_1
  unfold EvF
  obtain ⟨p, hp⟩ := gn prims
  obtain ⟨m_Reader, hm_Reader⟩ := gn (List.map eReader)
  obtain ⟨m_string, hm_string⟩ := gn (List.map eS)
  rw [← hp, ← hm_Reader, ← hm_string]
  obtain ⟨p_arith, p_cmp, _, _, _, _, _, _, _, _, _, _, _, _, _, p_len, p_int, p_nth, _⟩ := p
  have nth_Reader := @nthF_Reader
  simp only [Hs_s_impl_MayRead_1, ← hp, ← hm_Reader, ← hm_string] at nth_Reader f_impl_MayRead_1
  generalize hal : alp = al
  rw [s_slices_IndexFunc_Reader__MayRead_1]
  conv => lhs; cbv
  refine (loop_al hal (fun v1 => ⟨[.c (.rd true 68 3 (m_Reader a0)), .c (.fn 47 [.bp true [.at (.int .i64 c1_0)] 0, .bp true [.sl 9 1 (m_string c1_1)] 0]), dd, dd, dd, dd, dd, .c (.at (.int .i64 (p_int (p_len (m_Reader a0))))), .c (.at (.int .i64 v1)), dd, dd, dd, dd, dd, dd, dd, dd, dd, dd], [], 1⟩) (s_slices_IndexFunc_Reader__MayRead_1_l1 a0 c1_0 c1_1) (fun K g => match g with | .inl v1 => K (.exit 0) ⟨[.c (.rd true 68 3 (m_Reader a0)), .c (.fn 47 [.bp true [.at (.int .i64 c1_0)] 0, .bp true [.sl 9 1 (m_string c1_1)] 0]), dd, dd, dd, dd, dd, .c (.at (.int .i64 (p_int (p_len (m_Reader a0))))), .c (.at (.int .i64 v1)), .c (.at (.bool false)), dd, dd, dd, dd, dd, dd, dd, dd, dd], [], 2⟩ | .inr (r) => some [.v (.at (.int .i64 r))]) ?_ 0 _ (rfl)).trans (cL ?_)
  · rintro K1 hr1 v1 R1
    rw [s_slices_IndexFunc_Reader__MayRead_1_l1, ← hp, ← hm_Reader]
    dsimp only
    conv => lhs; cbv
    refine cD (fun hb2 => ?_) fun hb2 => ?_
    · rw [hb2]
      conv => lhs; cbv
      try rfl
    rw [hb2]
    conv => lhs; cbv
    rw [nth_Reader]
    refine cO (fun hx4 => ?_) ?_
    · rw [hx4]; try rfl
    rintro x3 hx4
    rw [hx4]
    conv => lhs; cbv
    rw [f_impl_MayRead_1 x3 c1_0 c1_1]
    refine cO (fun hx6 => ?_) ?_
    · rw [hx6]; try rfl
    rintro r5 hx6
    rw [hx6]
    conv => lhs; cbv
    refine cD (fun hb7 => ?_) fun hb7 => ?_
    · rw [hb7]
      conv => lhs; cbv
      try rfl
    rw [hb7]
    conv => lhs; cbv
    rw [hr1]
    conv => lhs; cbv
    try rfl
  rintro (w8 | w9)
  · conv => lhs; cbv
    try rfl
  rfl
theorem e_s_slices_ContainsFunc_Reader__MayRead_1 (F : Fns) (f_slices_IndexFunc_Reader__MayRead_1 : Hs_s_slices_IndexFunc_Reader__MayRead_1 (F 55)) : Hs_s_slices_ContainsFunc_Reader__MayRead_1 (EvF F Try.f46 (fun _ => [])) := by
  intro a0 c1_0 c1_1
  unfold EvF
  obtain ⟨p, hp⟩ := gn prims
  obtain ⟨m_Reader, hm_Reader⟩ := gn (List.map eReader)
  obtain ⟨m_string, hm_string⟩ := gn (List.map eS)
  rw [← hp, ← hm_Reader, ← hm_string]
  obtain ⟨_, p_cmp, _⟩ := p
  simp only [Hs_s_slices_IndexFunc_Reader__MayRead_1, ← hm_Reader, ← hm_string] at f_slices_IndexFunc_Reader__MayRead_1
  rw [s_slices_ContainsFunc_Reader__MayRead_1, ← hp]
  dsimp only
  conv => lhs; cbv
  rw [f_slices_IndexFunc_Reader__MayRead_1 a0 c1_0 c1_1]
  refine cO (fun hx2 => ?_) ?_
  · rw [hx2]; try rfl
  rintro r1 hx2
  rw [hx2]
  conv => lhs; cbv
  try rfl
theorem e_s_impl_MayRead (F : Fns) (f_slices_ContainsFunc_Reader__MayRead_1 : Hs_s_slices_ContainsFunc_Reader__MayRead_1 (F 46)) : Hs_s_impl_MayRead (EvF F Try.f26 (fun _ => [])) := by
  intro a0 a1 a2
  unfold EvF
  obtain ⟨p, hp⟩ := gn prims
  obtain ⟨m_Reader, hm_Reader⟩ := gn (List.map eReader)
  obtain ⟨m_string, hm_string⟩ := gn (List.map eS)
  rw [← hp, ← hm_Reader, ← hm_string]
  simp only [Hs_s_slices_ContainsFunc_Reader__MayRead_1, ← hm_Reader, ← hm_string] at f_slices_ContainsFunc_Reader__MayRead_1
  rw [s_impl_MayRead]
  conv => lhs; cbv
  rw [f_slices_ContainsFunc_Reader__MayRead_1 a0 a1 a2]
  refine cO (fun hx2 => ?_) ?_
  · rw [hx2]; try rfl
  rintro r1 hx2
  rw [hx2]
  conv => lhs; cbv
  try rfl
theorem e_s_impl_RevokeReader (F : Fns) (f_impl_copyKeys : Hs_s_impl_copyKeys (F 24)) (f_impl_RemoveReader : Hs_s_impl_RemoveReader (F 25)) (f_impl_MayRead : Hs_s_impl_MayRead (F 26)) : Hs_s_impl_RevokeReader (EvF F Try.f9 (fun _ => [])) := by
  intro a0 a1 a2
  unfold EvF
  obtain ⟨p, hp⟩ := gn prims
  obtain ⟨m_Key, hm_Key⟩ := gn (List.map eKey)
  obtain ⟨m_Reader, hm_Reader⟩ := gn (List.map eReader)
  obtain ⟨m_string, hm_string⟩ := gn (List.map eS)
  rw [← hp, ← hm_Key, ← hm_Reader, ← hm_string]
  obtain ⟨p_arith, p_cmp, _, _, _, _, _, _, _, _, _, _, _, _, _, p_len, _, _, _, _, _, _, _, _, _, _, p_full, _, _, p_own, p_opn, _⟩ := p
  have full_Key := full_gen eKey
  have full_Reader := full_gen eReader
  have own_Key := own_gen eKey (fun _ => rfl)
  have own_Reader := own_gen eReader (fun _ => rfl)
  simp only [Hs_s_impl_copyKeys, Hs_s_impl_RemoveReader, Hs_s_impl_MayRead, ← hp, ← hm_Key, ← hm_Reader, ← hm_string] at full_Key full_Reader own_Key own_Reader f_impl_copyKeys f_impl_RemoveReader f_impl_MayRead
  rw [s_impl_RevokeReader, ← hp]
  dsimp only
  conv => lhs; cbv
  rw [f_impl_copyKeys a0.keys]
  refine cO (fun hx2 => ?_) ?_
  · rw [hx2]; try rfl
  rintro r1 hx2
  rw [hx2]
  conv => lhs; cbv
  rw [f_impl_RemoveReader a0.readers a1 a2]
  refine cO (fun hx4 => ?_) ?_
  · rw [hx4]; try rfl
  rintro r3 hx4
  rw [hx4]
  conv => lhs; cbv
  rw [f_impl_MayRead a0.readers a1 a2]
  refine cO (fun hx6 => ?_) ?_
  · rw [hx6]; try rfl
  rintro r5 hx6
  rw [hx6]
  conv => lhs; cbv
  refine cD (fun hb7 => ?_) fun hb7 => ?_
  · rw [hb7]
    conv => lhs; cbv
    rw [if_pos (full_Key _)]
    conv => lhs; cbv
    rw [own_Key]
    conv => lhs; cbv
    rw [if_pos (full_Reader _)]
    conv => lhs; cbv
    rw [own_Reader]
    conv => lhs; cbv
    try rfl
  rw [hb7]
  conv => lhs; cbv
  refine cC (fun hb8 => ?_) fun hb8 => ?_
  · rw [hb8]
    conv => lhs; cbv
    rw [if_pos (full_Key _)]
    conv => lhs; cbv
    rw [own_Key]
    conv => lhs; cbv
    rw [if_pos (full_Reader _)]
    conv => lhs; cbv
    rw [own_Reader]
    conv => lhs; cbv
    try rfl
  rw [hb8]
  conv => lhs; cbv
  rw [if_pos (full_Key _)]
  conv => lhs; cbv
  rw [own_Key]
  conv => lhs; cbv
  rw [if_pos (full_Reader _)]
  conv => lhs; cbv
  rw [own_Reader]
  conv => lhs; cbv
  try rfl
theorem e_s_laws_eqStringS (F : Fns) : Hs_s_laws_eqStringS (EvF F Try.f29 (fun id => if id = 4 then [0, 1, 5] else [])) := by
  intro a0 a1
  unfold EvF
  obtain ⟨p, hp⟩ := gn prims
  obtain ⟨m_string, hm_string⟩ := gn (List.map eS)
  rw [← hp, ← hm_string]
  obtain ⟨p_arith, p_cmp, _, p_scmp, _, _, _, _, _, _, _, _, _, _, _, p_len, p_int, p_nth, _⟩ := p
  have nth_string := @nthF_string
  simp only [← hp, ← hm_string] at nth_string
  generalize hal : alp = al
  rw [s_laws_eqStringS, ← hp, ← hm_string]
  dsimp only
  conv => lhs; cbv
  refine cC (fun hb1 => ?_) fun hb1 => ?_
  · rw [hb1]
    conv => lhs; cbv
    try rfl
  rw [hb1]
  conv => lhs; cbv
  refine (loop_al hal (fun v2 => ⟨[.c (.rd true 9 1 (m_string a0)), .c (.rd true 9 1 (m_string a1)), dd, dd, dd, .c (.at (.int .i64 v2)), dd, dd, dd, dd, dd, dd, dd, dd, dd, dd, dd, dd, dd, dd, dd, dd, dd, dd, dd, dd], [], 1⟩) (s_laws_eqStringS_l1 a0 a1) (fun K g => match g with | .inl v2 => K (.exit 0) ⟨[.c (.rd true 9 1 (m_string a0)), .c (.rd true 9 1 (m_string a1)), dd, dd, dd, .c (.at (.int .i64 v2)), dd, dd, dd, dd, dd, .c (.at (.int .i64 v2)), .c (.rd true 9 1 (m_string a0)), .c (.at (.int .i64 (p_int (p_len (m_string a0))))), .c (.at (.bool false)), dd, dd, dd, dd, dd, dd, dd, dd, dd, dd, dd], [], 2⟩ | .inr (r) => some [.v (.at (.bool r))]) ?_ 0 _ (rfl)).trans (cL ?_)
  · rintro K1 hr1 v2 R1
    rw [s_laws_eqStringS_l1, ← hp, ← hm_string]
    dsimp only
    conv => lhs; cbv
    refine cD (fun hb3 => ?_) fun hb3 => ?_
    · rw [hb3]
      conv => lhs; cbv
      try rfl
    rw [hb3]
    conv => lhs; cbv
    rw [nth_string]
    refine cO (fun hx5 => ?_) ?_
    · rw [hx5]; try rfl
    rintro x4 hx5
    rw [hx5]
    conv => lhs; cbv
    rw [nth_string]
    refine cO (fun hx7 => ?_) ?_
    · rw [hx7]; try rfl
    rintro x6 hx7
    rw [hx7]
    conv => lhs; cbv
    refine cD (fun hb8 => ?_) fun hb8 => ?_
    · rw [hb8]
      conv => lhs; cbv
      try rfl
    rw [hb8]
    conv => lhs; cbv
    rw [hr1]
    conv => lhs; cbv
    try rfl
  rintro (w9 | w10)
  · conv => lhs; cbv
    try rfl
  rfl
theorem e_s_laws_eqName (F : Fns) (f_laws_eqStringS : Hs_s_laws_eqStringS (F 29)) : Hs_s_laws_eqName (EvF F Try.f11 (fun _ => [])) := by
  intro a0 a1
  unfold EvF
  obtain ⟨p, hp⟩ := gn prims
  obtain ⟨m_string, hm_string⟩ := gn (List.map eS)
  rw [← hp, ← hm_string]
  obtain ⟨_, _, _, _, _, _, _, _, _, _, _, p_bnot, _⟩ := p
  simp only [Hs_s_laws_eqStringS, ← hm_string] at f_laws_eqStringS
  rw [s_laws_eqName, ← hp]
  dsimp only
  conv => lhs; cbv
  rw [f_laws_eqStringS a0 a1]
  refine cO (fun hx2 => ?_) ?_
  · rw [hx2]; try rfl
  rintro r1 hx2
  rw [hx2]
  conv => lhs; cbv
  refine cC (fun hb3 => ?_) fun hb3 => ?_
  · rw [hb3]
    conv => lhs; cbv
    try rfl
  rw [hb3]
  conv => lhs; cbv
  try rfl
theorem e_s_laws_eqKey (F : Fns) (f_laws_eqName : Hs_s_laws_eqName (F 11)) : Hs_s_laws_eqKey (EvF F Try.f48 (fun _ => [])) := by
  intro a0 a1
  unfold EvF
  obtain ⟨p, hp⟩ := gn prims
  obtain ⟨m_string, hm_string⟩ := gn (List.map eS)
  rw [← hp, ← hm_string]
  obtain ⟨_, p_cmp, _, _, _, _, _, _, _, _, _, p_bnot, _⟩ := p
  simp only [Hs_s_laws_eqName, ← hm_string] at f_laws_eqName
  rw [s_laws_eqKey, ← hp]
  dsimp only
  conv => lhs; cbv
  rw [f_laws_eqName a0.name a1.name]
  refine cO (fun hx2 => ?_) ?_
  · rw [hx2]; try rfl
  rintro r1 hx2
  rw [hx2]
  conv => lhs; cbv
  refine cC (fun hb3 => ?_) fun hb3 => ?_
  · rw [hb3]
    conv => lhs; cbv
    try rfl
  rw [hb3]
  conv => lhs; cbv
  refine cC (fun hb4 => ?_) fun hb4 => ?_
  · rw [hb4]
    conv => lhs; cbv
    try rfl
  rw [hb4]
  conv => lhs; cbv
  try rfl
theorem e_s_laws_eqKeyS (F : Fns) (f_laws_eqKey : Hs_s_laws_eqKey (F 48)) : Hs_s_laws_eqKeyS (EvF F Try.f27 (fun id => if id = 4 then [0, 1, 5] else [])) := by
  intro a0 a1
  unfold EvF
  obtain ⟨p, hp⟩ := gn prims
  obtain ⟨m_Key, hm_Key⟩ := gn (List.map eKey)
  obtain ⟨m_string, hm_string⟩ := gn (List.map eS)
  rw [← hp, ← hm_Key]
  obtain ⟨p_arith, p_cmp, _, _, _, _, _, _, _, _, _, p_bnot, _, _, _, p_len, p_int, p_nth, _⟩ := p
  have nth_Key := @nthF_Key
  simp only [Hs_s_laws_eqKey, ← hp, ← hm_Key, ← hm_string] at nth_Key f_laws_eqKey
  generalize hal : alp = al
  rw [s_laws_eqKeyS, ← hp, ← hm_Key]
  dsimp only
  conv => lhs; cbv
  refine cC (fun hb1 => ?_) fun hb1 => ?_
  · rw [hb1]
    conv => lhs; cbv
    try rfl
  rw [hb1]
  conv => lhs; cbv
  refine (loop_al hal (fun v2 => ⟨[.c (.rd true 66 2 (m_Key a0)), .c (.rd true 66 2 (m_Key a1)), dd, dd, dd, .c (.at (.int .i64 v2)), dd, dd, dd, dd, dd, dd, dd, dd, dd, dd, dd, dd, dd, dd, dd, dd, dd, dd, dd, dd, dd], [], 1⟩) (s_laws_eqKeyS_l1 a0 a1) (fun K g => match g with | .inl v2 => K (.exit 0) ⟨[.c (.rd true 66 2 (m_Key a0)), .c (.rd true 66 2 (m_Key a1)), dd, dd, dd, .c (.at (.int .i64 v2)), dd, dd, dd, dd, dd, .c (.at (.int .i64 v2)), .c (.rd true 66 2 (m_Key a0)), .c (.at (.int .i64 (p_int (p_len (m_Key a0))))), .c (.at (.bool false)), dd, dd, dd, dd, dd, dd, dd, dd, dd, dd, dd, dd], [], 2⟩ | .inr (r) => some [.v (.at (.bool r))]) ?_ 0 _ (rfl)).trans (cL ?_)
  · rintro K1 hr1 v2 R1
    rw [s_laws_eqKeyS_l1, ← hp, ← hm_Key]
    dsimp only
    conv => lhs; cbv
    refine cD (fun hb3 => ?_) fun hb3 => ?_
    · rw [hb3]
      conv => lhs; cbv
      try rfl
    rw [hb3]
    conv => lhs; cbv
    rw [nth_Key]
    refine cO (fun hx5 => ?_) ?_
    · rw [hx5]; try rfl
    rintro x4 hx5
    rw [hx5]
    conv => lhs; cbv
    rw [nth_Key]
    refine cO (fun hx7 => ?_) ?_
    · rw [hx7]; try rfl
    rintro x6 hx7
    rw [hx7]
    conv => lhs; cbv
    rw [f_laws_eqKey x4 x6]
    refine cO (fun hx9 => ?_) ?_
    · rw [hx9]; try rfl
    rintro r8 hx9
    rw [hx9]
    conv => lhs; cbv
    refine cD (fun hb10 => ?_) fun hb10 => ?_
    · rw [hb10]
      conv => lhs; cbv
      try rfl
    rw [hb10]
    conv => lhs; cbv
    rw [hr1]
    conv => lhs; cbv
    try rfl
  rintro (w11 | w12)
  · conv => lhs; cbv
    try rfl
  rfl
theorem e_s_laws_eqReader (F : Fns) (f_laws_eqName : Hs_s_laws_eqName (F 11)) : Hs_s_laws_eqReader (EvF F Try.f49 (fun _ => [])) := by
  intro a0 a1
  unfold EvF
  obtain ⟨p, hp⟩ := gn prims
  obtain ⟨m_string, hm_string⟩ := gn (List.map eS)
  rw [← hp, ← hm_string]
  obtain ⟨_, p_cmp, _, _, _, _, _, _, _, _, _, p_bnot, _⟩ := p
  simp only [Hs_s_laws_eqName, ← hm_string] at f_laws_eqName
  rw [s_laws_eqReader, ← hp]
  dsimp only
  conv => lhs; cbv
  refine cC (fun hb1 => ?_) fun hb1 => ?_
  · rw [hb1]
    conv => lhs; cbv
    try rfl
  rw [hb1]
  conv => lhs; cbv
  rw [f_laws_eqName a0.name a1.name]
  refine cO (fun hx3 => ?_) ?_
  · rw [hx3]; try rfl
  rintro r2 hx3
  rw [hx3]
  conv => lhs; cbv
  refine cC (fun hb4 => ?_) fun hb4 => ?_
  · rw [hb4]
    conv => lhs; cbv
    try rfl
  rw [hb4]
  conv => lhs; cbv
  refine cC (fun hb5 => ?_) fun hb5 => ?_
  · rw [hb5]
    conv => lhs; cbv
    try rfl
  rw [hb5]
  conv => lhs; cbv
  try rfl
theorem e_s_laws_eqReaderS (F : Fns) (f_laws_eqReader : Hs_s_laws_eqReader (F 49)) : Hs_s_laws_eqReaderS (EvF F Try.f28 (fun id => if id = 4 then [0, 1, 5] else [])) := by
  intro a0 a1
  unfold EvF
  obtain ⟨p, hp⟩ := gn prims
  obtain ⟨m_Reader, hm_Reader⟩ := gn (List.map eReader)
  obtain ⟨m_string, hm_string⟩ := gn (List.map eS)
  rw [← hp, ← hm_Reader]
  obtain ⟨p_arith, p_cmp, _, _, _, _, _, _, _, _, _, p_bnot, _, _, _, p_len, p_int, p_nth, _⟩ := p
  have nth_Reader := @nthF_Reader
  simp only [Hs_s_laws_eqReader, ← hp, ← hm_Reader, ← hm_string] at nth_Reader f_laws_eqReader
  generalize hal : alp = al
  rw [s_laws_eqReaderS, ← hp, ← hm_Reader]
  dsimp only
  conv => lhs; cbv
  refine cC (fun hb1 => ?_) fun hb1 => ?_
  · rw [hb1]
    conv => lhs; cbv
    try rfl
  rw [hb1]
  conv => lhs; cbv
  refine (loop_al hal (fun v2 => ⟨[.c (.rd true 68 3 (m_Reader a0)), .c (.rd true 68 3 (m_Reader a1)), dd, dd, dd, .c (.at (.int .i64 v2)), dd, dd, dd, dd, dd, dd, dd, dd, dd, dd, dd, dd, dd, dd, dd, dd, dd, dd, dd, dd, dd], [], 1⟩) (s_laws_eqReaderS_l1 a0 a1) (fun K g => match g with | .inl v2 => K (.exit 0) ⟨[.c (.rd true 68 3 (m_Reader a0)), .c (.rd true 68 3 (m_Reader a1)), dd, dd, dd, .c (.at (.int .i64 v2)), dd, dd, dd, dd, dd, .c (.at (.int .i64 v2)), .c (.rd true 68 3 (m_Reader a0)), .c (.at (.int .i64 (p_int (p_len (m_Reader a0))))), .c (.at (.bool false)), dd, dd, dd, dd, dd, dd, dd, dd, dd, dd, dd, dd], [], 2⟩ | .inr (r) => some [.v (.at (.bool r))]) ?_ 0 _ (rfl)).trans (cL ?_)
  · rintro K1 hr1 v2 R1
    rw [s_laws_eqReaderS_l1, ← hp, ← hm_Reader]
    dsimp only
    conv => lhs; cbv
    refine cD (fun hb3 => ?_) fun hb3 => ?_
    · rw [hb3]
      conv => lhs; cbv
      try rfl
    rw [hb3]
    conv => lhs; cbv
    rw [nth_Reader]
    refine cO (fun hx5 => ?_) ?_
    · rw [hx5]; try rfl
    rintro x4 hx5
    rw [hx5]
    conv => lhs; cbv
    rw [nth_Reader]
    refine cO (fun hx7 => ?_) ?_
    · rw [hx7]; try rfl
    rintro x6 hx7
    rw [hx7]
    conv => lhs; cbv
    rw [f_laws_eqReader x4 x6]
    refine cO (fun hx9 => ?_) ?_
    · rw [hx9]; try rfl
    rintro r8 hx9
    rw [hx9]
    conv => lhs; cbv
    refine cD (fun hb10 => ?_) fun hb10 => ?_
    · rw [hb10]
      conv => lhs; cbv
      try rfl
    rw [hb10]
    conv => lhs; cbv
    rw [hr1]
    conv => lhs; cbv
    try rfl
  rintro (w11 | w12)
  · conv => lhs; cbv
    try rfl
  rfl
theorem e_s_laws_eqAccessController (F : Fns) (f_laws_eqKeyS : Hs_s_laws_eqKeyS (F 27)) (f_laws_eqReaderS : Hs_s_laws_eqReaderS (F 28)) : Hs_s_laws_eqAccessController (EvF F Try.f10 (fun _ => [])) := by
  intro a0 a1
  unfold EvF
  obtain ⟨p, hp⟩ := gn prims
  obtain ⟨m_Key, hm_Key⟩ := gn (List.map eKey)
  obtain ⟨m_Reader, hm_Reader⟩ := gn (List.map eReader)
  rw [← hp, ← hm_Key, ← hm_Reader]
  obtain ⟨_, p_cmp, _, _, _, _, _, _, _, _, _, p_bnot, _⟩ := p
  simp only [Hs_s_laws_eqKeyS, Hs_s_laws_eqReaderS, ← hm_Key, ← hm_Reader] at f_laws_eqKeyS f_laws_eqReaderS
  rw [s_laws_eqAccessController, ← hp]
  dsimp only
  conv => lhs; cbv
  rw [f_laws_eqKeyS a0.keys a1.keys]
  refine cO (fun hx2 => ?_) ?_
  · rw [hx2]; try rfl
  rintro r1 hx2
  rw [hx2]
  conv => lhs; cbv
  refine cC (fun hb3 => ?_) fun hb3 => ?_
  · rw [hb3]
    conv => lhs; cbv
    try rfl
  rw [hb3]
  conv => lhs; cbv
  refine cC (fun hb4 => ?_) fun hb4 => ?_
  · rw [hb4]
    conv => lhs; cbv
    try rfl
  rw [hb4]
  conv => lhs; cbv
  refine cC (fun hb5 => ?_) fun hb5 => ?_
  · rw [hb5]
    conv => lhs; cbv
    try rfl
  rw [hb5]
  conv => lhs; cbv
  rw [f_laws_eqReaderS a0.readers a1.readers]
  refine cO (fun hx7 => ?_) ?_
  · rw [hx7]; try rfl
  rintro r6 hx7
  rw [hx7]
  conv => lhs; cbv
  refine cC (fun hb8 => ?_) fun hb8 => ?_
  · rw [hb8]
    conv => lhs; cbv
    try rfl
  rw [hb8]
  conv => lhs; cbv
  try rfl
theorem e_s_laws_markText (F : Fns) : Hs_s_laws_markText (EvF F Try.f50 (fun id => if id = 4 then [0, 3] else [])) := by
  intro a0
  unfold EvF
  obtain ⟨p, hp⟩ := gn prims
  obtain ⟨m_byte, hm_byte⟩ := gn (List.map eY)
  rw [← hp]
  obtain ⟨p_arith, p_cmp, p_wrap, _, p_scat, p_catOk, _, _, _, _, p_str, _, _, _, _, _, _, _, _, _, _, _, _, _, _, _, _, _, _, _, _, _, _, _, _, p_yI, p_ofB, p_byW, _⟩ := p
  have mcons_byte := @mconsF_byte
  have nild_byte := @nildF_byte
  have str_byte := @strF_byte
  have wy_byte := @wyF_byte
  simp only [← hp, ← hm_byte] at mcons_byte nild_byte str_byte wy_byte
  generalize hal : alp = al
  rw [s_laws_markText, ← hp]
  dsimp only
  conv => lhs; cbv
  refine cC (fun hb1 => ?_) fun hb1 => ?_
  · rw [hb1]
    conv => lhs; cbv
    try rfl
  rw [hb1]
  conv => lhs; cbv
  refine (loop_al hal (fun x => match x with | (v2, v3) => ⟨[.c (.at (.int .i64 v2)), dd, dd, .c (.at (.string v3)), dd, dd, dd, dd, dd, dd, dd, dd, dd, dd, dd, dd, dd, dd, dd, dd], [], 1⟩) (s_laws_markText_l1) (fun K g => match g with | (v2, v3) => K (.exit 0) ⟨[.c (.at (.int .i64 v2)), dd, dd, .c (.at (.string v3)), dd, dd, .c (.at (.int .i64 v2)), .c (.at (.bool false)), dd, dd, dd, dd, dd, dd, dd, dd, dd, dd, dd, dd], [], 2⟩) ?_ (a0, (ByteArray.mk (Array.mk []))) _ (rfl)).trans (cL ?_)
  · rintro K1 hr1 ⟨v2, v3⟩ R1
    rw [s_laws_markText_l1, ← hp]
    dsimp only
    conv => lhs; cbv
    refine cD (fun hb4 => ?_) fun hb4 => ?_
    · rw [hb4]
      conv => lhs; cbv
      try rfl
    rw [hb4]
    conv => lhs; cbv
    refine cC (fun hb5 => ?_) fun hb5 => ?_
    · rw [if_pos hb5]
      try rw [hb5]
      conv => lhs; cbv
      try rfl
    rw [if_neg (Bool.eq_false_iff.1 hb5)]
    try rw [hb5]
    conv => lhs; cbv
    rw [wy_byte]
    conv => lhs; cbv
    rw [← (show (m_byte [(p_byW (p_arith .add .i64 48 (p_arith .rem .i64 v2 10)))]) = [[DT.at (.int .u8 (p_yI (p_byW (p_arith .add .i64 48 (p_arith .rem .i64 v2 10)))))]] by rw [mcons_byte, nild_byte])]
    rw [str_byte]
    conv => lhs; cbv
    refine cD (fun hb6 => ?_) fun hb6 => ?_
    · rw [if_neg (Bool.eq_false_iff.1 hb6)]
      try rw [hb6]
      conv => lhs; cbv
      try rfl
    rw [if_pos hb6]
    try rw [hb6]
    conv => lhs; cbv
    rw [if_neg (Bool.eq_false_iff.1 hb5)]
    conv => lhs; cbv
    try rfl
  rintro ⟨w7, w8⟩
  conv => lhs; cbv
  refine cC (fun hb9 => ?_) fun hb9 => ?_
  · rw [if_pos hb9]
    try rw [hb9]
    conv => lhs; cbv
    try rfl
  rw [if_neg (Bool.eq_false_iff.1 hb9)]
  try rw [hb9]
  conv => lhs; cbv
  try rfl
theorem e_s_laws_heldStringS (F : Fns) (f_laws_markText : Hs_s_laws_markText (F 50)) : Hs_s_laws_heldStringS (EvF F Try.f51 (fun id => if id = 2 then [0, 1, 5] else [])) := by
  intro a0 a1
  unfold EvF
  obtain ⟨p, hp⟩ := gn prims
  obtain ⟨m_string, hm_string⟩ := gn (List.map eS)
  rw [← hp, ← hm_string]
  obtain ⟨p_arith, p_cmp, _, p_scmp, _, _, _, _, _, _, _, _, _, _, _, p_len, p_int, p_nth, _⟩ := p
  have nth_string := @nthF_string
  simp only [Hs_s_laws_markText, ← hp, ← hm_string] at nth_string f_laws_markText
  generalize hal : alp = al
  rw [s_laws_heldStringS]
  conv => lhs; cbv
  refine (loop_al hal (fun x => match x with | (v1, v2) => ⟨[.c (.rd true 9 1 (m_string a0)), .c (.at (.int .i64 v1)), dd, dd, dd, .c (.at (.int .i64 v2)), dd, dd, dd, dd, dd, dd, dd, dd, dd, dd, dd, dd, dd, dd, dd, dd], [], 1⟩) (s_laws_heldStringS_l1 a0) (fun K g => match g with | .inl (v1, v2) => K (.exit 0) ⟨[.c (.rd true 9 1 (m_string a0)), .c (.at (.int .i64 v1)), dd, dd, dd, .c (.at (.int .i64 v2)), .c (.at (.int .i64 v2)), .c (.rd true 9 1 (m_string a0)), .c (.at (.int .i64 (p_int (p_len (m_string a0))))), .c (.at (.bool false)), dd, dd, dd, dd, dd, dd, dd, dd, dd, dd, dd, dd], [], 2⟩ | .inr (r) => some [.v (.at (.int .i64 r))]) ?_ (a1, 0) _ (rfl)).trans (cL ?_)
  · rintro K1 hr1 ⟨v1, v2⟩ R1
    rw [s_laws_heldStringS_l1, ← hp, ← hm_string]
    dsimp only
    conv => lhs; cbv
    refine cD (fun hb3 => ?_) fun hb3 => ?_
    · rw [hb3]
      conv => lhs; cbv
      try rfl
    rw [hb3]
    conv => lhs; cbv
    rw [nth_string]
    refine cO (fun hx5 => ?_) ?_
    · rw [hx5]; try rfl
    rintro x4 hx5
    rw [hx5]
    conv => lhs; cbv
    rw [f_laws_markText v1]
    refine cO (fun hx7 => ?_) ?_
    · rw [hx7]; try rfl
    rintro r6 hx7
    rw [hx7]
    conv => lhs; cbv
    refine cD (fun hb8 => ?_) fun hb8 => ?_
    · rw [hb8]
      conv => lhs; cbv
      try rfl
    rw [hb8]
    conv => lhs; cbv
    rw [hr1]
    conv => lhs; cbv
    try rfl
  rintro (⟨w9, w10⟩ | w11)
  · conv => lhs; cbv
    try rfl
  rfl
theorem e_s_laws_heldKeyS (F : Fns) (f_laws_heldStringS : Hs_s_laws_heldStringS (F 51)) : Hs_s_laws_heldKeyS (EvF F Try.f33 (fun id => if id = 2 then [0, 1, 5] else [])) := by
  intro a0 a1
  unfold EvF
  obtain ⟨p, hp⟩ := gn prims
  obtain ⟨m_Key, hm_Key⟩ := gn (List.map eKey)
  obtain ⟨m_string, hm_string⟩ := gn (List.map eS)
  rw [← hp, ← hm_Key]
  obtain ⟨p_arith, p_cmp, _, _, _, _, _, _, _, _, _, _, _, _, _, p_len, p_int, p_nth, _⟩ := p
  have nth_Key := @nthF_Key
  simp only [Hs_s_laws_heldStringS, ← hp, ← hm_Key, ← hm_string] at nth_Key f_laws_heldStringS
  generalize hal : alp = al
  rw [s_laws_heldKeyS]
  conv => lhs; cbv
  refine (loop_al hal (fun x => match x with | (v1, v2) => ⟨[.c (.rd true 66 2 (m_Key a0)), .c (.at (.int .i64 v1)), dd, dd, dd, .c (.at (.int .i64 v2)), dd, dd, dd, dd, dd, dd, dd, dd, dd, dd, dd, dd, dd, dd, dd, dd, dd, dd, dd, dd, dd, dd, dd, dd, dd, dd], [], 1⟩) (s_laws_heldKeyS_l1 a0) (fun K g => match g with | .inl (v1, v2) => K (.exit 0) ⟨[.c (.rd true 66 2 (m_Key a0)), .c (.at (.int .i64 v1)), dd, dd, dd, .c (.at (.int .i64 v2)), .c (.at (.int .i64 v2)), .c (.rd true 66 2 (m_Key a0)), .c (.at (.int .i64 (p_int (p_len (m_Key a0))))), .c (.at (.bool false)), dd, dd, dd, dd, dd, dd, dd, dd, dd, dd, dd, dd, dd, dd, dd, dd, dd, dd, dd, dd, dd, dd], [], 2⟩ | .inr (r) => some [.v (.at (.int .i64 r))]) ?_ (a1, 0) _ (rfl)).trans (cL ?_)
  · rintro K1 hr1 ⟨v1, v2⟩ R1
    rw [s_laws_heldKeyS_l1, ← hp, ← hm_Key]
    dsimp only
    conv => lhs; cbv
    refine cD (fun hb3 => ?_) fun hb3 => ?_
    · rw [hb3]
      conv => lhs; cbv
      try rfl
    rw [hb3]
    conv => lhs; cbv
    rw [nth_Key]
    refine cO (fun hx5 => ?_) ?_
    · rw [hx5]; try rfl
    rintro x4 hx5
    rw [hx5]
    conv => lhs; cbv
    rw [f_laws_heldStringS x4.name v1]
    refine cO (fun hx7 => ?_) ?_
    · rw [hx7]; try rfl
    rintro r6 hx7
    rw [hx7]
    conv => lhs; cbv
    refine cC (fun hb8 => ?_) fun hb8 => ?_
    · rw [hb8]
      conv => lhs; cbv
      rw [hr1]
      conv => lhs; cbv
      try rfl
    rw [hb8]
    conv => lhs; cbv
    rw [nth_Key]
    rw [hx5]
    conv => lhs; cbv
    refine cD (fun hb10 => ?_) fun hb10 => ?_
    · rw [hb10]
      conv => lhs; cbv
      try rfl
    rw [hb10]
    conv => lhs; cbv
    rw [hr1]
    conv => lhs; cbv
    try rfl
  rintro (⟨w11, w12⟩ | w13)
  · conv => lhs; cbv
    try rfl
  rfl
theorem e_s_laws_heldReaderS (F : Fns) (f_laws_heldStringS : Hs_s_laws_heldStringS (F 51)) : Hs_s_laws_heldReaderS (EvF F Try.f34 (fun id => if id = 2 then [0, 1, 5] else [])) := by
  intro a0 a1
  unfold EvF
  obtain ⟨p, hp⟩ := gn prims
  obtain ⟨m_Reader, hm_Reader⟩ := gn (List.map eReader)
  obtain ⟨m_string, hm_string⟩ := gn (List.map eS)
  rw [← hp, ← hm_Reader]
  obtain ⟨p_arith, p_cmp, _, _, _, _, _, _, _, _, _, _, _, _, _, p_len, p_int, p_nth, _⟩ := p
  have nth_Reader := @nthF_Reader
  simp only [Hs_s_laws_heldStringS, ← hp, ← hm_Reader, ← hm_string] at nth_Reader f_laws_heldStringS
  generalize hal : alp = al
  rw [s_laws_heldReaderS]
  conv => lhs; cbv
  refine (loop_al hal (fun x => match x with | (v1, v2) => ⟨[.c (.rd true 68 3 (m_Reader a0)), .c (.at (.int .i64 v1)), dd, dd, dd, .c (.at (.int .i64 v2)), dd, dd, dd, dd, dd, dd, dd, dd, dd, dd, dd, dd, dd, dd, dd, dd, dd, dd, dd, dd, dd, dd, dd, dd, dd, dd, dd, dd, dd, dd, dd, dd, dd, dd, dd], [], 1⟩) (s_laws_heldReaderS_l1 a0) (fun K g => match g with | .inl (v1, v2) => K (.exit 0) ⟨[.c (.rd true 68 3 (m_Reader a0)), .c (.at (.int .i64 v1)), dd, dd, dd, .c (.at (.int .i64 v2)), .c (.at (.int .i64 v2)), .c (.rd true 68 3 (m_Reader a0)), .c (.at (.int .i64 (p_int (p_len (m_Reader a0))))), .c (.at (.bool false)), dd, dd, dd, dd, dd, dd, dd, dd, dd, dd, dd, dd, dd, dd, dd, dd, dd, dd, dd, dd, dd, dd, dd, dd, dd, dd, dd, dd, dd, dd, dd], [], 2⟩ | .inr (r) => some [.v (.at (.int .i64 r))]) ?_ (a1, 0) _ (rfl)).trans (cL ?_)
  · rintro K1 hr1 ⟨v1, v2⟩ R1
    rw [s_laws_heldReaderS_l1, ← hp, ← hm_Reader]
    dsimp only
    conv => lhs; cbv
    refine cD (fun hb3 => ?_) fun hb3 => ?_
    · rw [hb3]
      conv => lhs; cbv
      try rfl
    rw [hb3]
    conv => lhs; cbv
    rw [nth_Reader]
    refine cO (fun hx5 => ?_) ?_
    · rw [hx5]; try rfl
    rintro x4 hx5
    rw [hx5]
    conv => lhs; cbv
    refine cC (fun hb6 => ?_) fun hb6 => ?_
    · rw [hb6]
      conv => lhs; cbv
      rw [hr1]
      conv => lhs; cbv
      try rfl
    rw [hb6]
    conv => lhs; cbv
    rw [nth_Reader]
    rw [hx5]
    conv => lhs; cbv
    rw [f_laws_heldStringS x4.name (p_arith .add .i64 v1 1)]
    refine cO (fun hx9 => ?_) ?_
    · rw [hx9]; try rfl
    rintro r8 hx9
    rw [hx9]
    conv => lhs; cbv
    refine cC (fun hb10 => ?_) fun hb10 => ?_
    · rw [hb10]
      conv => lhs; cbv
      rw [hr1]
      conv => lhs; cbv
      try rfl
    rw [hb10]
    conv => lhs; cbv
    rw [nth_Reader]
    rw [hx5]
    conv => lhs; cbv
    refine cD (fun hb12 => ?_) fun hb12 => ?_
    · rw [hb12]
      conv => lhs; cbv
      try rfl
    rw [hb12]
    conv => lhs; cbv
    rw [hr1]
    conv => lhs; cbv
    try rfl
  rintro (⟨w13, w14⟩ | w15)
  · conv => lhs; cbv
    try rfl
  rfl
theorem e_s_laws_heldAccessController (F : Fns) (f_laws_heldKeyS : Hs_s_laws_heldKeyS (F 33)) (f_laws_heldReaderS : Hs_s_laws_heldReaderS (F 34)) : Hs_s_laws_heldAccessController (EvF F Try.f14 (fun _ => [])) := by
  intro a0 a1
  unfold EvF
  obtain ⟨p, hp⟩ := gn prims
  obtain ⟨m_Key, hm_Key⟩ := gn (List.map eKey)
  obtain ⟨m_Reader, hm_Reader⟩ := gn (List.map eReader)
  rw [← hp, ← hm_Key, ← hm_Reader]
  obtain ⟨_, p_cmp, _⟩ := p
  simp only [Hs_s_laws_heldKeyS, Hs_s_laws_heldReaderS, ← hm_Key, ← hm_Reader] at f_laws_heldKeyS f_laws_heldReaderS
  rw [s_laws_heldAccessController, ← hp]
  dsimp only
  conv => lhs; cbv
  rw [f_laws_heldKeyS a0.keys a1]
  refine cO (fun hx2 => ?_) ?_
  · rw [hx2]; try rfl
  rintro r1 hx2
  rw [hx2]
  conv => lhs; cbv
  refine cC (fun hb3 => ?_) fun hb3 => ?_
  · rw [hb3]
    conv => lhs; cbv
    try rfl
  rw [hb3]
  conv => lhs; cbv
  rw [f_laws_heldReaderS a0.readers r1]
  refine cO (fun hx5 => ?_) ?_
  · rw [hx5]; try rfl
  rintro r4 hx5
  rw [hx5]
  conv => lhs; cbv
  refine cC (fun hb6 => ?_) fun hb6 => ?_
  · rw [hb6]
    conv => lhs; cbv
    try rfl
  rw [hb6]
  conv => lhs; cbv
  try rfl
theorem e_s_laws_FnExactRevokeReader (F : Fns) (f_laws_szAccessController : Hs_s_laws_szAccessController (F 4)) (f_laws_szName : Hs_s_laws_szName (F 5)) (f_laws_toAccessController : Hs_s_laws_toAccessController (F 7)) (f_laws_toName : Hs_s_laws_toName (F 8)) (f_spec_RevokeReader : Hs_s_spec_RevokeReader (F 6)) (f_impl_RevokeReader : Hs_s_impl_RevokeReader (F 9)) (f_laws_eqAccessController : Hs_s_laws_eqAccessController (F 10)) (f_laws_eqName : Hs_s_laws_eqName (F 11)) (f_laws_markAccessController : Has_s_laws_markAccessController F) (f_laws_markName : Has_s_laws_markName F) (f_laws_heldAccessController : Hs_s_laws_heldAccessController (F 14)) : Hs_s_laws_FnExactRevokeReader (EvF F Try.f3 (fun _ => [])) := by
  intro a0 a1 a2
  unfold EvF
  obtain ⟨p, hp⟩ := gn prims
  obtain ⟨m_Key, hm_Key⟩ := gn (List.map eKey)
  obtain ⟨m_Reader, hm_Reader⟩ := gn (List.map eReader)
  obtain ⟨m_string, hm_string⟩ := gn (List.map eS)
  rw [← hp, ← hm_Key, ← hm_Reader, ← hm_string]
  obtain ⟨_, p_cmp, _, _, _, _, _, _, _, _, _, p_bnot, _, _, _, p_len, _, _, _, _, _, _, _, _, _, _, p_full, _, p_frz, p_own, p_opn, _⟩ := p
  have frz_Key := frz_gen eKey (fun _ => rfl)
  have frz_Reader := frz_gen eReader (fun _ => rfl)
  have frz_string := frz_gen eS (fun _ => rfl)
  have full_Key := full_gen eKey
  have full_Reader := full_gen eReader
  have full_string := full_gen eS
  have own_Key := own_gen eKey (fun _ => rfl)
  have own_Reader := own_gen eReader (fun _ => rfl)
  have own_string := own_gen eS (fun _ => rfl)
  have lm_s_laws_markAccessController_0 := @l_s_laws_markAccessController_0
  have lm_s_laws_markAccessController_1 := @l_s_laws_markAccessController_1
  have lm_s_laws_markName_0 := @l_s_laws_markName_0
  simp only [Hs_s_laws_szAccessController, Hs_s_laws_szName, Hs_s_laws_toAccessController, Hs_s_laws_toName, Hs_s_spec_RevokeReader, Hs_s_impl_RevokeReader, Hs_s_laws_eqAccessController, Hs_s_laws_eqName, Has_s_laws_markAccessController, Has_s_laws_markName, Hs_s_laws_heldAccessController, ← hp, ← hm_Key, ← hm_Reader, ← hm_string] at frz_Key frz_Reader frz_string full_Key full_Reader full_string own_Key own_Reader own_string lm_s_laws_markAccessController_0 lm_s_laws_markAccessController_1 lm_s_laws_markName_0 f_laws_szAccessController f_laws_szName f_laws_toAccessController f_laws_toName f_spec_RevokeReader f_impl_RevokeReader f_laws_eqAccessController f_laws_eqName f_laws_markAccessController f_laws_markName f_laws_heldAccessController
  rw [s_laws_FnExactRevokeReader, ← hp]
  dsimp only
  conv => lhs; cbv
  rw [f_laws_szAccessController a0 1048576]
  refine cO (fun hx2 => ?_) ?_
  · rw [hx2]; try rfl
  rintro r1 hx2
  rw [hx2]
  conv => lhs; cbv
  refine cC (fun hb3 => ?_) fun hb3 => ?_
  · rw [hb3]
    conv => lhs; cbv
    try rfl
  rw [hb3]
  conv => lhs; cbv
  rw [f_laws_szName a2 r1]
  refine cO (fun hx5 => ?_) ?_
  · rw [hx5]; try rfl
  rintro r4 hx5
  rw [hx5]
  conv => lhs; cbv
  refine cC (fun hb6 => ?_) fun hb6 => ?_
  · rw [hb6]
    conv => lhs; cbv
    try rfl
  rw [hb6]
  conv => lhs; cbv
  rw [f_laws_toAccessController a0]
  refine cO (fun hx8 => ?_) ?_
  · rw [hx8]; try rfl
  rintro r7 hx8
  rw [hx8]
  conv => lhs; cbv
  rw [f_laws_toName a2]
  refine cO (fun hx10 => ?_) ?_
  · rw [hx10]; try rfl
  rintro r9 hx10
  rw [hx10]
  conv => lhs; cbv
  rw [frz_Key]
  conv => lhs; cbv
  rw [frz_Reader]
  conv => lhs; cbv
  rw [frz_string]
  conv => lhs; cbv
  rw [f_spec_RevokeReader r7 a1 r9]
  refine cO (fun hx12 => ?_) ?_
  · rw [hx12]; try rfl
  rintro r11 hx12
  rw [hx12]
  conv => lhs; cbv
  rw [f_laws_toAccessController a0]
  rw [hx8]
  conv => lhs; cbv
  rw [f_laws_toName a2]
  rw [hx10]
  conv => lhs; cbv
  rw [frz_Key]
  conv => lhs; cbv
  rw [frz_Reader]
  conv => lhs; cbv
  rw [frz_string]
  conv => lhs; cbv
  rw [f_impl_RevokeReader r7 a1 r9]
  refine cO (fun hx16 => ?_) ?_
  · rw [hx16]; try rfl
  rintro r15 hx16
  rw [hx16]
  conv => lhs; cbv
  rw [frz_Key]
  conv => lhs; cbv
  rw [frz_Reader]
  conv => lhs; cbv
  rw [frz_Key]
  conv => lhs; cbv
  rw [frz_Reader]
  conv => lhs; cbv
  rw [f_laws_eqAccessController r15 r11]
  refine cO (fun hx18 => ?_) ?_
  · rw [hx18]; try rfl
  rintro r17 hx18
  rw [hx18]
  conv => lhs; cbv
  refine cC (fun hb19 => ?_) fun hb19 => ?_
  · rw [hb19]
    conv => lhs; cbv
    try rfl
  rw [hb19]
  conv => lhs; cbv
  rw [f_laws_toAccessController a0]
  rw [hx8]
  conv => lhs; cbv
  rw [frz_Key]
  conv => lhs; cbv
  rw [frz_Reader]
  conv => lhs; cbv
  rw [frz_Key]
  conv => lhs; cbv
  rw [frz_Reader]
  conv => lhs; cbv
  rw [f_laws_eqAccessController r7 r7]
  refine cO (fun hx22 => ?_) ?_
  · rw [hx22]; try rfl
  rintro r21 hx22
  rw [hx22]
  conv => lhs; cbv
  refine cC (fun hb23 => ?_) fun hb23 => ?_
  · rw [hb23]
    conv => lhs; cbv
    try rfl
  rw [hb23]
  conv => lhs; cbv
  rw [f_laws_toName a2]
  rw [hx10]
  conv => lhs; cbv
  rw [frz_string]
  conv => lhs; cbv
  rw [frz_string]
  conv => lhs; cbv
  rw [f_laws_eqName r9 r9]
  refine cO (fun hx26 => ?_) ?_
  · rw [hx26]; try rfl
  rintro r25 hx26
  rw [hx26]
  conv => lhs; cbv
  refine cC (fun hb27 => ?_) fun hb27 => ?_
  · rw [hb27]
    conv => lhs; cbv
    try rfl
  rw [hb27]
  conv => lhs; cbv
  rw [if_pos (full_Key _)]
  conv => lhs; cbv
  rw [own_Key]
  conv => lhs; cbv
  rw [if_pos (full_Reader _)]
  conv => lhs; cbv
  rw [own_Reader]
  conv => lhs; cbv
  have hc := f_laws_markAccessController r7 1
  try dsimp only at hc
  rw [hc]
  clear hc
  refine cO (fun hx29 => ?_) ?_
  · rw [hx29]; try rfl
  rintro ⟨r28_0, r28_1⟩ hx29
  rw [hx29]
  conv => lhs; cbv
  repeat (first | rw [own_Key] | rw [own_Reader] | rw [own_string])
  try conv => lhs; cbv
  conv => lhs; cbv
  try conv => lhs; rw [← lm_s_laws_markAccessController_0 _ _ _ hx29]
  try conv => lhs; rw [← lm_s_laws_markAccessController_1 _ _ _ hx29]
  conv => lhs; cbv
  rw [if_pos (full_string _)]
  conv => lhs; cbv
  rw [own_string]
  conv => lhs; cbv
  have hc := f_laws_markName r9 r28_1
  try dsimp only at hc
  rw [hc]
  clear hc
  refine cO (fun hx31 => ?_) ?_
  · rw [hx31]; try rfl
  rintro ⟨r30_0, r30_1⟩ hx31
  rw [hx31]
  conv => lhs; cbv
  repeat (first | rw [own_Key] | rw [own_Reader] | rw [own_string])
  try conv => lhs; cbv
  conv => lhs; cbv
  try conv => lhs; rw [← lm_s_laws_markName_0 _ _ _ hx31]
  conv => lhs; cbv
  refine cC (fun hb32 => ?_) fun hb32 => ?_
  · rw [hb32]
    conv => lhs; cbv
    try rfl
  rw [hb32]
  conv => lhs; cbv
  rw [frz_Key]
  conv => lhs; cbv
  rw [frz_Reader]
  conv => lhs; cbv
  rw [frz_Key]
  conv => lhs; cbv
  rw [frz_Reader]
  conv => lhs; cbv
  rw [f_laws_eqAccessController r15 r11]
  rw [hx18]
  conv => lhs; cbv
  try rw [hb19]
  conv => lhs; cbv
  rw [if_pos (full_Key _)]
  conv => lhs; cbv
  rw [own_Key]
  conv => lhs; cbv
  rw [if_pos (full_Reader _)]
  conv => lhs; cbv
  rw [own_Reader]
  conv => lhs; cbv
  have hc := f_laws_markAccessController r15 1
  try dsimp only at hc
  rw [hc]
  clear hc
  refine cO (fun hx35 => ?_) ?_
  · rw [hx35]; try rfl
  rintro ⟨r34_0, r34_1⟩ hx35
  rw [hx35]
  conv => lhs; cbv
  repeat (first | rw [own_Key] | rw [own_Reader] | rw [own_string])
  try conv => lhs; cbv
  conv => lhs; cbv
  try conv => lhs; rw [← lm_s_laws_markAccessController_0 _ _ _ hx35]
  try conv => lhs; rw [← lm_s_laws_markAccessController_1 _ _ _ hx35]
  conv => lhs; cbv
  rw [frz_Key]
  conv => lhs; cbv
  rw [frz_Reader]
  conv => lhs; cbv
  have hc := f_laws_heldAccessController (⟨r34_0.keys, r15.master, r15.epoch, r34_0.readers⟩ : DAccessController) 1
  try dsimp only at hc
  rw [hc]
  clear hc
  refine cO (fun hx37 => ?_) ?_
  · rw [hx37]; try rfl
  rintro r36 hx37
  rw [hx37]
  conv => lhs; cbv
  refine cC (fun hb38 => ?_) fun hb38 => ?_
  · rw [hb38]
    conv => lhs; cbv
    try rfl
  rw [hb38]
  conv => lhs; cbv
  refine cC (fun hb39 => ?_) fun hb39 => ?_
  · rw [hb39]
    conv => lhs; cbv
    try rfl
  rw [hb39]
  conv => lhs; cbv
  rw [f_laws_toAccessController a0]
  rw [hx8]
  conv => lhs; cbv
  rw [f_laws_toName a2]
  rw [hx10]
  conv => lhs; cbv
  rw [frz_Key]
  conv => lhs; cbv
  rw [frz_Reader]
  conv => lhs; cbv
  rw [frz_string]
  conv => lhs; cbv
  rw [f_impl_RevokeReader r7 a1 r9]
  rw [hx16]
  conv => lhs; cbv
  rw [frz_Key]
  conv => lhs; cbv
  rw [frz_Reader]
  conv => lhs; cbv
  rw [frz_Key]
  conv => lhs; cbv
  rw [frz_Reader]
  conv => lhs; cbv
  rw [f_laws_eqAccessController r15 r11]
  rw [hx18]
  conv => lhs; cbv
  try rw [hb19]
  conv => lhs; cbv
  rw [frz_Key]
  conv => lhs; cbv
  rw [frz_Reader]
  conv => lhs; cbv
  have hc := f_laws_heldAccessController (⟨r34_0.keys, r15.master, r15.epoch, r34_0.readers⟩ : DAccessController) 1
  try dsimp only at hc
  rw [hc]
  clear hc
  rw [hx37]
  conv => lhs; cbv
  try rw [hb38]
  conv => lhs; cbv
  try rw [hb39]
  conv => lhs; cbv
  try rfl
end
end Go.Proofs.Yteebeeoimghmhaa
