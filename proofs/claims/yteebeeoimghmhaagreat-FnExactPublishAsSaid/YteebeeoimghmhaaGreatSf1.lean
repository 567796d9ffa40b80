/- The code computes these plain functions. Printed by genshal.py. -/
import Derived.Test.YteebeeoimghmhaaGreatSd
namespace Go.Proofs.YteebeeoimghmhaaGreat
open Go.RowKit
set_option linter.unusedVariables false
set_option linter.unusedSimpArgs false
set_option maxRecDepth 100000
noncomputable section
set_option maxHeartbeats 40000000

theorem e_s_laws_szLinkS (F : Fns) : Hs_s_laws_szLinkS (EvF F Tryz.f44 (fun _ => [])) := by
  intro a0 a1
  unfold EvF
  obtain ⟨p, hp⟩ := gn prims
  obtain ⟨m_Link, hm_Link⟩ := gn (List.map eLink)
  rw [← hp, ← hm_Link]
  obtain ⟨p_arith, p_cmp, _, _, _, _, _, _, _, _, _, _, _, _, _, p_len, p_int, _⟩ := p
  rw [s_laws_szLinkS, ← hp, ← hm_Link]
  dsimp only
  conv => lhs; cbv
  refine cC (fun hb1 => ?_) fun hb1 => ?_
  · rw [hb1]
    conv => lhs; cbv
    try rfl
  rw [hb1]
  conv => lhs; cbv
  try rfl
theorem e_s_laws_szTopology (F : Fns) (f_laws_szLinkS : Hs_s_laws_szLinkS (F 44)) : Hs_s_laws_szTopology (EvF F Tryz.f23 (fun _ => [])) := by
  intro a0 a1
  unfold EvF
  obtain ⟨p, hp⟩ := gn prims
  obtain ⟨m_Link, hm_Link⟩ := gn (List.map eLink)
  rw [← hp, ← hm_Link]
  obtain ⟨_, p_cmp, _⟩ := p
  simp only [Hs_s_laws_szLinkS, ← hm_Link] at f_laws_szLinkS
  rw [s_laws_szTopology, ← hp]
  dsimp only
  conv => lhs; cbv
  rw [f_laws_szLinkS a0.links a1]
  refine cO (fun hx2 => ?_) ?_
  · rw [hx2]; try rfl
  rintro r1 hx2
  rw [hx2]
  conv => lhs; cbv
  refine cC (fun hb3 => ?_) fun hb3 => ?_
  · rw [hb3]
    conv => lhs; cbv
    try rfl
  rw [hb3]
  conv => lhs; cbv
  try rfl
theorem e_s_laws_szStringS (F : Fns) : Hs_s_laws_szStringS (EvF F Tryz.f99 (fun id => if id = 5 then [0, 1, 5] else [])) := by
  intro a0 a1
  unfold EvF
  obtain ⟨p, hp⟩ := gn prims
  obtain ⟨m_string, hm_string⟩ := gn (List.map eS)
  rw [← hp, ← hm_string]
  obtain ⟨p_arith, p_cmp, _, _, _, _, p_ssize, _, _, _, _, _, _, _, _, p_len, p_int, p_nth, _⟩ := p
  have nth_string := @nthF_string
  simp only [← hp, ← hm_string] at nth_string
  generalize hal : alp = al
  rw [s_laws_szStringS, ← hp, ← hm_string]
  dsimp only
  conv => lhs; cbv
  refine cC (fun hb1 => ?_) fun hb1 => ?_
  · rw [hb1]
    conv => lhs; cbv
    try rfl
  rw [hb1]
  conv => lhs; cbv
  refine (loop_al hal (fun x => match x with | (v2, v3) => ⟨[.c (.rd true 9 1 (m_string a0)), .c (.at (.int .i64 v2)), dd, dd, dd, .c (.at (.int .i64 v3)), dd, dd, dd, dd, dd, dd, dd, dd, dd, dd, dd, dd, dd, dd, dd, dd, dd, dd, dd, dd, dd, dd], [], 1⟩) (s_laws_szStringS_l1 a0) (fun K g => match g with | .inl (v2, v3) => K (.exit 0) ⟨[.c (.rd true 9 1 (m_string a0)), .c (.at (.int .i64 v2)), dd, dd, dd, .c (.at (.int .i64 v3)), dd, dd, dd, dd, dd, dd, .c (.at (.int .i64 v3)), .c (.rd true 9 1 (m_string a0)), .c (.at (.int .i64 (p_int (p_len (m_string a0))))), .c (.at (.bool false)), dd, dd, dd, dd, dd, dd, dd, dd, dd, dd, dd, dd], [], 2⟩ | .inr (r) => some [.v (.at (.int .i64 r))]) ?_ (p_arith .sub .i64 a1 (p_int (p_len (m_string a0))), 0) _ (rfl)).trans (cL ?_)
  · rintro K1 hr1 ⟨v2, v3⟩ R1
    rw [s_laws_szStringS_l1, ← hp, ← hm_string]
    dsimp only
    conv => lhs; cbv
    refine cD (fun hb4 => ?_) fun hb4 => ?_
    · rw [hb4]
      conv => lhs; cbv
      try rfl
    rw [hb4]
    conv => lhs; cbv
    rw [nth_string]
    refine cO (fun hx6 => ?_) ?_
    · rw [hx6]; try rfl
    rintro x5 hx6
    rw [hx6]
    conv => lhs; cbv
    refine cD (fun hb7 => ?_) fun hb7 => ?_
    · rw [hb7]
      conv => lhs; cbv
      try rfl
    rw [hb7]
    conv => lhs; cbv
    rw [hr1]
    conv => lhs; cbv
    try rfl
  rintro (⟨w8, w9⟩ | w10)
  · conv => lhs; cbv
    try rfl
  rfl
theorem e_s_laws_szName (F : Fns) (f_laws_szStringS : Hs_s_laws_szStringS (F 99)) : Hs_s_laws_szName (EvF F Tryz.f68 (fun _ => [])) := by
  intro a0 a1
  unfold EvF
  obtain ⟨p, hp⟩ := gn prims
  obtain ⟨m_string, hm_string⟩ := gn (List.map eS)
  rw [← hp, ← hm_string]
  obtain ⟨_, p_cmp, _⟩ := p
  simp only [Hs_s_laws_szStringS, ← hm_string] at f_laws_szStringS
  rw [s_laws_szName, ← hp]
  dsimp only
  conv => lhs; cbv
  rw [f_laws_szStringS a0 a1]
  refine cO (fun hx2 => ?_) ?_
  · rw [hx2]; try rfl
  rintro r1 hx2
  rw [hx2]
  conv => lhs; cbv
  refine cC (fun hb3 => ?_) fun hb3 => ?_
  · rw [hb3]
    conv => lhs; cbv
    try rfl
  rw [hb3]
  conv => lhs; cbv
  try rfl
theorem e_s_laws_szTableEntry (F : Fns) (f_laws_szName : Hs_s_laws_szName (F 68)) : Hs_s_laws_szTableEntry (EvF F Tryz.f123 (fun _ => [])) := by
  intro a0 a1
  unfold EvF
  obtain ⟨p, hp⟩ := gn prims
  obtain ⟨m_string, hm_string⟩ := gn (List.map eS)
  rw [← hp, ← hm_string]
  obtain ⟨_, p_cmp, _⟩ := p
  simp only [Hs_s_laws_szName, ← hm_string] at f_laws_szName
  rw [s_laws_szTableEntry, ← hp]
  dsimp only
  conv => lhs; cbv
  rw [f_laws_szName a0.name a1]
  refine cO (fun hx2 => ?_) ?_
  · rw [hx2]; try rfl
  rintro r1 hx2
  rw [hx2]
  conv => lhs; cbv
  refine cC (fun hb3 => ?_) fun hb3 => ?_
  · rw [hb3]
    conv => lhs; cbv
    try rfl
  rw [hb3]
  conv => lhs; cbv
  try rfl
theorem e_s_laws_szTableEntryS (F : Fns) (f_laws_szTableEntry : Hs_s_laws_szTableEntry (F 123)) : Hs_s_laws_szTableEntryS (EvF F Tryz.f100 (fun id => if id = 5 then [0, 1, 5] else [])) := by
  intro a0 a1
  unfold EvF
  obtain ⟨p, hp⟩ := gn prims
  obtain ⟨m_TableEntry, hm_TableEntry⟩ := gn (List.map eTableEntry)
  obtain ⟨m_string, hm_string⟩ := gn (List.map eS)
  rw [← hp, ← hm_TableEntry]
  obtain ⟨p_arith, p_cmp, _, _, _, _, _, _, _, _, _, _, _, _, _, p_len, p_int, p_nth, _⟩ := p
  have nth_TableEntry := @nthF_TableEntry
  simp only [Hs_s_laws_szTableEntry, ← hp, ← hm_TableEntry, ← hm_string] at nth_TableEntry f_laws_szTableEntry
  generalize hal : alp = al
  rw [s_laws_szTableEntryS, ← hp, ← hm_TableEntry]
  dsimp only
  conv => lhs; cbv
  refine cC (fun hb1 => ?_) fun hb1 => ?_
  · rw [hb1]
    conv => lhs; cbv
    try rfl
  rw [hb1]
  conv => lhs; cbv
  refine (loop_al hal (fun x => match x with | (v2, v3) => ⟨[.c (.rd true 88 2 (m_TableEntry a0)), .c (.at (.int .i64 v2)), dd, dd, dd, .c (.at (.int .i64 v3)), dd, dd, dd, dd, dd, dd, dd, dd, dd, dd, dd, dd, dd, dd, dd, dd, dd, dd, dd, dd, dd], [], 1⟩) (s_laws_szTableEntryS_l1 a0) (fun K g => match g with | .inl (v2, v3) => K (.exit 0) ⟨[.c (.rd true 88 2 (m_TableEntry a0)), .c (.at (.int .i64 v2)), dd, dd, dd, .c (.at (.int .i64 v3)), dd, dd, dd, dd, dd, dd, .c (.at (.int .i64 v3)), .c (.rd true 88 2 (m_TableEntry a0)), .c (.at (.int .i64 (p_int (p_len (m_TableEntry a0))))), .c (.at (.bool false)), dd, dd, dd, dd, dd, dd, dd, dd, dd, dd, dd], [], 2⟩ | .inr (r) => some [.v (.at (.int .i64 r))]) ?_ (p_arith .sub .i64 a1 (p_int (p_len (m_TableEntry a0))), 0) _ (rfl)).trans (cL ?_)
  · rintro K1 hr1 ⟨v2, v3⟩ R1
    rw [s_laws_szTableEntryS_l1, ← hp, ← hm_TableEntry]
    dsimp only
    conv => lhs; cbv
    refine cD (fun hb4 => ?_) fun hb4 => ?_
    · rw [hb4]
      conv => lhs; cbv
      try rfl
    rw [hb4]
    conv => lhs; cbv
    rw [nth_TableEntry]
    refine cO (fun hx6 => ?_) ?_
    · rw [hx6]; try rfl
    rintro x5 hx6
    rw [hx6]
    conv => lhs; cbv
    rw [f_laws_szTableEntry x5 v2]
    refine cO (fun hx8 => ?_) ?_
    · rw [hx8]; try rfl
    rintro r7 hx8
    rw [hx8]
    conv => lhs; cbv
    refine cD (fun hb9 => ?_) fun hb9 => ?_
    · rw [hb9]
      conv => lhs; cbv
      try rfl
    rw [hb9]
    conv => lhs; cbv
    rw [hr1]
    conv => lhs; cbv
    try rfl
  rintro (⟨w10, w11⟩ | w12)
  · conv => lhs; cbv
    try rfl
  rfl
theorem e_s_laws_szStateVector (F : Fns) (f_laws_szTableEntryS : Hs_s_laws_szTableEntryS (F 100)) : Hs_s_laws_szStateVector (EvF F Tryz.f69 (fun _ => [])) := by
  intro a0 a1
  unfold EvF
  obtain ⟨p, hp⟩ := gn prims
  obtain ⟨m_TableEntry, hm_TableEntry⟩ := gn (List.map eTableEntry)
  rw [← hp, ← hm_TableEntry]
  obtain ⟨_, p_cmp, _⟩ := p
  simp only [Hs_s_laws_szTableEntryS, ← hm_TableEntry] at f_laws_szTableEntryS
  rw [s_laws_szStateVector, ← hp]
  dsimp only
  conv => lhs; cbv
  rw [f_laws_szTableEntryS a0 a1]
  refine cO (fun hx2 => ?_) ?_
  · rw [hx2]; try rfl
  rintro r1 hx2
  rw [hx2]
  conv => lhs; cbv
  refine cC (fun hb3 => ?_) fun hb3 => ?_
  · rw [hb3]
    conv => lhs; cbv
    try rfl
  rw [hb3]
  conv => lhs; cbv
  try rfl
theorem e_s_laws_szByteS (F : Fns) : Hs_s_laws_szByteS (EvF F Tryz.f124 (fun _ => [])) := by
  intro a0 a1
  unfold EvF
  obtain ⟨p, hp⟩ := gn prims
  obtain ⟨m_byte, hm_byte⟩ := gn (List.map eY)
  rw [← hp, ← hm_byte]
  obtain ⟨p_arith, p_cmp, _, _, _, _, _, _, _, _, _, _, _, _, _, p_len, p_int, _⟩ := p
  rw [s_laws_szByteS, ← hp, ← hm_byte]
  dsimp only
  conv => lhs; cbv
  refine cC (fun hb1 => ?_) fun hb1 => ?_
  · rw [hb1]
    conv => lhs; cbv
    try rfl
  rw [hb1]
  conv => lhs; cbv
  try rfl
theorem e_s_laws_szPublication (F : Fns) (f_laws_szName : Hs_s_laws_szName (F 68)) (f_laws_szByteS : Hs_s_laws_szByteS (F 124)) : Hs_s_laws_szPublication (EvF F Tryz.f101 (fun _ => [])) := by
  intro a0 a1
  unfold EvF
  obtain ⟨p, hp⟩ := gn prims
  obtain ⟨m_byte, hm_byte⟩ := gn (List.map eY)
  obtain ⟨m_string, hm_string⟩ := gn (List.map eS)
  rw [← hp, ← hm_byte, ← hm_string]
  obtain ⟨_, p_cmp, _⟩ := p
  simp only [Hs_s_laws_szName, Hs_s_laws_szByteS, ← hm_string, ← hm_byte] at f_laws_szName f_laws_szByteS
  rw [s_laws_szPublication, ← hp]
  dsimp only
  conv => lhs; cbv
  rw [f_laws_szName a0.publisher a1]
  refine cO (fun hx2 => ?_) ?_
  · rw [hx2]; try rfl
  rintro r1 hx2
  rw [hx2]
  conv => lhs; cbv
  refine cC (fun hb3 => ?_) fun hb3 => ?_
  · rw [hb3]
    conv => lhs; cbv
    try rfl
  rw [hb3]
  conv => lhs; cbv
  rw [f_laws_szByteS a0.content r1]
  refine cO (fun hx5 => ?_) ?_
  · rw [hx5]; try rfl
  rintro r4 hx5
  rw [hx5]
  conv => lhs; cbv
  refine cC (fun hb6 => ?_) fun hb6 => ?_
  · rw [hb6]
    conv => lhs; cbv
    try rfl
  rw [hb6]
  conv => lhs; cbv
  try rfl
theorem e_s_laws_szPublicationS (F : Fns) (f_laws_szPublication : Hs_s_laws_szPublication (F 101)) : Hs_s_laws_szPublicationS (EvF F Tryz.f70 (fun id => if id = 5 then [0, 1, 5] else [])) := by
  intro a0 a1
  unfold EvF
  obtain ⟨p, hp⟩ := gn prims
  obtain ⟨m_Publication, hm_Publication⟩ := gn (List.map ePublication)
  obtain ⟨m_byte, hm_byte⟩ := gn (List.map eY)
  obtain ⟨m_string, hm_string⟩ := gn (List.map eS)
  rw [← hp, ← hm_Publication]
  obtain ⟨p_arith, p_cmp, _, _, _, _, _, _, _, _, _, _, _, _, _, p_len, p_int, p_nth, _⟩ := p
  have nth_Publication := @nthF_Publication
  simp only [Hs_s_laws_szPublication, ← hp, ← hm_Publication, ← hm_byte, ← hm_string] at nth_Publication f_laws_szPublication
  generalize hal : alp = al
  rw [s_laws_szPublicationS, ← hp, ← hm_Publication]
  dsimp only
  conv => lhs; cbv
  refine cC (fun hb1 => ?_) fun hb1 => ?_
  · rw [hb1]
    conv => lhs; cbv
    try rfl
  rw [hb1]
  conv => lhs; cbv
  refine (loop_al hal (fun x => match x with | (v2, v3) => ⟨[.c (.rd true 103 3 (m_Publication a0)), .c (.at (.int .i64 v2)), dd, dd, dd, .c (.at (.int .i64 v3)), dd, dd, dd, dd, dd, dd, dd, dd, dd, dd, dd, dd, dd, dd, dd, dd, dd, dd, dd, dd, dd], [], 1⟩) (s_laws_szPublicationS_l1 a0) (fun K g => match g with | .inl (v2, v3) => K (.exit 0) ⟨[.c (.rd true 103 3 (m_Publication a0)), .c (.at (.int .i64 v2)), dd, dd, dd, .c (.at (.int .i64 v3)), dd, dd, dd, dd, dd, dd, .c (.at (.int .i64 v3)), .c (.rd true 103 3 (m_Publication a0)), .c (.at (.int .i64 (p_int (p_len (m_Publication a0))))), .c (.at (.bool false)), dd, dd, dd, dd, dd, dd, dd, dd, dd, dd, dd], [], 2⟩ | .inr (r) => some [.v (.at (.int .i64 r))]) ?_ (p_arith .sub .i64 a1 (p_int (p_len (m_Publication a0))), 0) _ (rfl)).trans (cL ?_)
  · rintro K1 hr1 ⟨v2, v3⟩ R1
    rw [s_laws_szPublicationS_l1, ← hp, ← hm_Publication]
    dsimp only
    conv => lhs; cbv
    refine cD (fun hb4 => ?_) fun hb4 => ?_
    · rw [hb4]
      conv => lhs; cbv
      try rfl
    rw [hb4]
    conv => lhs; cbv
    rw [nth_Publication]
    refine cO (fun hx6 => ?_) ?_
    · rw [hx6]; try rfl
    rintro x5 hx6
    rw [hx6]
    conv => lhs; cbv
    rw [f_laws_szPublication x5 v2]
    refine cO (fun hx8 => ?_) ?_
    · rw [hx8]; try rfl
    rintro r7 hx8
    rw [hx8]
    conv => lhs; cbv
    refine cD (fun hb9 => ?_) fun hb9 => ?_
    · rw [hb9]
      conv => lhs; cbv
      try rfl
    rw [hb9]
    conv => lhs; cbv
    rw [hr1]
    conv => lhs; cbv
    try rfl
  rintro (⟨w10, w11⟩ | w12)
  · conv => lhs; cbv
    try rfl
  rfl
theorem e_s_laws_szMember (F : Fns) (f_laws_szName : Hs_s_laws_szName (F 68)) (f_laws_szStateVector : Hs_s_laws_szStateVector (F 69)) (f_laws_szPublicationS : Hs_s_laws_szPublicationS (F 70)) : Hs_s_laws_szMember (EvF F Tryz.f45 (fun _ => [])) := by
  intro a0 a1
  unfold EvF
  obtain ⟨p, hp⟩ := gn prims
  obtain ⟨m_Publication, hm_Publication⟩ := gn (List.map ePublication)
  obtain ⟨m_TableEntry, hm_TableEntry⟩ := gn (List.map eTableEntry)
  obtain ⟨m_string, hm_string⟩ := gn (List.map eS)
  rw [← hp, ← hm_Publication, ← hm_TableEntry, ← hm_string]
  obtain ⟨_, p_cmp, _⟩ := p
  simp only [Hs_s_laws_szName, Hs_s_laws_szStateVector, Hs_s_laws_szPublicationS, ← hm_string, ← hm_TableEntry, ← hm_Publication] at f_laws_szName f_laws_szStateVector f_laws_szPublicationS
  rw [s_laws_szMember, ← hp]
  dsimp only
  conv => lhs; cbv
  rw [f_laws_szName a0.name a1]
  refine cO (fun hx2 => ?_) ?_
  · rw [hx2]; try rfl
  rintro r1 hx2
  rw [hx2]
  conv => lhs; cbv
  refine cC (fun hb3 => ?_) fun hb3 => ?_
  · rw [hb3]
    conv => lhs; cbv
    try rfl
  rw [hb3]
  conv => lhs; cbv
  rw [f_laws_szStateVector a0.vector r1]
  refine cO (fun hx5 => ?_) ?_
  · rw [hx5]; try rfl
  rintro r4 hx5
  rw [hx5]
  conv => lhs; cbv
  refine cC (fun hb6 => ?_) fun hb6 => ?_
  · rw [hb6]
    conv => lhs; cbv
    try rfl
  rw [hb6]
  conv => lhs; cbv
  rw [f_laws_szPublicationS a0.publications r4]
  refine cO (fun hx8 => ?_) ?_
  · rw [hx8]; try rfl
  rintro r7 hx8
  rw [hx8]
  conv => lhs; cbv
  refine cC (fun hb9 => ?_) fun hb9 => ?_
  · rw [hb9]
    conv => lhs; cbv
    try rfl
  rw [hb9]
  conv => lhs; cbv
  try rfl
theorem e_s_laws_szMemberS (F : Fns) (f_laws_szMember : Hs_s_laws_szMember (F 45)) : Hs_s_laws_szMemberS (EvF F Tryz.f24 (fun id => if id = 5 then [0, 1, 5] else [])) := by
  intro a0 a1
  unfold EvF
  obtain ⟨p, hp⟩ := gn prims
  obtain ⟨m_Member, hm_Member⟩ := gn (List.map eMember)
  obtain ⟨m_Publication, hm_Publication⟩ := gn (List.map ePublication)
  obtain ⟨m_TableEntry, hm_TableEntry⟩ := gn (List.map eTableEntry)
  obtain ⟨m_string, hm_string⟩ := gn (List.map eS)
  rw [← hp, ← hm_Member]
  obtain ⟨p_arith, p_cmp, _, _, _, _, _, _, _, _, _, _, _, _, _, p_len, p_int, p_nth, _⟩ := p
  have nth_Member := @nthF_Member
  simp only [Hs_s_laws_szMember, ← hp, ← hm_Member, ← hm_Publication, ← hm_TableEntry, ← hm_string] at nth_Member f_laws_szMember
  generalize hal : alp = al
  rw [s_laws_szMemberS, ← hp, ← hm_Member]
  dsimp only
  conv => lhs; cbv
  refine cC (fun hb1 => ?_) fun hb1 => ?_
  · rw [hb1]
    conv => lhs; cbv
    try rfl
  rw [hb1]
  conv => lhs; cbv
  refine (loop_al hal (fun x => match x with | (v2, v3) => ⟨[.c (.rd true 65 3 (m_Member a0)), .c (.at (.int .i64 v2)), dd, dd, dd, .c (.at (.int .i64 v3)), dd, dd, dd, dd, dd, dd, dd, dd, dd, dd, dd, dd, dd, dd, dd, dd, dd, dd, dd, dd, dd], [], 1⟩) (s_laws_szMemberS_l1 a0) (fun K g => match g with | .inl (v2, v3) => K (.exit 0) ⟨[.c (.rd true 65 3 (m_Member a0)), .c (.at (.int .i64 v2)), dd, dd, dd, .c (.at (.int .i64 v3)), dd, dd, dd, dd, dd, dd, .c (.at (.int .i64 v3)), .c (.rd true 65 3 (m_Member a0)), .c (.at (.int .i64 (p_int (p_len (m_Member a0))))), .c (.at (.bool false)), dd, dd, dd, dd, dd, dd, dd, dd, dd, dd, dd], [], 2⟩ | .inr (r) => some [.v (.at (.int .i64 r))]) ?_ (p_arith .sub .i64 a1 (p_int (p_len (m_Member a0))), 0) _ (rfl)).trans (cL ?_)
  · rintro K1 hr1 ⟨v2, v3⟩ R1
    rw [s_laws_szMemberS_l1, ← hp, ← hm_Member]
    dsimp only
    conv => lhs; cbv
    refine cD (fun hb4 => ?_) fun hb4 => ?_
    · rw [hb4]
      conv => lhs; cbv
      try rfl
    rw [hb4]
    conv => lhs; cbv
    rw [nth_Member]
    refine cO (fun hx6 => ?_) ?_
    · rw [hx6]; try rfl
    rintro x5 hx6
    rw [hx6]
    conv => lhs; cbv
    rw [f_laws_szMember x5 v2]
    refine cO (fun hx8 => ?_) ?_
    · rw [hx8]; try rfl
    rintro r7 hx8
    rw [hx8]
    conv => lhs; cbv
    refine cD (fun hb9 => ?_) fun hb9 => ?_
    · rw [hb9]
      conv => lhs; cbv
      try rfl
    rw [hb9]
    conv => lhs; cbv
    rw [hr1]
    conv => lhs; cbv
    try rfl
  rintro (⟨w10, w11⟩ | w12)
  · conv => lhs; cbv
    try rfl
  rfl
theorem e_s_laws_szSyncGroup (F : Fns) (f_laws_szTopology : Hs_s_laws_szTopology (F 23)) (f_laws_szMemberS : Hs_s_laws_szMemberS (F 24)) : Hs_s_laws_szSyncGroup (EvF F Tryz.f5 (fun _ => [])) := by
  intro a0 a1
  unfold EvF
  obtain ⟨p, hp⟩ := gn prims
  obtain ⟨m_Link, hm_Link⟩ := gn (List.map eLink)
  obtain ⟨m_Member, hm_Member⟩ := gn (List.map eMember)
  rw [← hp, ← hm_Link, ← hm_Member]
  obtain ⟨_, p_cmp, _⟩ := p
  simp only [Hs_s_laws_szTopology, Hs_s_laws_szMemberS, ← hm_Link, ← hm_Member] at f_laws_szTopology f_laws_szMemberS
  rw [s_laws_szSyncGroup, ← hp]
  dsimp only
  conv => lhs; cbv
  rw [f_laws_szTopology a0.topology a1]
  refine cO (fun hx2 => ?_) ?_
  · rw [hx2]; try rfl
  rintro r1 hx2
  rw [hx2]
  conv => lhs; cbv
  refine cC (fun hb3 => ?_) fun hb3 => ?_
  · rw [hb3]
    conv => lhs; cbv
    try rfl
  rw [hb3]
  conv => lhs; cbv
  rw [f_laws_szMemberS a0.members r1]
  refine cO (fun hx5 => ?_) ?_
  · rw [hx5]; try rfl
  rintro r4 hx5
  rw [hx5]
  conv => lhs; cbv
  refine cC (fun hb6 => ?_) fun hb6 => ?_
  · rw [hb6]
    conv => lhs; cbv
    try rfl
  rw [hb6]
  conv => lhs; cbv
  try rfl
theorem e_s_laws_toLink (F : Fns) : Hs_s_laws_toLink (EvF F Tryz.f76 (fun _ => [])) := by
  intro a0
  unfold EvF
  obtain ⟨p, hp⟩ := gn prims
  rw [← hp]
  rw [s_laws_toLink]
  conv => lhs; cbv
  try rfl
theorem e_s_laws_toLinkS (F : Fns) (f_laws_toLink : Hs_s_laws_toLink (F 76)) : Hs_s_laws_toLinkS (EvF F Tryz.f49 (fun id => if id = 3 then [0, 3, 4] else [])) := by
  intro a0
  unfold EvF
  obtain ⟨p, hp⟩ := gn prims
  obtain ⟨m_Link, hm_Link⟩ := gn (List.map eLink)
  rw [← hp, ← hm_Link]
  obtain ⟨p_arith, p_cmp, _, _, _, _, _, _, _, _, _, _, _, _, _, p_len, p_int, p_nth, _, _, p_ridx, p_rnth, p_rset, _, _, _, p_full, _, _, p_own, p_opn, _, _, _, _, _, _, _, p_mkN, p_rep, _⟩ := p
  have full_Link := full_gen eLink
  have lset_Link := lset_gen eLink
  have mkn_Link := @mknF_Link
  have nth_Link := @nthF_Link
  have own_Link := own_gen eLink (fun _ => rfl)
  have rep_Link := @repF_Link
  have rnth_Link := @rnthF_Link
  have rset_Link := @rsetF_Link
  simp only [Hs_s_laws_toLink, ← hp, ← hm_Link] at full_Link lset_Link mkn_Link nth_Link own_Link rep_Link rnth_Link rset_Link f_laws_toLink
  generalize hal : alp = al
  rw [s_laws_toLinkS, ← hp, ← hm_Link]
  dsimp only
  conv => lhs; cbv
  rw [mkn_Link]
  refine cO (fun hx2 => ?_) ?_
  · rw [hx2]; try rfl
  rintro x1 hx2
  rw [hx2]
  conv => lhs; cbv
  rw [rep_Link _ _ _ hx2]
  conv => lhs; cbv
  refine (loop_al hal (fun x => match x with | (v3, v4) => ⟨[.c (.rd true 115 2 (m_Link a0)), dd, dd, .c (.row (0, 0, 0) 115 2 0 (p_len (m_Link v4))), .c (.at (.int .i64 v3)), dd, dd, dd, dd, dd, dd, dd, dd, dd, dd, dd, dd, dd, dd, dd, dd, dd, dd], [((0, 0, 0), ⟨true, false, 115, 2, p_opn (m_Link v4)⟩)], 1⟩) (s_laws_toLinkS_l1 a0) (fun K g => match g with | (v3, v4) => K (.exit 0) ⟨[.c (.rd true 115 2 (m_Link a0)), dd, dd, .c (.row (0, 0, 0) 115 2 0 (p_len (m_Link v4))), .c (.at (.int .i64 v3)), dd, dd, dd, .c (.at (.int .i64 v3)), .c (.rd true 115 2 (m_Link a0)), .c (.at (.int .i64 (p_int (p_len (m_Link a0))))), .c (.at (.bool false)), dd, dd, dd, dd, dd, dd, dd, dd, dd, dd, dd], [((0, 0, 0), ⟨true, false, 115, 2, p_opn (m_Link v4)⟩)], 2⟩) ?_ (0, x1) _ (rfl)).trans (cL ?_)
  · rintro K1 hr1 ⟨v3, v4⟩ R1
    rw [s_laws_toLinkS_l1, ← hp, ← hm_Link]
    dsimp only
    conv => lhs; cbv
    refine cD (fun hb5 => ?_) fun hb5 => ?_
    · rw [hb5]
      conv => lhs; cbv
      try rfl
    rw [hb5]
    conv => lhs; cbv
    rw [nth_Link]
    refine cO (fun hx7 => ?_) ?_
    · rw [hx7]; try rfl
    rintro x6 hx7
    rw [hx7]
    conv => lhs; cbv
    rw [f_laws_toLink x6]
    refine cO (fun hx9 => ?_) ?_
    · rw [hx9]; try rfl
    rintro r8 hx9
    rw [hx9]
    conv => lhs; cbv
    refine cO (fun hx11 => ?_) ?_
    · rw [hx11]; try rfl
    rintro x10 hx11
    rw [hx11]
    conv => lhs; cbv
    rw [rnth_Link]
    refine cO (fun hx13 => ?_) ?_
    · rw [hx13]; try rfl
    rintro x12 hx13
    rw [hx13]
    conv => lhs; cbv
    rw [rset_Link]
    try conv => lhs; rw [← lset_Link v4 x10 r8]
    conv => lhs; cbv
    try rfl
  rintro ⟨w14, w15⟩
  conv => lhs; cbv
  rw [if_pos (full_Link _)]
  conv => lhs; cbv
  rw [own_Link]
  conv => lhs; cbv
  try rfl
theorem e_s_laws_toTopology (F : Fns) (f_laws_toLinkS : Hs_s_laws_toLinkS (F 49)) : Hs_s_laws_toTopology (EvF F Tryz.f27 (fun _ => [])) := by
  intro a0
  unfold EvF
  obtain ⟨p, hp⟩ := gn prims
  obtain ⟨m_Link, hm_Link⟩ := gn (List.map eLink)
  rw [← hp, ← hm_Link]
  obtain ⟨_, _, _, _, _, _, _, _, _, _, _, _, _, _, _, p_len, _, _, _, _, _, _, _, _, _, _, p_full, _, _, p_own, p_opn, _⟩ := p
  have full_Link := full_gen eLink
  have own_Link := own_gen eLink (fun _ => rfl)
  simp only [Hs_s_laws_toLinkS, ← hp, ← hm_Link] at full_Link own_Link f_laws_toLinkS
  rw [s_laws_toTopology]
  conv => lhs; cbv
  rw [f_laws_toLinkS a0.links]
  refine cO (fun hx2 => ?_) ?_
  · rw [hx2]; try rfl
  rintro r1 hx2
  rw [hx2]
  conv => lhs; cbv
  rw [if_pos (full_Link _)]
  conv => lhs; cbv
  rw [own_Link]
  conv => lhs; cbv
  try rfl
theorem e_s_laws_toStringS (F : Fns) : Hs_s_laws_toStringS (EvF F Tryz.f105 (fun id => if id = 3 then [0, 3, 4] else [])) := by
  intro a0
  unfold EvF
  obtain ⟨p, hp⟩ := gn prims
  obtain ⟨m_string, hm_string⟩ := gn (List.map eS)
  rw [← hp, ← hm_string]
  obtain ⟨p_arith, p_cmp, _, _, _, _, _, _, _, _, _, _, _, _, _, p_len, p_int, p_nth, _, _, p_ridx, p_rnth, p_rset, _, _, _, p_full, _, _, p_own, p_opn, _, _, _, _, _, _, _, p_mkN, p_rep, _⟩ := p
  have full_string := full_gen eS
  have lset_string := lset_gen eS
  have mkn_string := @mknF_string
  have nth_string := @nthF_string
  have own_string := own_gen eS (fun _ => rfl)
  have rep_string := @repF_string
  have rnth_string := @rnthF_string
  have rset_string := @rsetF_string
  simp only [← hp, ← hm_string] at full_string lset_string mkn_string nth_string own_string rep_string rnth_string rset_string
  generalize hal : alp = al
  rw [s_laws_toStringS, ← hp, ← hm_string]
  dsimp only
  conv => lhs; cbv
  rw [mkn_string]
  refine cO (fun hx2 => ?_) ?_
  · rw [hx2]; try rfl
  rintro x1 hx2
  rw [hx2]
  conv => lhs; cbv
  rw [rep_string _ _ _ hx2]
  conv => lhs; cbv
  refine (loop_al hal (fun x => match x with | (v3, v4) => ⟨[.c (.rd true 9 1 (m_string a0)), dd, dd, .c (.row (0, 0, 0) 9 1 0 (p_len (m_string v4))), .c (.at (.int .i64 v3)), dd, dd, dd, dd, dd, dd, dd, dd, dd, dd, dd, dd, dd, dd, dd, dd, dd], [((0, 0, 0), ⟨true, false, 9, 1, p_opn (m_string v4)⟩)], 1⟩) (s_laws_toStringS_l1 a0) (fun K g => match g with | (v3, v4) => K (.exit 0) ⟨[.c (.rd true 9 1 (m_string a0)), dd, dd, .c (.row (0, 0, 0) 9 1 0 (p_len (m_string v4))), .c (.at (.int .i64 v3)), dd, dd, dd, .c (.at (.int .i64 v3)), .c (.rd true 9 1 (m_string a0)), .c (.at (.int .i64 (p_int (p_len (m_string a0))))), .c (.at (.bool false)), dd, dd, dd, dd, dd, dd, dd, dd, dd, dd], [((0, 0, 0), ⟨true, false, 9, 1, p_opn (m_string v4)⟩)], 2⟩) ?_ (0, x1) _ (rfl)).trans (cL ?_)
  · rintro K1 hr1 ⟨v3, v4⟩ R1
    rw [s_laws_toStringS_l1, ← hp, ← hm_string]
    dsimp only
    conv => lhs; cbv
    refine cD (fun hb5 => ?_) fun hb5 => ?_
    · rw [hb5]
      conv => lhs; cbv
      try rfl
    rw [hb5]
    conv => lhs; cbv
    rw [nth_string]
    refine cO (fun hx7 => ?_) ?_
    · rw [hx7]; try rfl
    rintro x6 hx7
    rw [hx7]
    conv => lhs; cbv
    refine cO (fun hx9 => ?_) ?_
    · rw [hx9]; try rfl
    rintro x8 hx9
    rw [hx9]
    conv => lhs; cbv
    rw [rnth_string]
    refine cO (fun hx11 => ?_) ?_
    · rw [hx11]; try rfl
    rintro x10 hx11
    rw [hx11]
    conv => lhs; cbv
    rw [rset_string]
    try conv => lhs; rw [← lset_string v4 x8 x6]
    conv => lhs; cbv
    try rfl
  rintro ⟨w12, w13⟩
  conv => lhs; cbv
  rw [if_pos (full_string _)]
  conv => lhs; cbv
  rw [own_string]
  conv => lhs; cbv
  try rfl
theorem e_s_laws_toName (F : Fns) (f_laws_toStringS : Hs_s_laws_toStringS (F 105)) : Hs_s_laws_toName (EvF F Tryz.f77 (fun _ => [])) := by
  intro a0
  unfold EvF
  obtain ⟨p, hp⟩ := gn prims
  obtain ⟨m_string, hm_string⟩ := gn (List.map eS)
  rw [← hp, ← hm_string]
  obtain ⟨_, _, _, _, _, _, _, _, _, _, _, _, _, _, _, p_len, _, _, _, _, _, _, _, _, _, _, p_full, _, _, p_own, p_opn, _⟩ := p
  have full_string := full_gen eS
  have own_string := own_gen eS (fun _ => rfl)
  simp only [Hs_s_laws_toStringS, ← hp, ← hm_string] at full_string own_string f_laws_toStringS
  rw [s_laws_toName]
  conv => lhs; cbv
  rw [f_laws_toStringS a0]
  refine cO (fun hx2 => ?_) ?_
  · rw [hx2]; try rfl
  rintro r1 hx2
  rw [hx2]
  conv => lhs; cbv
  rw [if_pos (full_string _)]
  conv => lhs; cbv
  rw [own_string]
  conv => lhs; cbv
  try rfl
theorem e_s_laws_toTableEntry (F : Fns) (f_laws_toName : Hs_s_laws_toName (F 77)) : Hs_s_laws_toTableEntry (EvF F Tryz.f126 (fun _ => [])) := by
  intro a0
  unfold EvF
  obtain ⟨p, hp⟩ := gn prims
  obtain ⟨m_string, hm_string⟩ := gn (List.map eS)
  rw [← hp, ← hm_string]
  obtain ⟨_, _, _, _, _, _, _, _, _, _, _, _, _, _, _, p_len, _, _, _, _, _, _, _, _, _, _, p_full, _, _, p_own, p_opn, _⟩ := p
  have full_string := full_gen eS
  have own_string := own_gen eS (fun _ => rfl)
  simp only [Hs_s_laws_toName, ← hp, ← hm_string] at full_string own_string f_laws_toName
  rw [s_laws_toTableEntry]
  conv => lhs; cbv
  rw [f_laws_toName a0.name]
  refine cO (fun hx2 => ?_) ?_
  · rw [hx2]; try rfl
  rintro r1 hx2
  rw [hx2]
  conv => lhs; cbv
  rw [if_pos (full_string _)]
  conv => lhs; cbv
  rw [own_string]
  conv => lhs; cbv
  try rfl
theorem e_s_laws_toTableEntryS (F : Fns) (f_laws_toTableEntry : Hs_s_laws_toTableEntry (F 126)) : Hs_s_laws_toTableEntryS (EvF F Tryz.f106 (fun id => if id = 3 then [0, 3, 4] else [])) := by
  intro a0
  unfold EvF
  obtain ⟨p, hp⟩ := gn prims
  obtain ⟨m_TableEntry, hm_TableEntry⟩ := gn (List.map eTableEntry)
  obtain ⟨m_string, hm_string⟩ := gn (List.map eS)
  rw [← hp, ← hm_TableEntry]
  obtain ⟨p_arith, p_cmp, _, _, _, _, _, _, _, _, _, _, _, _, _, p_len, p_int, p_nth, _, _, p_ridx, p_rnth, p_rset, _, _, _, p_full, _, _, p_own, p_opn, _, _, _, _, _, _, _, p_mkN, p_rep, _⟩ := p
  have full_TableEntry := full_gen eTableEntry
  have full_string := full_gen eS
  have lset_TableEntry := lset_gen eTableEntry
  have mkn_TableEntry := @mknF_TableEntry
  have nth_TableEntry := @nthF_TableEntry
  have own_TableEntry := own_gen eTableEntry (fun _ => rfl)
  have own_string := own_gen eS (fun _ => rfl)
  have rep_TableEntry := @repF_TableEntry
  have rnth_TableEntry := @rnthF_TableEntry
  have rset_TableEntry := @rsetF_TableEntry
  simp only [Hs_s_laws_toTableEntry, ← hp, ← hm_TableEntry, ← hm_string] at full_TableEntry full_string lset_TableEntry mkn_TableEntry nth_TableEntry own_TableEntry own_string rep_TableEntry rnth_TableEntry rset_TableEntry f_laws_toTableEntry
  generalize hal : alp = al
  rw [s_laws_toTableEntryS, ← hp, ← hm_TableEntry]
  dsimp only
  conv => lhs; cbv
  rw [mkn_TableEntry]
  refine cO (fun hx2 => ?_) ?_
  · rw [hx2]; try rfl
  rintro x1 hx2
  rw [hx2]
  conv => lhs; cbv
  rw [rep_TableEntry _ _ _ hx2]
  conv => lhs; cbv
  refine (loop_al hal (fun x => match x with | (v3, v4) => ⟨[.c (.rd true 88 2 (m_TableEntry a0)), dd, dd, .c (.row (0, 0, 0) 88 2 0 (p_len (m_TableEntry v4))), .c (.at (.int .i64 v3)), dd, dd, dd, dd, dd, dd, dd, dd, dd, dd, dd, dd, dd, dd, dd, dd, dd, dd], [((0, 0, 0), ⟨true, false, 88, 2, p_opn (m_TableEntry v4)⟩)], 1⟩) (s_laws_toTableEntryS_l1 a0) (fun K g => match g with | (v3, v4) => K (.exit 0) ⟨[.c (.rd true 88 2 (m_TableEntry a0)), dd, dd, .c (.row (0, 0, 0) 88 2 0 (p_len (m_TableEntry v4))), .c (.at (.int .i64 v3)), dd, dd, dd, .c (.at (.int .i64 v3)), .c (.rd true 88 2 (m_TableEntry a0)), .c (.at (.int .i64 (p_int (p_len (m_TableEntry a0))))), .c (.at (.bool false)), dd, dd, dd, dd, dd, dd, dd, dd, dd, dd, dd], [((0, 0, 0), ⟨true, false, 88, 2, p_opn (m_TableEntry v4)⟩)], 2⟩) ?_ (0, x1) _ (rfl)).trans (cL ?_)
  · rintro K1 hr1 ⟨v3, v4⟩ R1
    rw [s_laws_toTableEntryS_l1, ← hp, ← hm_TableEntry]
    dsimp only
    conv => lhs; cbv
    refine cD (fun hb5 => ?_) fun hb5 => ?_
    · rw [hb5]
      conv => lhs; cbv
      try rfl
    rw [hb5]
    conv => lhs; cbv
    rw [nth_TableEntry]
    refine cO (fun hx7 => ?_) ?_
    · rw [hx7]; try rfl
    rintro x6 hx7
    rw [hx7]
    conv => lhs; cbv
    rw [f_laws_toTableEntry x6]
    refine cO (fun hx9 => ?_) ?_
    · rw [hx9]; try rfl
    rintro r8 hx9
    rw [hx9]
    conv => lhs; cbv
    refine cO (fun hx11 => ?_) ?_
    · rw [hx11]; try rfl
    rintro x10 hx11
    rw [hx11]
    conv => lhs; cbv
    rw [rnth_TableEntry]
    refine cO (fun hx13 => ?_) ?_
    · rw [hx13]; try rfl
    rintro x12 hx13
    rw [hx13]
    conv => lhs; cbv
    rw [if_pos (full_string _)]
    conv => lhs; cbv
    rw [own_string]
    conv => lhs; cbv
    rw [rset_TableEntry]
    try conv => lhs; rw [← lset_TableEntry v4 x10 r8]
    conv => lhs; cbv
    try rfl
  rintro ⟨w14, w15⟩
  conv => lhs; cbv
  rw [if_pos (full_TableEntry _)]
  conv => lhs; cbv
  rw [own_TableEntry]
  conv => lhs; cbv
  try rfl
theorem e_s_laws_toStateVector (F : Fns) (f_laws_toTableEntryS : Hs_s_laws_toTableEntryS (F 106)) : Hs_s_laws_toStateVector (EvF F Tryz.f78 (fun _ => [])) := by
  intro a0
  unfold EvF
  obtain ⟨p, hp⟩ := gn prims
  obtain ⟨m_TableEntry, hm_TableEntry⟩ := gn (List.map eTableEntry)
  rw [← hp, ← hm_TableEntry]
  obtain ⟨_, _, _, _, _, _, _, _, _, _, _, _, _, _, _, p_len, _, _, _, _, _, _, _, _, _, _, p_full, _, _, p_own, p_opn, _⟩ := p
  have full_TableEntry := full_gen eTableEntry
  have own_TableEntry := own_gen eTableEntry (fun _ => rfl)
  simp only [Hs_s_laws_toTableEntryS, ← hp, ← hm_TableEntry] at full_TableEntry own_TableEntry f_laws_toTableEntryS
  rw [s_laws_toStateVector]
  conv => lhs; cbv
  rw [f_laws_toTableEntryS a0]
  refine cO (fun hx2 => ?_) ?_
  · rw [hx2]; try rfl
  rintro r1 hx2
  rw [hx2]
  conv => lhs; cbv
  rw [if_pos (full_TableEntry _)]
  conv => lhs; cbv
  rw [own_TableEntry]
  conv => lhs; cbv
  try rfl
theorem e_s_laws_toByteS (F : Fns) : Hs_s_laws_toByteS (EvF F Tryz.f18 (fun id => if id = 3 then [0, 3, 4] else [])) := by
  intro a0
  unfold EvF
  obtain ⟨p, hp⟩ := gn prims
  obtain ⟨m_byte, hm_byte⟩ := gn (List.map eY)
  rw [← hp, ← hm_byte]
  obtain ⟨p_arith, p_cmp, _, _, _, _, _, _, _, _, _, _, _, _, _, p_len, p_int, p_nth, _, _, p_ridx, p_rnth, p_rset, _, _, _, p_full, _, _, p_own, p_opn, _, _, _, _, p_yI, _, _, p_mkN, p_rep, _⟩ := p
  have full_byte := full_gen eY
  have lset_byte := lset_gen eY
  have mkn_byte := @mknF_byte
  have nth_byte := @nthF_byte
  have own_byte := own_gen eY (fun _ => rfl)
  have rep_byte := @repF_byte
  have rnth_byte := @rnthF_byte
  have rset_byte := @rsetF_byte
  simp only [← hp, ← hm_byte] at full_byte lset_byte mkn_byte nth_byte own_byte rep_byte rnth_byte rset_byte
  generalize hal : alp = al
  rw [s_laws_toByteS, ← hp, ← hm_byte]
  dsimp only
  conv => lhs; cbv
  rw [mkn_byte]
  refine cO (fun hx2 => ?_) ?_
  · rw [hx2]; try rfl
  rintro x1 hx2
  rw [hx2]
  conv => lhs; cbv
  rw [rep_byte _ _ _ hx2]
  conv => lhs; cbv
  refine (loop_al hal (fun x => match x with | (v3, v4) => ⟨[.c (.rd true 5 1 (m_byte a0)), dd, dd, .c (.row (0, 0, 0) 5 1 0 (p_len (m_byte v4))), .c (.at (.int .i64 v3)), dd, dd, dd, dd, dd, dd, dd, dd, dd, dd, dd, dd, dd, dd, dd, dd, dd], [((0, 0, 0), ⟨true, false, 5, 1, p_opn (m_byte v4)⟩)], 1⟩) (s_laws_toByteS_l1 a0) (fun K g => match g with | (v3, v4) => K (.exit 0) ⟨[.c (.rd true 5 1 (m_byte a0)), dd, dd, .c (.row (0, 0, 0) 5 1 0 (p_len (m_byte v4))), .c (.at (.int .i64 v3)), dd, dd, dd, .c (.at (.int .i64 v3)), .c (.rd true 5 1 (m_byte a0)), .c (.at (.int .i64 (p_int (p_len (m_byte a0))))), .c (.at (.bool false)), dd, dd, dd, dd, dd, dd, dd, dd, dd, dd], [((0, 0, 0), ⟨true, false, 5, 1, p_opn (m_byte v4)⟩)], 2⟩) ?_ (0, x1) _ (rfl)).trans (cL ?_)
  · rintro K1 hr1 ⟨v3, v4⟩ R1
    rw [s_laws_toByteS_l1, ← hp, ← hm_byte]
    dsimp only
    conv => lhs; cbv
    refine cD (fun hb5 => ?_) fun hb5 => ?_
    · rw [hb5]
      conv => lhs; cbv
      try rfl
    rw [hb5]
    conv => lhs; cbv
    rw [nth_byte]
    refine cO (fun hx7 => ?_) ?_
    · rw [hx7]; try rfl
    rintro x6 hx7
    rw [hx7]
    conv => lhs; cbv
    refine cO (fun hx9 => ?_) ?_
    · rw [hx9]; try rfl
    rintro x8 hx9
    rw [hx9]
    conv => lhs; cbv
    rw [rnth_byte]
    refine cO (fun hx11 => ?_) ?_
    · rw [hx11]; try rfl
    rintro x10 hx11
    rw [hx11]
    conv => lhs; cbv
    rw [rset_byte]
    try conv => lhs; rw [← lset_byte v4 x8 x6]
    conv => lhs; cbv
    try rfl
  rintro ⟨w12, w13⟩
  conv => lhs; cbv
  rw [if_pos (full_byte _)]
  conv => lhs; cbv
  rw [own_byte]
  conv => lhs; cbv
  try rfl
theorem e_s_laws_toPublication (F : Fns) (f_laws_toName : Hs_s_laws_toName (F 77)) (f_laws_toByteS : Hs_s_laws_toByteS (F 18)) : Hs_s_laws_toPublication (EvF F Tryz.f107 (fun _ => [])) := by
  intro a0
  unfold EvF
  obtain ⟨p, hp⟩ := gn prims
  obtain ⟨m_byte, hm_byte⟩ := gn (List.map eY)
  obtain ⟨m_string, hm_string⟩ := gn (List.map eS)
  rw [← hp, ← hm_byte, ← hm_string]
  obtain ⟨_, _, _, _, _, _, _, _, _, _, _, _, _, _, _, p_len, _, _, _, _, _, _, _, _, _, _, p_full, _, _, p_own, p_opn, _⟩ := p
  have full_byte := full_gen eY
  have full_string := full_gen eS
  have own_byte := own_gen eY (fun _ => rfl)
  have own_string := own_gen eS (fun _ => rfl)
  simp only [Hs_s_laws_toName, Hs_s_laws_toByteS, ← hp, ← hm_byte, ← hm_string] at full_byte full_string own_byte own_string f_laws_toName f_laws_toByteS
  rw [s_laws_toPublication]
  conv => lhs; cbv
  rw [f_laws_toName a0.publisher]
  refine cO (fun hx2 => ?_) ?_
  · rw [hx2]; try rfl
  rintro r1 hx2
  rw [hx2]
  conv => lhs; cbv
  rw [f_laws_toByteS a0.content]
  refine cO (fun hx4 => ?_) ?_
  · rw [hx4]; try rfl
  rintro r3 hx4
  rw [hx4]
  conv => lhs; cbv
  rw [if_pos (full_string _)]
  conv => lhs; cbv
  rw [own_string]
  conv => lhs; cbv
  rw [if_pos (full_byte _)]
  conv => lhs; cbv
  rw [own_byte]
  conv => lhs; cbv
  try rfl
theorem e_s_laws_toPublicationS (F : Fns) (f_laws_toPublication : Hs_s_laws_toPublication (F 107)) : Hs_s_laws_toPublicationS (EvF F Tryz.f79 (fun id => if id = 3 then [0, 3, 4] else [])) := by
  intro a0
  unfold EvF
  obtain ⟨p, hp⟩ := gn prims
  obtain ⟨m_Publication, hm_Publication⟩ := gn (List.map ePublication)
  obtain ⟨m_byte, hm_byte⟩ := gn (List.map eY)
  obtain ⟨m_string, hm_string⟩ := gn (List.map eS)
  rw [← hp, ← hm_Publication]
  obtain ⟨p_arith, p_cmp, _, _, _, _, _, _, _, _, _, _, _, _, _, p_len, p_int, p_nth, _, _, p_ridx, p_rnth, p_rset, _, _, _, p_full, _, _, p_own, p_opn, _, _, _, _, _, _, _, p_mkN, p_rep, _⟩ := p
  have full_Publication := full_gen ePublication
  have full_byte := full_gen eY
  have full_string := full_gen eS
  have lset_Publication := lset_gen ePublication
  have mkn_Publication := @mknF_Publication
  have nth_Publication := @nthF_Publication
  have own_Publication := own_gen ePublication (fun _ => rfl)
  have own_byte := own_gen eY (fun _ => rfl)
  have own_string := own_gen eS (fun _ => rfl)
  have rep_Publication := @repF_Publication
  have rnth_Publication := @rnthF_Publication
  have rset_Publication := @rsetF_Publication
  simp only [Hs_s_laws_toPublication, ← hp, ← hm_Publication, ← hm_byte, ← hm_string] at full_Publication full_byte full_string lset_Publication mkn_Publication nth_Publication own_Publication own_byte own_string rep_Publication rnth_Publication rset_Publication f_laws_toPublication
  generalize hal : alp = al
  rw [s_laws_toPublicationS, ← hp, ← hm_Publication]
  dsimp only
  conv => lhs; cbv
  rw [mkn_Publication]
  refine cO (fun hx2 => ?_) ?_
  · rw [hx2]; try rfl
  rintro x1 hx2
  rw [hx2]
  conv => lhs; cbv
  rw [rep_Publication _ _ _ hx2]
  conv => lhs; cbv
  refine (loop_al hal (fun x => match x with | (v3, v4) => ⟨[.c (.rd true 103 3 (m_Publication a0)), dd, dd, .c (.row (0, 0, 0) 103 3 0 (p_len (m_Publication v4))), .c (.at (.int .i64 v3)), dd, dd, dd, dd, dd, dd, dd, dd, dd, dd, dd, dd, dd, dd, dd, dd, dd, dd], [((0, 0, 0), ⟨true, false, 103, 3, p_opn (m_Publication v4)⟩)], 1⟩) (s_laws_toPublicationS_l1 a0) (fun K g => match g with | (v3, v4) => K (.exit 0) ⟨[.c (.rd true 103 3 (m_Publication a0)), dd, dd, .c (.row (0, 0, 0) 103 3 0 (p_len (m_Publication v4))), .c (.at (.int .i64 v3)), dd, dd, dd, .c (.at (.int .i64 v3)), .c (.rd true 103 3 (m_Publication a0)), .c (.at (.int .i64 (p_int (p_len (m_Publication a0))))), .c (.at (.bool false)), dd, dd, dd, dd, dd, dd, dd, dd, dd, dd, dd], [((0, 0, 0), ⟨true, false, 103, 3, p_opn (m_Publication v4)⟩)], 2⟩) ?_ (0, x1) _ (rfl)).trans (cL ?_)
  · rintro K1 hr1 ⟨v3, v4⟩ R1
    rw [s_laws_toPublicationS_l1, ← hp, ← hm_Publication]
    dsimp only
    conv => lhs; cbv
    refine cD (fun hb5 => ?_) fun hb5 => ?_
    · rw [hb5]
      conv => lhs; cbv
      try rfl
    rw [hb5]
    conv => lhs; cbv
    rw [nth_Publication]
    refine cO (fun hx7 => ?_) ?_
    · rw [hx7]; try rfl
    rintro x6 hx7
    rw [hx7]
    conv => lhs; cbv
    rw [f_laws_toPublication x6]
    refine cO (fun hx9 => ?_) ?_
    · rw [hx9]; try rfl
    rintro r8 hx9
    rw [hx9]
    conv => lhs; cbv
    refine cO (fun hx11 => ?_) ?_
    · rw [hx11]; try rfl
    rintro x10 hx11
    rw [hx11]
    conv => lhs; cbv
    rw [rnth_Publication]
    refine cO (fun hx13 => ?_) ?_
    · rw [hx13]; try rfl
    rintro x12 hx13
    rw [hx13]
    conv => lhs; cbv
    rw [if_pos (full_string _)]
    conv => lhs; cbv
    rw [own_string]
    conv => lhs; cbv
    rw [if_pos (full_byte _)]
    conv => lhs; cbv
    rw [own_byte]
    conv => lhs; cbv
    rw [rset_Publication]
    try conv => lhs; rw [← lset_Publication v4 x10 r8]
    conv => lhs; cbv
    try rfl
  rintro ⟨w14, w15⟩
  conv => lhs; cbv
  rw [if_pos (full_Publication _)]
  conv => lhs; cbv
  rw [own_Publication]
  conv => lhs; cbv
  try rfl
theorem e_s_laws_toMember (F : Fns) (f_laws_toName : Hs_s_laws_toName (F 77)) (f_laws_toStateVector : Hs_s_laws_toStateVector (F 78)) (f_laws_toPublicationS : Hs_s_laws_toPublicationS (F 79)) : Hs_s_laws_toMember (EvF F Tryz.f50 (fun _ => [])) := by
  intro a0
  unfold EvF
  obtain ⟨p, hp⟩ := gn prims
  obtain ⟨m_Publication, hm_Publication⟩ := gn (List.map ePublication)
  obtain ⟨m_TableEntry, hm_TableEntry⟩ := gn (List.map eTableEntry)
  obtain ⟨m_string, hm_string⟩ := gn (List.map eS)
  rw [← hp, ← hm_Publication, ← hm_TableEntry, ← hm_string]
  obtain ⟨_, _, _, _, _, _, _, _, _, _, _, _, _, _, _, p_len, _, _, _, _, _, _, _, _, _, _, p_full, _, _, p_own, p_opn, _⟩ := p
  have full_Publication := full_gen ePublication
  have full_TableEntry := full_gen eTableEntry
  have full_string := full_gen eS
  have own_Publication := own_gen ePublication (fun _ => rfl)
  have own_TableEntry := own_gen eTableEntry (fun _ => rfl)
  have own_string := own_gen eS (fun _ => rfl)
  simp only [Hs_s_laws_toName, Hs_s_laws_toStateVector, Hs_s_laws_toPublicationS, ← hp, ← hm_Publication, ← hm_TableEntry, ← hm_string] at full_Publication full_TableEntry full_string own_Publication own_TableEntry own_string f_laws_toName f_laws_toStateVector f_laws_toPublicationS
  rw [s_laws_toMember]
  conv => lhs; cbv
  rw [f_laws_toName a0.name]
  refine cO (fun hx2 => ?_) ?_
  · rw [hx2]; try rfl
  rintro r1 hx2
  rw [hx2]
  conv => lhs; cbv
  rw [f_laws_toStateVector a0.vector]
  refine cO (fun hx4 => ?_) ?_
  · rw [hx4]; try rfl
  rintro r3 hx4
  rw [hx4]
  conv => lhs; cbv
  rw [f_laws_toPublicationS a0.publications]
  refine cO (fun hx6 => ?_) ?_
  · rw [hx6]; try rfl
  rintro r5 hx6
  rw [hx6]
  conv => lhs; cbv
  rw [if_pos (full_string _)]
  conv => lhs; cbv
  rw [own_string]
  conv => lhs; cbv
  rw [if_pos (full_TableEntry _)]
  conv => lhs; cbv
  rw [own_TableEntry]
  conv => lhs; cbv
  rw [if_pos (full_Publication _)]
  conv => lhs; cbv
  rw [own_Publication]
  conv => lhs; cbv
  try rfl
theorem e_s_laws_toMemberS (F : Fns) (f_laws_toMember : Hs_s_laws_toMember (F 50)) : Hs_s_laws_toMemberS (EvF F Tryz.f28 (fun id => if id = 3 then [0, 3, 4] else [])) := by
  intro a0
  unfold EvF
  obtain ⟨p, hp⟩ := gn prims
  obtain ⟨m_Member, hm_Member⟩ := gn (List.map eMember)
  obtain ⟨m_Publication, hm_Publication⟩ := gn (List.map ePublication)
  obtain ⟨m_TableEntry, hm_TableEntry⟩ := gn (List.map eTableEntry)
  obtain ⟨m_string, hm_string⟩ := gn (List.map eS)
  rw [← hp, ← hm_Member]
  obtain ⟨p_arith, p_cmp, _, _, _, _, _, _, _, _, _, _, _, _, _, p_len, p_int, p_nth, _, _, p_ridx, p_rnth, p_rset, _, _, _, p_full, _, _, p_own, p_opn, _, _, _, _, _, _, _, p_mkN, p_rep, _⟩ := p
  have full_Member := full_gen eMember
  have full_Publication := full_gen ePublication
  have full_TableEntry := full_gen eTableEntry
  have full_string := full_gen eS
  have lset_Member := lset_gen eMember
  have mkn_Member := @mknF_Member
  have nth_Member := @nthF_Member
  have own_Member := own_gen eMember (fun _ => rfl)
  have own_Publication := own_gen ePublication (fun _ => rfl)
  have own_TableEntry := own_gen eTableEntry (fun _ => rfl)
  have own_string := own_gen eS (fun _ => rfl)
  have rep_Member := @repF_Member
  have rnth_Member := @rnthF_Member
  have rset_Member := @rsetF_Member
  simp only [Hs_s_laws_toMember, ← hp, ← hm_Member, ← hm_Publication, ← hm_TableEntry, ← hm_string] at full_Member full_Publication full_TableEntry full_string lset_Member mkn_Member nth_Member own_Member own_Publication own_TableEntry own_string rep_Member rnth_Member rset_Member f_laws_toMember
  generalize hal : alp = al
  rw [s_laws_toMemberS, ← hp, ← hm_Member]
  dsimp only
  conv => lhs; cbv
  rw [mkn_Member]
  refine cO (fun hx2 => ?_) ?_
  · rw [hx2]; try rfl
  rintro x1 hx2
  rw [hx2]
  conv => lhs; cbv
  rw [rep_Member _ _ _ hx2]
  conv => lhs; cbv
  refine (loop_al hal (fun x => match x with | (v3, v4) => ⟨[.c (.rd true 65 3 (m_Member a0)), dd, dd, .c (.row (0, 0, 0) 65 3 0 (p_len (m_Member v4))), .c (.at (.int .i64 v3)), dd, dd, dd, dd, dd, dd, dd, dd, dd, dd, dd, dd, dd, dd, dd, dd, dd, dd], [((0, 0, 0), ⟨true, false, 65, 3, p_opn (m_Member v4)⟩)], 1⟩) (s_laws_toMemberS_l1 a0) (fun K g => match g with | (v3, v4) => K (.exit 0) ⟨[.c (.rd true 65 3 (m_Member a0)), dd, dd, .c (.row (0, 0, 0) 65 3 0 (p_len (m_Member v4))), .c (.at (.int .i64 v3)), dd, dd, dd, .c (.at (.int .i64 v3)), .c (.rd true 65 3 (m_Member a0)), .c (.at (.int .i64 (p_int (p_len (m_Member a0))))), .c (.at (.bool false)), dd, dd, dd, dd, dd, dd, dd, dd, dd, dd, dd], [((0, 0, 0), ⟨true, false, 65, 3, p_opn (m_Member v4)⟩)], 2⟩) ?_ (0, x1) _ (rfl)).trans (cL ?_)
  · rintro K1 hr1 ⟨v3, v4⟩ R1
    rw [s_laws_toMemberS_l1, ← hp, ← hm_Member]
    dsimp only
    conv => lhs; cbv
    refine cD (fun hb5 => ?_) fun hb5 => ?_
    · rw [hb5]
      conv => lhs; cbv
      try rfl
    rw [hb5]
    conv => lhs; cbv
    rw [nth_Member]
    refine cO (fun hx7 => ?_) ?_
    · rw [hx7]; try rfl
    rintro x6 hx7
    rw [hx7]
    conv => lhs; cbv
    rw [f_laws_toMember x6]
    refine cO (fun hx9 => ?_) ?_
    · rw [hx9]; try rfl
    rintro r8 hx9
    rw [hx9]
    conv => lhs; cbv
    refine cO (fun hx11 => ?_) ?_
    · rw [hx11]; try rfl
    rintro x10 hx11
    rw [hx11]
    conv => lhs; cbv
    rw [rnth_Member]
    refine cO (fun hx13 => ?_) ?_
    · rw [hx13]; try rfl
    rintro x12 hx13
    rw [hx13]
    conv => lhs; cbv
    rw [if_pos (full_string _)]
    conv => lhs; cbv
    rw [own_string]
    conv => lhs; cbv
    rw [if_pos (full_TableEntry _)]
    conv => lhs; cbv
    rw [own_TableEntry]
    conv => lhs; cbv
    rw [if_pos (full_Publication _)]
    conv => lhs; cbv
    rw [own_Publication]
    conv => lhs; cbv
    rw [rset_Member]
    try conv => lhs; rw [← lset_Member v4 x10 r8]
    conv => lhs; cbv
    try rfl
  rintro ⟨w14, w15⟩
  conv => lhs; cbv
  rw [if_pos (full_Member _)]
  conv => lhs; cbv
  rw [own_Member]
  conv => lhs; cbv
  try rfl
theorem e_s_laws_toSyncGroup (F : Fns) (f_laws_toTopology : Hs_s_laws_toTopology (F 27)) (f_laws_toMemberS : Hs_s_laws_toMemberS (F 28)) : Hs_s_laws_toSyncGroup (EvF F Tryz.f7 (fun _ => [])) := by
  intro a0
  unfold EvF
  obtain ⟨p, hp⟩ := gn prims
  obtain ⟨m_Link, hm_Link⟩ := gn (List.map eLink)
  obtain ⟨m_Member, hm_Member⟩ := gn (List.map eMember)
  rw [← hp, ← hm_Link, ← hm_Member]
  obtain ⟨_, _, _, _, _, _, _, _, _, _, _, _, _, _, _, p_len, _, _, _, _, _, _, _, _, _, _, p_full, _, _, p_own, p_opn, _⟩ := p
  have full_Link := full_gen eLink
  have full_Member := full_gen eMember
  have own_Link := own_gen eLink (fun _ => rfl)
  have own_Member := own_gen eMember (fun _ => rfl)
  simp only [Hs_s_laws_toTopology, Hs_s_laws_toMemberS, ← hp, ← hm_Link, ← hm_Member] at full_Link full_Member own_Link own_Member f_laws_toTopology f_laws_toMemberS
  rw [s_laws_toSyncGroup]
  conv => lhs; cbv
  rw [f_laws_toTopology a0.topology]
  refine cO (fun hx2 => ?_) ?_
  · rw [hx2]; try rfl
  rintro r1 hx2
  rw [hx2]
  conv => lhs; cbv
  rw [f_laws_toMemberS a0.members]
  refine cO (fun hx4 => ?_) ?_
  · rw [hx4]; try rfl
  rintro r3 hx4
  rw [hx4]
  conv => lhs; cbv
  rw [if_pos (full_Link _)]
  conv => lhs; cbv
  rw [own_Link]
  conv => lhs; cbv
  rw [if_pos (full_Member _)]
  conv => lhs; cbv
  rw [own_Member]
  conv => lhs; cbv
  try rfl
theorem e_s_spec_l4Copy (F : Fns) : Hs_s_spec_l4Copy (EvF F Tryz.f71 (fun _ => [])) := by
  intro a0
  unfold EvF
  obtain ⟨p, hp⟩ := gn prims
  obtain ⟨m_string, hm_string⟩ := gn (List.map eS)
  rw [← hp, ← hm_string]
  obtain ⟨_, _, _, _, _, _, _, _, _, _, _, _, _, _, _, p_len, _, _, _, _, _, _, _, p_rapp, p_rlen, p_addN, p_full, p_fits, _, p_own, p_opn, p_lend, _⟩ := p
  have addn0_string := @addn0F_string
  have full_string := full_gen eS
  have lend_string := @lendF_string
  have own_string := own_gen eS (fun _ => rfl)
  have rapp0_string := @rapp0F_string
  simp only [← hp, ← hm_string] at addn0_string full_string lend_string own_string rapp0_string
  rw [s_spec_l4Copy, ← hp, ← hm_string]
  dsimp only
  conv => lhs; cbv
  rw [lend_string]
  conv => lhs; cbv
  refine cD (fun hb1 => ?_) fun hb1 => ?_
  · rw [if_neg (fun x => Bool.noConfusion (hb1.symm.trans x.1))]; try rfl
  rw [if_pos ⟨hb1, trivial⟩]
  conv => lhs; cbv
  rw [rapp0_string, addn0_string]
  conv => lhs; cbv
  rw [if_pos (full_string _)]
  conv => lhs; cbv
  rw [own_string]
  conv => lhs; cbv
  try rfl
theorem e_s_spec_l6Copy (F : Fns) (f_spec_l4Copy : Hs_s_spec_l4Copy (F 71)) : Hs_s_spec_l6Copy (EvF F Tryz.f46 (fun id => if id = 3 then [0, 3, 4] else [])) := by
  intro a0
  unfold EvF
  obtain ⟨p, hp⟩ := gn prims
  obtain ⟨m_TableEntry, hm_TableEntry⟩ := gn (List.map eTableEntry)
  obtain ⟨m_string, hm_string⟩ := gn (List.map eS)
  rw [← hp, ← hm_TableEntry]
  obtain ⟨p_arith, p_cmp, _, _, _, _, _, _, _, _, _, _, _, _, _, p_len, p_int, p_nth, _, _, _, _, _, p_rapp, p_rlen, p_addN, p_full, p_fits, _, p_own, p_opn, _⟩ := p
  have addn_TableEntry := addn_gen eTableEntry
  have full_TableEntry := full_gen eTableEntry
  have full_string := full_gen eS
  have len0_TableEntry := @len0F_TableEntry
  have lit_TableEntry := @litF_TableEntry
  have nth_TableEntry := @nthF_TableEntry
  have opn0_TableEntry := @opn0F_TableEntry
  have own_TableEntry := own_gen eTableEntry (fun _ => rfl)
  have own_string := own_gen eS (fun _ => rfl)
  have rapp_TableEntry := rapp_gen eTableEntry
  simp only [Hs_s_spec_l4Copy, ← hp, ← hm_TableEntry, ← hm_string] at addn_TableEntry full_TableEntry full_string len0_TableEntry lit_TableEntry nth_TableEntry opn0_TableEntry own_TableEntry own_string rapp_TableEntry f_spec_l4Copy
  generalize hal : alp = al
  rw [s_spec_l6Copy]
  conv => lhs; cbv
  refine (loop_al hal (fun x => match x with | (v1, v2) => ⟨[.c (.rd true 88 2 (m_TableEntry a0)), dd, dd, .c (.row (0, 0, 0) 88 2 0 (p_len (m_TableEntry v2))), .c (.at (.int .i64 v1)), dd, dd, dd, dd, dd, dd, dd, dd, dd, dd, dd, dd, dd, dd, dd, dd, dd, dd, dd, dd, dd, dd, dd, dd, dd], [((0, 0, 0), ⟨true, false, 88, 2, p_opn (m_TableEntry v2)⟩)], 1⟩) (s_spec_l6Copy_l1 a0) (fun K g => match g with | (v1, v2) => K (.exit 0) ⟨[.c (.rd true 88 2 (m_TableEntry a0)), dd, dd, .c (.row (0, 0, 0) 88 2 0 (p_len (m_TableEntry v2))), .c (.at (.int .i64 v1)), dd, dd, .c (.at (.int .i64 v1)), .c (.rd true 88 2 (m_TableEntry a0)), .c (.at (.int .i64 (p_int (p_len (m_TableEntry a0))))), .c (.at (.bool false)), dd, dd, dd, dd, dd, dd, dd, dd, dd, dd, dd, dd, dd, dd, dd, dd, dd, dd, dd], [((0, 0, 0), ⟨true, false, 88, 2, p_opn (m_TableEntry v2)⟩)], 2⟩) ?_ (0, []) _ (by simp only [opn0_TableEntry, len0_TableEntry]; rfl)).trans (cL ?_)
  · rintro K1 hr1 ⟨v1, v2⟩ R1
    rw [s_spec_l6Copy_l1, ← hp, ← hm_TableEntry]
    dsimp only
    conv => lhs; cbv
    refine cD (fun hb3 => ?_) fun hb3 => ?_
    · rw [hb3]
      conv => lhs; cbv
      try rfl
    rw [hb3]
    conv => lhs; cbv
    rw [nth_TableEntry]
    refine cO (fun hx5 => ?_) ?_
    · rw [hx5]; try rfl
    rintro x4 hx5
    rw [hx5]
    conv => lhs; cbv
    rw [f_spec_l4Copy x4.name]
    refine cO (fun hx7 => ?_) ?_
    · rw [hx7]; try rfl
    rintro r6 hx7
    rw [hx7]
    conv => lhs; cbv
    rw [nth_TableEntry]
    rw [hx5]
    conv => lhs; cbv
    rw [if_pos (full_string _)]
    conv => lhs; cbv
    rw [own_string]
    conv => lhs; cbv
    rw [lit_TableEntry]
    refine cD (fun hb9 => ?_) fun hb9 => ?_
    · rw [if_neg (fun x => Bool.noConfusion (hb9.symm.trans x.2.1))]; try rfl
    rw [if_pos ⟨full_TableEntry _, hb9, trivial⟩]
    conv => lhs; cbv
    rw [rapp_TableEntry, addn_TableEntry]
    conv => lhs; cbv
    try rfl
  rintro ⟨w10, w11⟩
  conv => lhs; cbv
  rw [if_pos (full_TableEntry _)]
  conv => lhs; cbv
  rw [own_TableEntry]
  conv => lhs; cbv
  try rfl
theorem e_s_spec_l28Copy (F : Fns) (f_spec_l4Copy : Hs_s_spec_l4Copy (F 71)) (f_spec_l6Copy : Hs_s_spec_l6Copy (F 46)) : Hs_s_spec_l28Copy (EvF F Tryz.f61 (fun id => if id = 3 then [1, 2, 3, 4] else [])) := by
  intro a0
  unfold EvF
  obtain ⟨p, hp⟩ := gn prims
  obtain ⟨m_Publication, hm_Publication⟩ := gn (List.map ePublication)
  obtain ⟨m_TableEntry, hm_TableEntry⟩ := gn (List.map eTableEntry)
  obtain ⟨m_byte, hm_byte⟩ := gn (List.map eY)
  obtain ⟨m_string, hm_string⟩ := gn (List.map eS)
  rw [← hp, ← hm_Publication, ← hm_TableEntry, ← hm_string]
  obtain ⟨p_arith, p_cmp, _, _, _, _, _, _, _, _, _, _, _, _, _, p_len, p_int, p_nth, _, _, _, _, _, p_rapp, p_rlen, p_addN, p_full, p_fits, _, p_own, p_opn, p_lend, _⟩ := p
  have addn_Publication := addn_gen ePublication
  have addn0_byte := @addn0F_byte
  have full_Publication := full_gen ePublication
  have full_TableEntry := full_gen eTableEntry
  have full_byte := full_gen eY
  have full_string := full_gen eS
  have len0_Publication := @len0F_Publication
  have len0_TableEntry := @len0F_TableEntry
  have len0_string := @len0F_string
  have lend_byte := @lendF_byte
  have lit_Publication := @litF_Publication
  have nth_Publication := @nthF_Publication
  have opn0_Publication := @opn0F_Publication
  have opn0_TableEntry := @opn0F_TableEntry
  have opn0_string := @opn0F_string
  have own_Publication := own_gen ePublication (fun _ => rfl)
  have own_TableEntry := own_gen eTableEntry (fun _ => rfl)
  have own_byte := own_gen eY (fun _ => rfl)
  have own_string := own_gen eS (fun _ => rfl)
  have rapp_Publication := rapp_gen ePublication
  have rapp0_byte := @rapp0F_byte
  simp only [Hs_s_spec_l4Copy, Hs_s_spec_l6Copy, ← hp, ← hm_Publication, ← hm_byte, ← hm_TableEntry, ← hm_string] at addn_Publication addn0_byte full_Publication full_TableEntry full_byte full_string len0_Publication len0_TableEntry len0_string lend_byte lit_Publication nth_Publication opn0_Publication opn0_TableEntry opn0_string own_Publication own_TableEntry own_byte own_string rapp_Publication rapp0_byte f_spec_l4Copy f_spec_l6Copy
  generalize hal : alp = al
  rw [s_spec_l28Copy]
  conv => lhs; cbv
  rw [f_spec_l4Copy a0.name]
  refine cO (fun hx2 => ?_) ?_
  · rw [hx2]; try rfl
  rintro r1 hx2
  rw [hx2]
  conv => lhs; cbv
  rw [f_spec_l6Copy a0.vector]
  refine cO (fun hx4 => ?_) ?_
  · rw [hx4]; try rfl
  rintro r3 hx4
  rw [hx4]
  conv => lhs; cbv
  refine (loop_al hal (fun x => match x with | (v5, v6) => ⟨[dd, .c (.ptr (0, 0, 0) 3 0 0), .c (.ptr (0, 0, 1) 3 0 0), .c (.ptr (0, 0, 5) 3 0 0), .c (.at (.int .i64 v5)), dd, dd, dd, dd, dd, dd, dd, dd, dd, dd, dd, dd, dd, dd, dd, dd, dd, dd, dd, dd, dd, dd, dd, dd, dd, dd, dd, dd, dd, dd, dd, dd, dd, dd, dd, dd, dd, dd, dd, dd, dd, dd, dd, dd, dd, dd], [((0, 0, 5), ⟨false, true, 65, 3, [[.row (0, 0, 6) 9 1 0 (p_len (m_string r1)), .row (0, 0, 7) 88 2 0 (p_len (m_TableEntry r3)), .row (0, 0, 8) 103 3 0 (p_len (m_Publication v6))]]⟩), ((0, 0, 1), ⟨false, true, 65, 3, [[.row (0, 0, 2) 9 1 0 (p_len (m_string [])), .row (0, 0, 3) 88 2 0 (p_len (m_TableEntry [])), .row (0, 0, 4) 103 3 0 (p_len (m_Publication []))]]⟩), ((0, 0, 0), ⟨false, true, 65, 3, [[.rd true 9 1 (m_string a0.name), .rd true 88 2 (m_TableEntry a0.vector), .rd true 103 3 (m_Publication a0.publications)]]⟩), ((0, 0, 2), ⟨true, false, 9, 1, p_opn (m_string [])⟩), ((0, 0, 3), ⟨true, false, 88, 2, p_opn (m_TableEntry [])⟩), ((0, 0, 4), ⟨true, false, 103, 3, p_opn (m_Publication [])⟩), ((0, 0, 6), ⟨true, false, 9, 1, p_opn (m_string r1)⟩), ((0, 0, 7), ⟨true, false, 88, 2, p_opn (m_TableEntry r3)⟩), ((0, 0, 8), ⟨true, false, 103, 3, p_opn (m_Publication v6)⟩)], 1⟩) (s_spec_l28Copy_l1 a0) (fun K g => match g with | (v5, v6) => K (.exit 0) ⟨[dd, .c (.ptr (0, 0, 0) 3 0 0), .c (.ptr (0, 0, 1) 3 0 0), .c (.ptr (0, 0, 5) 3 0 0), .c (.at (.int .i64 v5)), dd, dd, dd, dd, dd, dd, dd, dd, dd, dd, .c (.at (.int .i64 v5)), .c (.ptr (0, 0, 0) 3 0 2), .c (.rd true 103 3 (m_Publication a0.publications)), .c (.at (.int .i64 (p_int (p_len (m_Publication a0.publications))))), .c (.at (.bool false)), dd, dd, dd, dd, dd, dd, dd, dd, dd, dd, dd, dd, dd, dd, dd, dd, dd, dd, dd, dd, dd, dd, dd, dd, dd, dd, dd, dd, dd, dd, dd], [((0, 0, 5), ⟨false, true, 65, 3, [[.row (0, 0, 6) 9 1 0 (p_len (m_string r1)), .row (0, 0, 7) 88 2 0 (p_len (m_TableEntry r3)), .row (0, 0, 8) 103 3 0 (p_len (m_Publication v6))]]⟩), ((0, 0, 1), ⟨false, true, 65, 3, [[.row (0, 0, 2) 9 1 0 (p_len (m_string [])), .row (0, 0, 3) 88 2 0 (p_len (m_TableEntry [])), .row (0, 0, 4) 103 3 0 (p_len (m_Publication []))]]⟩), ((0, 0, 0), ⟨false, true, 65, 3, [[.rd true 9 1 (m_string a0.name), .rd true 88 2 (m_TableEntry a0.vector), .rd true 103 3 (m_Publication a0.publications)]]⟩), ((0, 0, 2), ⟨true, false, 9, 1, p_opn (m_string [])⟩), ((0, 0, 3), ⟨true, false, 88, 2, p_opn (m_TableEntry [])⟩), ((0, 0, 4), ⟨true, false, 103, 3, p_opn (m_Publication [])⟩), ((0, 0, 6), ⟨true, false, 9, 1, p_opn (m_string r1)⟩), ((0, 0, 7), ⟨true, false, 88, 2, p_opn (m_TableEntry r3)⟩), ((0, 0, 8), ⟨true, false, 103, 3, p_opn (m_Publication v6)⟩)], 2⟩) ?_ (0, []) _ (by simp only [opn0_Publication, len0_Publication, opn0_TableEntry, len0_TableEntry, opn0_string, len0_string]; rfl)).trans (cL ?_)
  · rintro K1 hr1 ⟨v5, v6⟩ R1
    rw [s_spec_l28Copy_l1, ← hp, ← hm_Publication, ← hm_byte]
    dsimp only
    conv => lhs; cbv
    refine cD (fun hb7 => ?_) fun hb7 => ?_
    · rw [hb7]
      conv => lhs; cbv
      try rfl
    rw [hb7]
    conv => lhs; cbv
    rw [nth_Publication]
    refine cO (fun hx9 => ?_) ?_
    · rw [hx9]; try rfl
    rintro x8 hx9
    rw [hx9]
    conv => lhs; cbv
    rw [f_spec_l4Copy x8.publisher]
    refine cO (fun hx11 => ?_) ?_
    · rw [hx11]; try rfl
    rintro r10 hx11
    rw [hx11]
    conv => lhs; cbv
    rw [nth_Publication]
    rw [hx9]
    conv => lhs; cbv
    rw [nth_Publication]
    rw [hx9]
    conv => lhs; cbv
    rw [lend_byte]
    conv => lhs; cbv
    refine cD (fun hb14 => ?_) fun hb14 => ?_
    · rw [if_neg (fun x => Bool.noConfusion (hb14.symm.trans x.1))]; try rfl
    rw [if_pos ⟨hb14, trivial⟩]
    conv => lhs; cbv
    rw [rapp0_byte, addn0_byte]
    conv => lhs; cbv
    rw [if_pos (full_string _)]
    conv => lhs; cbv
    rw [own_string]
    conv => lhs; cbv
    rw [if_pos (full_byte _)]
    conv => lhs; cbv
    rw [own_byte]
    conv => lhs; cbv
    rw [lit_Publication]
    refine cD (fun hb15 => ?_) fun hb15 => ?_
    · rw [if_neg (fun x => Bool.noConfusion (hb15.symm.trans x.2.1))]; try rfl
    rw [if_pos ⟨full_Publication _, hb15, trivial⟩]
    conv => lhs; cbv
    rw [rapp_Publication, addn_Publication]
    conv => lhs; cbv
    try rfl
  rintro ⟨w16, w17⟩
  conv => lhs; cbv
  rw [if_pos (full_string _)]
  conv => lhs; cbv
  rw [own_string]
  conv => lhs; cbv
  rw [if_pos (full_TableEntry _)]
  conv => lhs; cbv
  rw [own_TableEntry]
  conv => lhs; cbv
  rw [if_pos (full_Publication _)]
  conv => lhs; cbv
  rw [own_Publication]
  conv => lhs; cbv
  try rfl
theorem e_s_spec_l37Copy (F : Fns) (f_spec_l28Copy : Hs_s_spec_l28Copy (F 61)) : Hs_s_spec_l37Copy (EvF F Tryz.f38 (fun id => if id = 3 then [1, 2, 3, 4] else [])) := by
  intro a0
  unfold EvF
  obtain ⟨p, hp⟩ := gn prims
  obtain ⟨m_Link, hm_Link⟩ := gn (List.map eLink)
  obtain ⟨m_Member, hm_Member⟩ := gn (List.map eMember)
  obtain ⟨m_Publication, hm_Publication⟩ := gn (List.map ePublication)
  obtain ⟨m_TableEntry, hm_TableEntry⟩ := gn (List.map eTableEntry)
  obtain ⟨m_string, hm_string⟩ := gn (List.map eS)
  rw [← hp, ← hm_Link, ← hm_Member]
  obtain ⟨p_arith, p_cmp, _, _, _, _, _, _, _, _, _, _, _, _, _, p_len, p_int, p_nth, _, _, _, _, _, p_rapp, p_rlen, p_addN, p_full, p_fits, _, p_own, p_opn, p_lend, _⟩ := p
  have addn_Member := addn_gen eMember
  have addn0_Link := @addn0F_Link
  have full_Link := full_gen eLink
  have full_Member := full_gen eMember
  have full_Publication := full_gen ePublication
  have full_TableEntry := full_gen eTableEntry
  have full_string := full_gen eS
  have len0_Link := @len0F_Link
  have len0_Member := @len0F_Member
  have lend_Link := @lendF_Link
  have lit_Member := @litF_Member
  have nth_Member := @nthF_Member
  have opn0_Link := @opn0F_Link
  have opn0_Member := @opn0F_Member
  have own_Link := own_gen eLink (fun _ => rfl)
  have own_Member := own_gen eMember (fun _ => rfl)
  have own_Publication := own_gen ePublication (fun _ => rfl)
  have own_TableEntry := own_gen eTableEntry (fun _ => rfl)
  have own_string := own_gen eS (fun _ => rfl)
  have rapp_Member := rapp_gen eMember
  have rapp0_Link := @rapp0F_Link
  simp only [Hs_s_spec_l28Copy, ← hp, ← hm_Member, ← hm_Link, ← hm_Publication, ← hm_TableEntry, ← hm_string] at addn_Member addn0_Link full_Link full_Member full_Publication full_TableEntry full_string len0_Link len0_Member lend_Link lit_Member nth_Member opn0_Link opn0_Member own_Link own_Member own_Publication own_TableEntry own_string rapp_Member rapp0_Link f_spec_l28Copy
  generalize hal : alp = al
  rw [s_spec_l37Copy, ← hp, ← hm_Link]
  dsimp only
  conv => lhs; cbv
  rw [lend_Link]
  conv => lhs; cbv
  refine cD (fun hb1 => ?_) fun hb1 => ?_
  · rw [if_neg (fun x => Bool.noConfusion (hb1.symm.trans x.1))]; try rfl
  rw [if_pos ⟨hb1, trivial⟩]
  conv => lhs; cbv
  rw [rapp0_Link, addn0_Link]
  conv => lhs; cbv
  refine (loop_al hal (fun x => match x with | (v2, v3) => ⟨[dd, .c (.ptr (0, 0, 0) 3 0 0), .c (.ptr (0, 0, 1) 3 0 0), .c (.ptr (0, 0, 4) 3 0 0), .c (.at (.int .i64 v2)), dd, dd, dd, dd, dd, dd, dd, dd, dd, dd, dd, dd, dd, dd, dd, dd, dd, dd, dd, dd, dd, dd, dd, dd, dd, dd, dd, dd, dd, dd, dd], [((0, 0, 4), ⟨false, true, 39, 3, [[.at (.int .i64 a0.topology.size), .row (0, 0, 5) 115 2 0 (p_len (m_Link a0.topology.links)), .row (0, 0, 6) 65 3 0 (p_len (m_Member v3))]]⟩), ((0, 0, 1), ⟨false, true, 39, 3, [[.at (.int .i64 0), .row (0, 0, 2) 115 2 0 (p_len (m_Link [])), .row (0, 0, 3) 65 3 0 (p_len (m_Member []))]]⟩), ((0, 0, 0), ⟨false, true, 39, 3, [[.at (.int .i64 a0.topology.size), .rd true 115 2 (m_Link a0.topology.links), .rd true 65 3 (m_Member a0.members)]]⟩), ((0, 0, 2), ⟨true, false, 115, 2, p_opn (m_Link [])⟩), ((0, 0, 3), ⟨true, false, 65, 3, p_opn (m_Member [])⟩), ((0, 0, 5), ⟨true, false, 115, 2, p_opn (m_Link a0.topology.links)⟩), ((0, 0, 6), ⟨true, false, 65, 3, p_opn (m_Member v3)⟩)], 1⟩) (s_spec_l37Copy_l1 a0) (fun K g => match g with | (v2, v3) => K (.exit 0) ⟨[dd, .c (.ptr (0, 0, 0) 3 0 0), .c (.ptr (0, 0, 1) 3 0 0), .c (.ptr (0, 0, 4) 3 0 0), .c (.at (.int .i64 v2)), dd, dd, dd, dd, dd, dd, dd, dd, dd, dd, dd, .c (.at (.int .i64 v2)), .c (.ptr (0, 0, 0) 3 0 2), .c (.rd true 65 3 (m_Member a0.members)), .c (.at (.int .i64 (p_int (p_len (m_Member a0.members))))), .c (.at (.bool false)), dd, dd, dd, dd, dd, dd, dd, dd, dd, dd, dd, dd, dd, dd, dd], [((0, 0, 4), ⟨false, true, 39, 3, [[.at (.int .i64 a0.topology.size), .row (0, 0, 5) 115 2 0 (p_len (m_Link a0.topology.links)), .row (0, 0, 6) 65 3 0 (p_len (m_Member v3))]]⟩), ((0, 0, 1), ⟨false, true, 39, 3, [[.at (.int .i64 0), .row (0, 0, 2) 115 2 0 (p_len (m_Link [])), .row (0, 0, 3) 65 3 0 (p_len (m_Member []))]]⟩), ((0, 0, 0), ⟨false, true, 39, 3, [[.at (.int .i64 a0.topology.size), .rd true 115 2 (m_Link a0.topology.links), .rd true 65 3 (m_Member a0.members)]]⟩), ((0, 0, 2), ⟨true, false, 115, 2, p_opn (m_Link [])⟩), ((0, 0, 3), ⟨true, false, 65, 3, p_opn (m_Member [])⟩), ((0, 0, 5), ⟨true, false, 115, 2, p_opn (m_Link a0.topology.links)⟩), ((0, 0, 6), ⟨true, false, 65, 3, p_opn (m_Member v3)⟩)], 2⟩) ?_ (0, []) _ (by simp only [opn0_Link, len0_Link, opn0_Member, len0_Member]; rfl)).trans (cL ?_)
  · rintro K1 hr1 ⟨v2, v3⟩ R1
    rw [s_spec_l37Copy_l1, ← hp, ← hm_Member]
    dsimp only
    conv => lhs; cbv
    refine cD (fun hb4 => ?_) fun hb4 => ?_
    · rw [hb4]
      conv => lhs; cbv
      try rfl
    rw [hb4]
    conv => lhs; cbv
    rw [nth_Member]
    refine cO (fun hx6 => ?_) ?_
    · rw [hx6]; try rfl
    rintro x5 hx6
    rw [hx6]
    conv => lhs; cbv
    rw [f_spec_l28Copy x5]
    refine cO (fun hx8 => ?_) ?_
    · rw [hx8]; try rfl
    rintro r7 hx8
    rw [hx8]
    conv => lhs; cbv
    rw [if_pos (full_string _)]
    conv => lhs; cbv
    rw [own_string]
    conv => lhs; cbv
    rw [if_pos (full_TableEntry _)]
    conv => lhs; cbv
    rw [own_TableEntry]
    conv => lhs; cbv
    rw [if_pos (full_Publication _)]
    conv => lhs; cbv
    rw [own_Publication]
    conv => lhs; cbv
    rw [lit_Member]
    refine cD (fun hb9 => ?_) fun hb9 => ?_
    · rw [if_neg (fun x => Bool.noConfusion (hb9.symm.trans x.2.1))]; try rfl
    rw [if_pos ⟨full_Member _, hb9, trivial⟩]
    conv => lhs; cbv
    rw [rapp_Member, addn_Member]
    conv => lhs; cbv
    try rfl
  rintro ⟨w10, w11⟩
  conv => lhs; cbv
  rw [if_pos (full_Link _)]
  conv => lhs; cbv
  rw [own_Link]
  conv => lhs; cbv
  rw [if_pos (full_Member _)]
  conv => lhs; cbv
  rw [own_Member]
  conv => lhs; cbv
  try rfl
theorem e_s_spec_l1In (F : Fns) : Hs_s_spec_l1In (EvF F Tryz.f25 (fun _ => [])) := by
  intro a0 a1 a2
  unfold EvF
  obtain ⟨p, hp⟩ := gn prims
  rw [← hp]
  obtain ⟨_, p_cmp, _⟩ := p
  rw [s_spec_l1In, ← hp]
  dsimp only
  conv => lhs; cbv
  refine cC (fun hb1 => ?_) fun hb1 => ?_
  · rw [hb1]
    conv => lhs; cbv
    try rfl
  rw [hb1]
  conv => lhs; cbv
  try rfl
theorem e_s_spec_l4Cmp (F : Fns) : Hs_s_spec_l4Cmp (EvF F Tryz.f103 (fun _ => [])) := by
  intro a0 a1
  unfold EvF
  obtain ⟨p, hp⟩ := gn prims
  rw [← hp]
  obtain ⟨_, _, _, p_scmp, _⟩ := p
  rw [s_spec_l4Cmp, ← hp]
  dsimp only
  conv => lhs; cbv
  refine cC (fun hb1 => ?_) fun hb1 => ?_
  · rw [hb1]
    conv => lhs; cbv
    try rfl
  rw [hb1]
  conv => lhs; cbv
  refine cC (fun hb2 => ?_) fun hb2 => ?_
  · rw [hb2]
    conv => lhs; cbv
    try rfl
  rw [hb2]
  conv => lhs; cbv
  try rfl
theorem e_s_spec_CompareNames (F : Fns) (f_spec_l4Cmp : Hs_s_spec_l4Cmp (F 103)) : Hs_s_spec_CompareNames (EvF F Tryz.f74 (fun id => if id = 2 then [2, 3, 5] else [])) := by
  intro a0 a1
  unfold EvF
  obtain ⟨p, hp⟩ := gn prims
  obtain ⟨m_string, hm_string⟩ := gn (List.map eS)
  rw [← hp, ← hm_string]
  obtain ⟨p_arith, p_cmp, _, _, _, _, _, _, _, _, _, _, _, _, _, p_len, p_int, p_nth, _⟩ := p
  have nth_string := @nthF_string
  simp only [Hs_s_spec_l4Cmp, ← hp, ← hm_string] at nth_string f_spec_l4Cmp
  generalize hal : alp = al
  rw [s_spec_CompareNames, ← hp, ← hm_string]
  dsimp only
  conv => lhs; cbv
  refine (loop_al hal (fun v1 => ⟨[dd, dd, .c (.ptr (0, 0, 0) 1 0 0), .c (.ptr (0, 0, 1) 1 0 0), dd, .c (.at (.int .i64 v1)), dd, dd, dd, dd, dd, dd, dd, dd, dd, dd, dd, dd, dd, dd, dd, dd, dd, dd, dd, dd, dd, dd, dd, dd, dd, dd, dd, dd, dd, dd, dd, dd, dd, dd, dd, dd, dd, dd, dd, dd, dd, dd, dd, dd, dd], [((0, 0, 1), ⟨false, true, 62, 1, [[.rd true 9 1 (m_string a1)]]⟩), ((0, 0, 0), ⟨false, true, 62, 1, [[.rd true 9 1 (m_string a0)]]⟩)], 1⟩) (s_spec_CompareNames_l1 a0 a1) (fun K g => match g with | .inl v1 => K (.exit 0) ⟨[dd, dd, .c (.ptr (0, 0, 0) 1 0 0), .c (.ptr (0, 0, 1) 1 0 0), dd, .c (.at (.int .i64 v1)), dd, .c (.at (.int .i64 v1)), .c (.ptr (0, 0, 0) 1 0 0), .c (.rd true 9 1 (m_string a0)), .c (.at (.int .i64 (p_int (p_len (m_string a0))))), .c (.at (.bool true)), .c (.at (.bool true)), .c (.at (.int .i64 v1)), .c (.ptr (0, 0, 1) 1 0 0), .c (.rd true 9 1 (m_string a1)), .c (.at (.int .i64 (p_int (p_len (m_string a1))))), .c (.at (.bool false)), .c (.at (.bool false)), dd, dd, dd, dd, dd, dd, dd, dd, dd, dd, dd, dd, dd, dd, dd, dd, dd, dd, dd, dd, dd, dd, dd, dd, dd, dd, dd, dd, dd, dd, dd, dd], [((0, 0, 1), ⟨false, true, 62, 1, [[.rd true 9 1 (m_string a1)]]⟩), ((0, 0, 0), ⟨false, true, 62, 1, [[.rd true 9 1 (m_string a0)]]⟩)], 2⟩ | .inr (.inl v1) => K (.exit 0) ⟨[dd, dd, .c (.ptr (0, 0, 0) 1 0 0), .c (.ptr (0, 0, 1) 1 0 0), dd, .c (.at (.int .i64 v1)), dd, .c (.at (.int .i64 v1)), .c (.ptr (0, 0, 0) 1 0 0), .c (.rd true 9 1 (m_string a0)), .c (.at (.int .i64 (p_int (p_len (m_string a0))))), .c (.at (.bool false)), .c (.at (.bool false)), .c (.at undef), .c (.at undef), .c (.at undef), .c (.at undef), .c (.at undef), .c (.at (.bool false)), dd, dd, dd, dd, dd, dd, dd, dd, dd, dd, dd, dd, dd, dd, dd, dd, dd, dd, dd, dd, dd, dd, dd, dd, dd, dd, dd, dd, dd, dd, dd, dd], [((0, 0, 1), ⟨false, true, 62, 1, [[.rd true 9 1 (m_string a1)]]⟩), ((0, 0, 0), ⟨false, true, 62, 1, [[.rd true 9 1 (m_string a0)]]⟩)], 2⟩ | .inr (.inr (r)) => some [.v (.at (.int .i64 r))]) ?_ 0 _ (rfl)).trans (cL ?_)
  · rintro K1 hr1 v1 R1
    rw [s_spec_CompareNames_l1, ← hp, ← hm_string]
    dsimp only
    conv => lhs; cbv
    refine cD (fun hb2 => ?_) fun hb2 => ?_
    · rw [hb2]
      conv => lhs; cbv
      try rfl
    rw [hb2]
    conv => lhs; cbv
    refine cD (fun hb3 => ?_) fun hb3 => ?_
    · rw [hb3]
      conv => lhs; cbv
      try rfl
    rw [hb3]
    conv => lhs; cbv
    rw [nth_string]
    refine cO (fun hx5 => ?_) ?_
    · rw [hx5]; try rfl
    rintro x4 hx5
    rw [hx5]
    conv => lhs; cbv
    rw [nth_string]
    refine cO (fun hx7 => ?_) ?_
    · rw [hx7]; try rfl
    rintro x6 hx7
    rw [hx7]
    conv => lhs; cbv
    rw [f_spec_l4Cmp x4 x6]
    refine cO (fun hx9 => ?_) ?_
    · rw [hx9]; try rfl
    rintro r8 hx9
    rw [hx9]
    conv => lhs; cbv
    refine cD (fun hb10 => ?_) fun hb10 => ?_
    · rw [hb10]
      conv => lhs; cbv
      try rfl
    rw [hb10]
    conv => lhs; cbv
    rw [hr1]
    conv => lhs; cbv
    try rfl
  rintro (w11 | w14 | w17)
  · conv => lhs; cbv
    refine cC (fun hb12 => ?_) fun hb12 => ?_
    · rw [hb12]
      conv => lhs; cbv
      try rfl
    rw [hb12]
    conv => lhs; cbv
    refine cC (fun hb13 => ?_) fun hb13 => ?_
    · rw [hb13]
      conv => lhs; cbv
      try rfl
    rw [hb13]
    conv => lhs; cbv
    try rfl
  · conv => lhs; cbv
    refine cC (fun hb15 => ?_) fun hb15 => ?_
    · rw [hb15]
      conv => lhs; cbv
      try rfl
    rw [hb15]
    conv => lhs; cbv
    refine cC (fun hb16 => ?_) fun hb16 => ?_
    · rw [hb16]
      conv => lhs; cbv
      try rfl
    rw [hb16]
    conv => lhs; cbv
    try rfl
  rfl
theorem e_s_spec_EqualNames (F : Fns) (f_spec_CompareNames : Hs_s_spec_CompareNames (F 74)) : Hs_s_spec_EqualNames (EvF F Tryz.f102 (fun _ => [])) := by
  intro a0 a1
  unfold EvF
  obtain ⟨p, hp⟩ := gn prims
  obtain ⟨m_string, hm_string⟩ := gn (List.map eS)
  rw [← hp, ← hm_string]
  obtain ⟨_, p_cmp, _⟩ := p
  simp only [Hs_s_spec_CompareNames, ← hm_string] at f_spec_CompareNames
  rw [s_spec_EqualNames, ← hp]
  dsimp only
  conv => lhs; cbv
  rw [f_spec_CompareNames a0 a1]
  refine cO (fun hx2 => ?_) ?_
  · rw [hx2]; try rfl
  rintro r1 hx2
  rw [hx2]
  conv => lhs; cbv
  try rfl
theorem e_s_spec_l6Find (F : Fns) (f_spec_EqualNames : Hs_s_spec_EqualNames (F 102)) : Hs_s_spec_l6Find (EvF F Tryz.f73 (fun id => if id = 2 then [0, 3, 5] else [])) := by
  intro a0 a1
  unfold EvF
  obtain ⟨p, hp⟩ := gn prims
  obtain ⟨m_TableEntry, hm_TableEntry⟩ := gn (List.map eTableEntry)
  obtain ⟨m_string, hm_string⟩ := gn (List.map eS)
  rw [← hp, ← hm_TableEntry, ← hm_string]
  obtain ⟨p_arith, p_cmp, _, _, _, _, _, _, _, _, _, _, _, _, _, p_len, p_int, p_nth, _⟩ := p
  have nth_TableEntry := @nthF_TableEntry
  simp only [Hs_s_spec_EqualNames, ← hp, ← hm_TableEntry, ← hm_string] at nth_TableEntry f_spec_EqualNames
  generalize hal : alp = al
  rw [s_spec_l6Find]
  conv => lhs; cbv
  refine (loop_al hal (fun v1 => ⟨[.c (.rd true 88 2 (m_TableEntry a0)), dd, dd, .c (.ptr (0, 0, 0) 1 0 0), dd, .c (.at (.int .i64 v1)), dd, dd, dd, dd, dd, dd, dd, dd, dd, dd, dd, dd, dd, dd], [((0, 0, 0), ⟨false, true, 62, 1, [[.rd true 9 1 (m_string a1)]]⟩)], 1⟩) (s_spec_l6Find_l1 a0 a1) (fun K g => match g with | .inl v1 => K (.exit 0) ⟨[.c (.rd true 88 2 (m_TableEntry a0)), dd, dd, .c (.ptr (0, 0, 0) 1 0 0), dd, .c (.at (.int .i64 v1)), .c (.at (.int .i64 v1)), .c (.rd true 88 2 (m_TableEntry a0)), .c (.at (.int .i64 (p_int (p_len (m_TableEntry a0))))), .c (.at (.bool false)), dd, dd, dd, dd, dd, dd, dd, dd, dd, dd], [((0, 0, 0), ⟨false, true, 62, 1, [[.rd true 9 1 (m_string a1)]]⟩)], 2⟩ | .inr (r) => some [.v (.at (.int .i64 r))]) ?_ 0 _ (rfl)).trans (cL ?_)
  · rintro K1 hr1 v1 R1
    rw [s_spec_l6Find_l1, ← hp, ← hm_TableEntry]
    dsimp only
    conv => lhs; cbv
    refine cD (fun hb2 => ?_) fun hb2 => ?_
    · rw [hb2]
      conv => lhs; cbv
      try rfl
    rw [hb2]
    conv => lhs; cbv
    rw [nth_TableEntry]
    refine cO (fun hx4 => ?_) ?_
    · rw [hx4]; try rfl
    rintro x3 hx4
    rw [hx4]
    conv => lhs; cbv
    rw [f_spec_EqualNames x3.name a1]
    refine cO (fun hx6 => ?_) ?_
    · rw [hx6]; try rfl
    rintro r5 hx6
    rw [hx6]
    conv => lhs; cbv
    refine cD (fun hb7 => ?_) fun hb7 => ?_
    · rw [hb7]
      conv => lhs; cbv
      try rfl
    rw [hb7]
    conv => lhs; cbv
    rw [hr1]
    conv => lhs; cbv
    try rfl
  rintro (w8 | w9)
  · conv => lhs; cbv
    try rfl
  rfl
theorem e_s_spec_LookupEntry (F : Fns) (f_spec_l6Find : Hs_s_spec_l6Find (F 73)) : Hs_s_spec_LookupEntry (EvF F Tryz.f72 (fun _ => [])) := by
  intro a0 a1
  unfold EvF
  obtain ⟨p, hp⟩ := gn prims
  obtain ⟨m_TableEntry, hm_TableEntry⟩ := gn (List.map eTableEntry)
  obtain ⟨m_string, hm_string⟩ := gn (List.map eS)
  rw [← hp, ← hm_TableEntry, ← hm_string]
  obtain ⟨_, p_cmp, _, _, _, _, _, _, _, _, _, _, _, _, _, _, _, p_nth, _⟩ := p
  have nth_TableEntry := @nthF_TableEntry
  simp only [Hs_s_spec_l6Find, ← hp, ← hm_TableEntry, ← hm_string] at nth_TableEntry f_spec_l6Find
  rw [s_spec_LookupEntry, ← hp]
  dsimp only
  conv => lhs; cbv
  rw [f_spec_l6Find a0 a1]
  refine cO (fun hx2 => ?_) ?_
  · rw [hx2]; try rfl
  rintro r1 hx2
  rw [hx2]
  conv => lhs; cbv
  refine cC (fun hb3 => ?_) fun hb3 => ?_
  · rw [hb3]
    conv => lhs; cbv
    try rfl
  rw [hb3]
  conv => lhs; cbv
  rw [nth_TableEntry]
  refine cO (fun hx5 => ?_) ?_
  · rw [hx5]; try rfl
  rintro x4 hx5
  rw [hx5]
  conv => lhs; cbv
  try rfl
theorem e_s_spec_SeqOf (F : Fns) (f_spec_LookupEntry : Hs_s_spec_LookupEntry (F 72)) : Hs_s_spec_SeqOf (EvF F Tryz.f47 (fun _ => [])) := by
  intro a0 a1
  unfold EvF
  obtain ⟨p, hp⟩ := gn prims
  obtain ⟨m_TableEntry, hm_TableEntry⟩ := gn (List.map eTableEntry)
  obtain ⟨m_string, hm_string⟩ := gn (List.map eS)
  rw [← hp, ← hm_TableEntry, ← hm_string]
  simp only [Hs_s_spec_LookupEntry, ← hm_TableEntry, ← hm_string] at f_spec_LookupEntry
  rw [s_spec_SeqOf]
  conv => lhs; cbv
  rw [f_spec_LookupEntry a0 a1]
  refine cO (fun hx2 => ?_) ?_
  · rw [hx2]; try rfl
  rintro ⟨r1_0, r1_1⟩ hx2
  rw [hx2]
  conv => lhs; cbv
  try rfl
theorem e_s_spec_ValidPart (F : Fns) (f_spec_l1In : Hs_s_spec_l1In (F 25)) : Hs_s_spec_ValidPart (EvF F Tryz.f125 (fun id => if id = 4 then [0, 3] else [])) := by
  intro a0
  unfold EvF
  obtain ⟨p, hp⟩ := gn prims
  rw [← hp]
  obtain ⟨p_arith, p_cmp, p_wrap, _, _, _, p_ssize, p_sat, _, _, _, p_bnot, _⟩ := p
  simp only [Hs_s_spec_l1In] at f_spec_l1In
  generalize hal : alp = al
  rw [s_spec_ValidPart, ← hp]
  dsimp only
  conv => lhs; cbv
  rw [f_spec_l1In (p_ssize a0) 1 8]
  refine cO (fun hx2 => ?_) ?_
  · rw [hx2]; try rfl
  rintro r1 hx2
  rw [hx2]
  conv => lhs; cbv
  refine cC (fun hb3 => ?_) fun hb3 => ?_
  · rw [hb3]
    conv => lhs; cbv
    try rfl
  rw [hb3]
  conv => lhs; cbv
  refine (loop_al hal (fun v4 => ⟨[.c (.at (.string a0)), dd, dd, .c (.at (.int .i64 v4)), dd, dd, dd, dd, dd, dd, dd, dd, dd, dd, dd, dd, dd, dd, dd, dd, dd, dd, dd, dd, dd, dd, dd, dd, dd, dd, dd], [], 1⟩) (s_spec_ValidPart_l1 a0) (fun K g => match g with | .inl v4 => K (.exit 0) ⟨[.c (.at (.string a0)), dd, dd, .c (.at (.int .i64 v4)), dd, dd, dd, dd, dd, .c (.at (.int .i64 v4)), .c (.at (.string a0)), .c (.at (.int .i64 (p_ssize a0))), .c (.at (.bool false)), dd, dd, dd, dd, dd, dd, dd, dd, dd, dd, dd, dd, dd, dd, dd, dd, dd, dd], [], 2⟩ | .inr (r) => some [.v (.at (.bool r))]) ?_ 0 _ (rfl)).trans (cL ?_)
  · rintro K1 hr1 v4 R1
    rw [s_spec_ValidPart_l1, ← hp]
    dsimp only
    conv => lhs; cbv
    refine cD (fun hb5 => ?_) fun hb5 => ?_
    · rw [hb5]
      conv => lhs; cbv
      try rfl
    rw [hb5]
    conv => lhs; cbv
    refine cO (fun hx7 => ?_) ?_
    · rw [hx7]; try rfl
    rintro x6 hx7
    rw [hx7]
    conv => lhs; cbv
    rw [f_spec_l1In (p_wrap .i64 x6) 97 122]
    refine cO (fun hx9 => ?_) ?_
    · rw [hx9]; try rfl
    rintro r8 hx9
    rw [hx9]
    conv => lhs; cbv
    refine cD (fun hb10 => ?_) fun hb10 => ?_
    · rw [hb10]
      conv => lhs; cbv
      try rfl
    rw [hb10]
    conv => lhs; cbv
    rw [f_spec_l1In (p_wrap .i64 x6) 48 57]
    refine cO (fun hx12 => ?_) ?_
    · rw [hx12]; try rfl
    rintro r11 hx12
    rw [hx12]
    conv => lhs; cbv
    refine cD (fun hb13 => ?_) fun hb13 => ?_
    · rw [hb13]
      conv => lhs; cbv
      try rfl
    rw [hb13]
    conv => lhs; cbv
    refine cD (fun hb14 => ?_) fun hb14 => ?_
    · rw [hb14]
      conv => lhs; cbv
      try rfl
    rw [hb14]
    conv => lhs; cbv
    rw [hr1]
    conv => lhs; cbv
    try rfl
  rintro (w15 | w16)
  · conv => lhs; cbv
    try rfl
  rfl
theorem e_s_spec_ValidName (F : Fns) (f_spec_ValidPart : Hs_s_spec_ValidPart (F 125)) : Hs_s_spec_ValidName (EvF F Tryz.f104 (fun id => if id = 2 then [1, 3] else [])) := by
  intro a0
  unfold EvF
  obtain ⟨p, hp⟩ := gn prims
  obtain ⟨m_string, hm_string⟩ := gn (List.map eS)
  rw [← hp, ← hm_string]
  obtain ⟨p_arith, p_cmp, _, _, _, _, _, _, _, _, _, p_bnot, _, _, _, p_len, p_int, p_nth, _⟩ := p
  have nth_string := @nthF_string
  simp only [Hs_s_spec_ValidPart, ← hp, ← hm_string] at nth_string f_spec_ValidPart
  generalize hal : alp = al
  rw [s_spec_ValidName, ← hp, ← hm_string]
  dsimp only
  conv => lhs; cbv
  refine (loop_al hal (fun v1 => ⟨[dd, .c (.ptr (0, 0, 0) 1 0 0), dd, .c (.at (.int .i64 v1)), dd, dd, dd, dd, dd, dd, dd, dd, dd, dd, dd, dd, dd, dd, dd, dd, dd, dd], [((0, 0, 0), ⟨false, true, 62, 1, [[.rd true 9 1 (m_string a0)]]⟩)], 1⟩) (s_spec_ValidName_l1 a0) (fun K g => match g with | .inl v1 => K (.exit 0) ⟨[dd, .c (.ptr (0, 0, 0) 1 0 0), dd, .c (.at (.int .i64 v1)), .c (.at (.int .i64 v1)), .c (.ptr (0, 0, 0) 1 0 0), .c (.rd true 9 1 (m_string a0)), .c (.at (.int .i64 (p_int (p_len (m_string a0))))), .c (.at (.bool false)), dd, dd, dd, dd, dd, dd, dd, dd, dd, dd, dd, dd, dd], [((0, 0, 0), ⟨false, true, 62, 1, [[.rd true 9 1 (m_string a0)]]⟩)], 2⟩ | .inr (r) => some [.v (.at (.bool r))]) ?_ 0 _ (rfl)).trans (cL ?_)
  · rintro K1 hr1 v1 R1
    rw [s_spec_ValidName_l1, ← hp, ← hm_string]
    dsimp only
    conv => lhs; cbv
    refine cD (fun hb2 => ?_) fun hb2 => ?_
    · rw [hb2]
      conv => lhs; cbv
      try rfl
    rw [hb2]
    conv => lhs; cbv
    rw [nth_string]
    refine cO (fun hx4 => ?_) ?_
    · rw [hx4]; try rfl
    rintro x3 hx4
    rw [hx4]
    conv => lhs; cbv
    rw [f_spec_ValidPart x3]
    refine cO (fun hx6 => ?_) ?_
    · rw [hx6]; try rfl
    rintro r5 hx6
    rw [hx6]
    conv => lhs; cbv
    refine cD (fun hb7 => ?_) fun hb7 => ?_
    · rw [hb7]
      conv => lhs; cbv
      try rfl
    rw [hb7]
    conv => lhs; cbv
    rw [hr1]
    conv => lhs; cbv
    try rfl
  rintro (w8 | w9)
  · conv => lhs; cbv
    try rfl
  rfl
theorem e_s_spec_ValidTable (F : Fns) (f_spec_ValidName : Hs_s_spec_ValidName (F 104)) (f_spec_CompareNames : Hs_s_spec_CompareNames (F 74)) : Hs_s_spec_ValidTable (EvF F Tryz.f75 (fun id => if id = 2 then [0, 3] else [])) := by
  intro a0
  unfold EvF
  obtain ⟨p, hp⟩ := gn prims
  obtain ⟨m_TableEntry, hm_TableEntry⟩ := gn (List.map eTableEntry)
  obtain ⟨m_string, hm_string⟩ := gn (List.map eS)
  rw [← hp, ← hm_TableEntry]
  obtain ⟨p_arith, p_cmp, _, _, _, _, _, _, _, _, _, p_bnot, _, _, _, p_len, p_int, p_nth, _⟩ := p
  have nth_TableEntry := @nthF_TableEntry
  simp only [Hs_s_spec_ValidName, Hs_s_spec_CompareNames, ← hp, ← hm_TableEntry, ← hm_string] at nth_TableEntry f_spec_ValidName f_spec_CompareNames
  generalize hal : alp = al
  rw [s_spec_ValidTable, ← hp, ← hm_TableEntry]
  dsimp only
  conv => lhs; cbv
  refine (loop_al hal (fun v1 => ⟨[.c (.rd true 88 2 (m_TableEntry a0)), dd, dd, .c (.at (.int .i64 v1)), dd, dd, dd, dd, dd, dd, dd, dd, dd, dd, dd, dd, dd, dd, dd, dd, dd, dd, dd, dd, dd, dd, dd, dd, dd, dd, dd, dd, dd, dd, dd, dd, dd, dd, dd], [], 1⟩) (s_spec_ValidTable_l1 a0) (fun K g => match g with | .inl v1 => K (.exit 0) ⟨[.c (.rd true 88 2 (m_TableEntry a0)), dd, dd, .c (.at (.int .i64 v1)), .c (.at (.int .i64 v1)), .c (.rd true 88 2 (m_TableEntry a0)), .c (.at (.int .i64 (p_int (p_len (m_TableEntry a0))))), .c (.at (.bool false)), dd, dd, dd, dd, dd, dd, dd, dd, dd, dd, dd, dd, dd, dd, dd, dd, dd, dd, dd, dd, dd, dd, dd, dd, dd, dd, dd, dd, dd, dd, dd], [], 2⟩ | .inr (r) => some [.v (.at (.bool r))]) ?_ 0 _ (rfl)).trans (cL ?_)
  · rintro K1 hr1 v1 R1
    rw [s_spec_ValidTable_l1, ← hp, ← hm_TableEntry]
    dsimp only
    conv => lhs; cbv
    refine cD (fun hb2 => ?_) fun hb2 => ?_
    · rw [hb2]
      conv => lhs; cbv
      try rfl
    rw [hb2]
    conv => lhs; cbv
    rw [nth_TableEntry]
    refine cO (fun hx4 => ?_) ?_
    · rw [hx4]; try rfl
    rintro x3 hx4
    rw [hx4]
    conv => lhs; cbv
    rw [f_spec_ValidName x3.name]
    refine cO (fun hx6 => ?_) ?_
    · rw [hx6]; try rfl
    rintro r5 hx6
    rw [hx6]
    conv => lhs; cbv
    refine cC (fun hb7 => ?_) fun hb7 => ?_
    · rw [hb7]
      conv => lhs; cbv
      rw [hr1]
      conv => lhs; cbv
      try rfl
    rw [hb7]
    conv => lhs; cbv
    refine cD (fun hb8 => ?_) fun hb8 => ?_
    · rw [hb8]
      conv => lhs; cbv
      try rfl
    rw [hb8]
    conv => lhs; cbv
    rw [nth_TableEntry]
    refine cO (fun hx10 => ?_) ?_
    · rw [hx10]; try rfl
    rintro x9 hx10
    rw [hx10]
    conv => lhs; cbv
    rw [nth_TableEntry]
    rw [hx4]
    conv => lhs; cbv
    rw [f_spec_CompareNames x9.name x3.name]
    refine cO (fun hx13 => ?_) ?_
    · rw [hx13]; try rfl
    rintro r12 hx13
    rw [hx13]
    conv => lhs; cbv
    refine cD (fun hb14 => ?_) fun hb14 => ?_
    · rw [hb14]
      conv => lhs; cbv
      try rfl
    rw [hb14]
    conv => lhs; cbv
    rw [hr1]
    conv => lhs; cbv
    try rfl
  rintro (w15 | w16)
  · conv => lhs; cbv
    try rfl
  rfl
theorem e_s_spec_PutEntry (F : Fns) (f_spec_l6Copy : Hs_s_spec_l6Copy (F 46)) (f_spec_l6Find : Hs_s_spec_l6Find (F 73)) (f_spec_ValidTable : Hs_s_spec_ValidTable (F 75)) (f_spec_CompareNames : Hs_s_spec_CompareNames (F 74)) (f_spec_l4Copy : Hs_s_spec_l4Copy (F 71)) : Hs_s_spec_PutEntry (EvF F Tryz.f48 (fun id => if id = 6 then [0, 2, 4, 8, 9] else [])) := by
  intro a0 a1 a2
  unfold EvF
  obtain ⟨p, hp⟩ := gn prims
  obtain ⟨m_TableEntry, hm_TableEntry⟩ := gn (List.map eTableEntry)
  obtain ⟨m_string, hm_string⟩ := gn (List.map eS)
  rw [← hp, ← hm_TableEntry, ← hm_string]
  obtain ⟨p_arith, p_cmp, _, _, _, _, _, _, _, _, _, p_bnot, _, _, _, p_len, p_int, _, _, p_rsub, p_ridx, p_rnth, p_rset, p_rapp, p_rlen, p_addN, p_full, p_fits, p_frz, p_own, p_opn, _, p_rmov, p_rout, p_both, _⟩ := p
  have h_both : @p_both = @Prims.both prims := congrArg (fun q : Prims => @Prims.both q) hp
  have addn_TableEntry := addn_gen eTableEntry
  have addn0_TableEntry := @addn0F_TableEntry
  have frz_TableEntry := frz_gen eTableEntry (fun _ => rfl)
  have full_TableEntry := full_gen eTableEntry
  have full_string := full_gen eS
  have lit_TableEntry := @litF_TableEntry
  have lset_TableEntry := lset_gen eTableEntry
  have own_TableEntry := own_gen eTableEntry (fun _ => rfl)
  have own_string := own_gen eS (fun _ => rfl)
  have rapp_TableEntry := rapp_gen eTableEntry
  have rapp0_TableEntry := @rapp0F_TableEntry
  have rmovr_TableEntry := @rmovrF_TableEntry
  have rmovs_TableEntry := @rmovsF_TableEntry
  have rnth_TableEntry := @rnthF_TableEntry
  have rset_TableEntry := @rsetF_TableEntry
  simp only [Hs_s_spec_l6Copy, Hs_s_spec_l6Find, Hs_s_spec_ValidTable, Hs_s_spec_CompareNames, Hs_s_spec_l4Copy, ← hp, ← hm_TableEntry, ← hm_string] at addn_TableEntry addn0_TableEntry frz_TableEntry full_TableEntry full_string lit_TableEntry lset_TableEntry own_TableEntry own_string rapp_TableEntry rapp0_TableEntry rmovr_TableEntry rmovs_TableEntry rnth_TableEntry rset_TableEntry f_spec_l6Copy f_spec_l6Find f_spec_ValidTable f_spec_CompareNames f_spec_l4Copy
  generalize hal : alp = al
  rw [s_spec_PutEntry, ← hp, ← hm_TableEntry]
  dsimp only
  conv => lhs; cbv
  rw [f_spec_l6Copy a0]
  refine cO (fun hx2 => ?_) ?_
  · rw [hx2]; try rfl
  rintro r1 hx2
  rw [hx2]
  conv => lhs; cbv
  rw [f_spec_l6Find a0 a1]
  refine cO (fun hx4 => ?_) ?_
  · rw [hx4]; try rfl
  rintro r3 hx4
  rw [hx4]
  conv => lhs; cbv
  refine cC (fun hb5 => ?_) fun hb5 => ?_
  · rw [hb5]
    conv => lhs; cbv
    refine cO (fun hx7 => ?_) ?_
    · rw [hx7]; try rfl
    rintro x6 hx7
    rw [hx7]
    conv => lhs; cbv
    rw [rnth_TableEntry]
    refine cO (fun hx9 => ?_) ?_
    · rw [hx9]; try rfl
    rintro x8 hx9
    rw [hx9]
    conv => lhs; cbv
    rw [rset_TableEntry]
    try conv => lhs; rw [← lset_TableEntry r1 x6 (⟨x8.name, a2⟩ : DTableEntry)]
    conv => lhs; cbv
    rw [frz_TableEntry]
    conv => lhs; cbv
    have hc := f_spec_ValidTable (r1.set x6 (⟨x8.name, a2⟩ : DTableEntry))
    try dsimp only at hc
    rw [hc]
    clear hc
    refine cO (fun hx11 => ?_) ?_
    · rw [hx11]; try rfl
    rintro r10 hx11
    rw [hx11]
    conv => lhs; cbv
    refine cD (fun hb12 => ?_) fun hb12 => ?_
    · rw [hb12]
      conv => lhs; cbv
      rw [if_pos (full_TableEntry _)]
      conv => lhs; cbv
      rw [own_TableEntry]
      conv => lhs; cbv
      try rfl
    rw [hb12]
    conv => lhs; cbv
    rw [f_spec_l6Copy a0]
    rw [hx2]
    conv => lhs; cbv
    rw [if_pos (full_TableEntry _)]
    conv => lhs; cbv
    rw [own_TableEntry]
    conv => lhs; cbv
    try rfl
  rw [hb5]
  conv => lhs; cbv
  refine (loop_al hal (fun v14 => ⟨[.c (.rd true 88 2 (m_TableEntry a0)), dd, .c (.at (.int .i64 a2)), dd, .c (.ptr (0, 0, 0) 1 0 0), dd, dd, dd, .c (.row (0, 0, 1) 88 2 0 (p_len (m_TableEntry r1))), .c (.at (.int .i64 v14)), dd, dd, dd, dd, dd, dd, dd, dd, dd, dd, dd, dd, dd, dd, dd, dd, dd, dd, dd, dd, dd, dd, dd, dd, dd, dd, dd, dd, dd, dd, dd, dd, dd, dd, dd, dd, dd, dd, dd, dd, dd, dd, dd, dd, dd, dd, dd, dd, dd, dd, dd], [((0, 0, 0), ⟨false, true, 62, 1, [[.rd true 9 1 (m_string a1)]]⟩), ((0, 0, 1), ⟨true, false, 88, 2, p_opn (m_TableEntry r1)⟩)], 1⟩) (s_spec_PutEntry_l1 a1 r1) (fun K g => match g with | .inl (v14, x16, x18, r20) => K (.exit 0) ⟨[.c (.rd true 88 2 (m_TableEntry a0)), dd, .c (.at (.int .i64 a2)), dd, .c (.ptr (0, 0, 0) 1 0 0), dd, dd, dd, .c (.row (0, 0, 1) 88 2 0 (p_len (m_TableEntry r1))), .c (.at (.int .i64 v14)), dd, dd, dd, dd, dd, dd, dd, dd, dd, dd, dd, dd, dd, .c (.at (.int .i64 v14)), .c (.row (0, 0, 1) 88 2 0 (p_len (m_TableEntry r1))), .c (.at (.int .i64 (p_int (p_len (m_TableEntry r1))))), .c (.at (.bool true)), .c (.at (.bool true)), .c (.row (0, 0, 1) 88 2 0 (p_len (m_TableEntry r1))), .c (.at (.int .i64 v14)), .c (.ptr (0, 0, 1) 2 x16 0), .c (.ptr (0, 0, 1) 2 x16 0), .agg [.rd false 9 1 (m_string x18.name)], .agg [.rd true 9 1 (m_string a1)], .c (.at (.int .i64 r20)), .c (.at (.bool false)), .c (.at (.bool false)), dd, dd, dd, dd, dd, dd, dd, dd, dd, dd, dd, dd, dd, dd, dd, dd, dd, dd, dd, dd, dd, dd, dd, dd], [((0, 0, 0), ⟨false, true, 62, 1, [[.rd true 9 1 (m_string a1)]]⟩), ((0, 0, 1), ⟨true, false, 88, 2, p_opn (m_TableEntry r1)⟩)], 2⟩ | .inr (v14) => K (.exit 0) ⟨[.c (.rd true 88 2 (m_TableEntry a0)), dd, .c (.at (.int .i64 a2)), dd, .c (.ptr (0, 0, 0) 1 0 0), dd, dd, dd, .c (.row (0, 0, 1) 88 2 0 (p_len (m_TableEntry r1))), .c (.at (.int .i64 v14)), dd, dd, dd, dd, dd, dd, dd, dd, dd, dd, dd, dd, dd, .c (.at (.int .i64 v14)), .c (.row (0, 0, 1) 88 2 0 (p_len (m_TableEntry r1))), .c (.at (.int .i64 (p_int (p_len (m_TableEntry r1))))), .c (.at (.bool false)), .c (.at (.bool false)), .c (.at undef), .c (.at undef), .c (.at undef), .c (.at undef), .c (.at undef), .c (.at undef), .c (.at undef), .c (.at undef), .c (.at (.bool false)), dd, dd, dd, dd, dd, dd, dd, dd, dd, dd, dd, dd, dd, dd, dd, dd, dd, dd, dd, dd, dd, dd, dd, dd], [((0, 0, 0), ⟨false, true, 62, 1, [[.rd true 9 1 (m_string a1)]]⟩), ((0, 0, 1), ⟨true, false, 88, 2, p_opn (m_TableEntry r1)⟩)], 2⟩) ?_ 0 _ (rfl)).trans (cL ?_)
  · rintro K1 hr1 v14 R1
    rw [s_spec_PutEntry_l1, ← hp, ← hm_TableEntry]
    dsimp only
    conv => lhs; cbv
    refine cD (fun hb15 => ?_) fun hb15 => ?_
    · rw [hb15]
      conv => lhs; cbv
      try rfl
    rw [hb15]
    conv => lhs; cbv
    refine cO (fun hx17 => ?_) ?_
    · rw [hx17]; try rfl
    rintro x16 hx17
    rw [hx17]
    conv => lhs; cbv
    rw [rnth_TableEntry]
    refine cO (fun hx19 => ?_) ?_
    · rw [hx19]; try rfl
    rintro x18 hx19
    rw [hx19]
    conv => lhs; cbv
    rw [f_spec_CompareNames x18.name a1]
    refine cO (fun hx21 => ?_) ?_
    · rw [hx21]; try rfl
    rintro r20 hx21
    rw [hx21]
    conv => lhs; cbv
    refine cC (fun hb22 => ?_) fun hb22 => ?_
    · rw [hb22]
      conv => lhs; cbv
      try rfl
    rw [hb22]
    conv => lhs; cbv
    try rfl
  rintro (⟨w23, w24, w25, w26⟩ | w66)
  · conv => lhs; cbv
    rw [f_spec_l4Copy a1]
    refine cO (fun hx28 => ?_) ?_
    · rw [hx28]; try rfl
    rintro r27 hx28
    rw [hx28]
    conv => lhs; cbv
    refine cO (fun hx30 => ?_) ?_
    · rw [hx30]; try rfl
    rintro ⟨x29a, x29b⟩ hx30
    rw [hx30]
    conv => lhs; cbv
    refine cO (fun hx32 => ?_) ?_
    · rw [hx32]; try rfl
    rintro ⟨x31a, x31b⟩ hx32
    rw [hx32]
    conv => lhs; cbv
    refine cFk h_both ?_ ?_
    · conv => lhs; cbv
      refine cFk h_both ?_ ?_
      · conv => lhs; cbv
        rw [rmovs_TableEntry]
        refine cO (fun hx34 => ?_) ?_
        · rw [hx34]; try rfl
        rintro x33 hx34
        rw [hx34]
        conv => lhs; cbv
        refine cD (fun hb35 => ?_) fun hb35 => ?_
        · rw [if_neg (fun x => Bool.noConfusion (hb35.symm.trans x.1))]; try rfl
        rw [if_pos ⟨hb35, trivial⟩]
        conv => lhs; cbv
        rw [rapp0_TableEntry, addn0_TableEntry]
        conv => lhs; cbv
        rw [if_pos (full_string _)]
        conv => lhs; cbv
        rw [own_string]
        conv => lhs; cbv
        rw [lit_TableEntry]
        refine cD (fun hb36 => ?_) fun hb36 => ?_
        · rw [if_neg (fun x => Bool.noConfusion (hb36.symm.trans x.2.1))]; try rfl
        rw [if_pos ⟨full_TableEntry _, hb36, trivial⟩]
        conv => lhs; cbv
        rw [rapp_TableEntry, addn_TableEntry]
        conv => lhs; cbv
        rw [rmovr_TableEntry _ _ _ _ _ _ hx34]
        refine cO (fun hx38 => ?_) ?_
        · rw [hx38]; try rfl
        rintro x37 hx38
        rw [hx38]
        conv => lhs; cbv
        refine cD (fun hb39 => ?_) fun hb39 => ?_
        · rw [if_neg (fun x => Bool.noConfusion (hb39.symm.trans x.2.1))]; try rfl
        rw [if_pos ⟨full_TableEntry _, hb39, trivial⟩]
        conv => lhs; cbv
        rw [rapp_TableEntry, addn_TableEntry]
        conv => lhs; cbv
        rw [frz_TableEntry]
        conv => lhs; cbv
        have hc := f_spec_ValidTable ((x33 ++ [(⟨r27, a2⟩ : DTableEntry)]) ++ x37)
        try dsimp only at hc
        rw [hc]
        clear hc
        refine cO (fun hx41 => ?_) ?_
        · rw [hx41]; try rfl
        rintro r40 hx41
        rw [hx41]
        conv => lhs; cbv
        refine cD (fun hb42 => ?_) fun hb42 => ?_
        · rw [hb42]
          conv => lhs; cbv
          rw [if_pos (full_TableEntry _)]
          conv => lhs; cbv
          rw [own_TableEntry]
          conv => lhs; cbv
          try rfl
        rw [hb42]
        conv => lhs; cbv
        rw [f_spec_l6Copy a0]
        rw [hx2]
        conv => lhs; cbv
        rw [if_pos (full_TableEntry _)]
        conv => lhs; cbv
        rw [own_TableEntry]
        conv => lhs; cbv
        try rfl
      · conv => lhs; cbv
        rw [rmovs_TableEntry]
        refine cO (fun hx45 => ?_) ?_
        · rw [hx45]; try rfl
        rintro x44 hx45
        rw [hx45]
        conv => lhs; cbv
        refine cD (fun hb46 => ?_) fun hb46 => ?_
        · rw [if_neg (fun x => Bool.noConfusion (hb46.symm.trans x.1))]; try rfl
        rw [if_pos ⟨hb46, trivial⟩]
        conv => lhs; cbv
        rw [rapp0_TableEntry, addn0_TableEntry]
        conv => lhs; cbv
        rw [if_pos (full_string _)]
        conv => lhs; cbv
        rw [own_string]
        conv => lhs; cbv
        rw [lit_TableEntry]
        refine cD (fun hb47 => ?_) fun hb47 => ?_
        · rw [if_neg (fun x => Bool.noConfusion (hb47.symm.trans x.2.1))]; try rfl
        rw [if_pos ⟨full_TableEntry _, hb47, trivial⟩]
        conv => lhs; cbv
        rw [rapp_TableEntry, addn_TableEntry]
        conv => lhs; cbv
        rw [rmovr_TableEntry _ _ _ _ _ _ hx45]
        refine cO (fun hx49 => ?_) ?_
        · rw [hx49]; try rfl
        rintro x48 hx49
        rw [hx49]
        conv => lhs; cbv
        refine cD (fun hb50 => ?_) fun hb50 => ?_
        · rw [if_neg (fun x => Bool.noConfusion (hb50.symm.trans x.2.1))]; try rfl
        rw [if_pos ⟨full_TableEntry _, hb50, trivial⟩]
        conv => lhs; cbv
        rw [rapp_TableEntry, addn_TableEntry]
        conv => lhs; cbv
        rw [frz_TableEntry]
        conv => lhs; cbv
        have hc := f_spec_ValidTable ((x44 ++ [(⟨r27, a2⟩ : DTableEntry)]) ++ x48)
        try dsimp only at hc
        rw [hc]
        clear hc
        refine cO (fun hx52 => ?_) ?_
        · rw [hx52]; try rfl
        rintro r51 hx52
        rw [hx52]
        conv => lhs; cbv
        refine cD (fun hb53 => ?_) fun hb53 => ?_
        · rw [hb53]
          conv => lhs; cbv
          rw [if_pos (full_TableEntry _)]
          conv => lhs; cbv
          rw [own_TableEntry]
          conv => lhs; cbv
          try rfl
        rw [hb53]
        conv => lhs; cbv
        rw [f_spec_l6Copy a0]
        rw [hx2]
        conv => lhs; cbv
        rw [if_pos (full_TableEntry _)]
        conv => lhs; cbv
        rw [own_TableEntry]
        conv => lhs; cbv
        try rfl
    · conv => lhs; cbv
      rw [rmovs_TableEntry]
      refine cO (fun hx56 => ?_) ?_
      · rw [hx56]; try rfl
      rintro x55 hx56
      rw [hx56]
      conv => lhs; cbv
      refine cD (fun hb57 => ?_) fun hb57 => ?_
      · rw [if_neg (fun x => Bool.noConfusion (hb57.symm.trans x.1))]; try rfl
      rw [if_pos ⟨hb57, trivial⟩]
      conv => lhs; cbv
      rw [rapp0_TableEntry, addn0_TableEntry]
      conv => lhs; cbv
      rw [if_pos (full_string _)]
      conv => lhs; cbv
      rw [own_string]
      conv => lhs; cbv
      rw [lit_TableEntry]
      refine cD (fun hb58 => ?_) fun hb58 => ?_
      · rw [if_neg (fun x => Bool.noConfusion (hb58.symm.trans x.2.1))]; try rfl
      rw [if_pos ⟨full_TableEntry _, hb58, trivial⟩]
      conv => lhs; cbv
      rw [rapp_TableEntry, addn_TableEntry]
      conv => lhs; cbv
      rw [rmovr_TableEntry _ _ _ _ _ _ hx56]
      refine cO (fun hx60 => ?_) ?_
      · rw [hx60]; try rfl
      rintro x59 hx60
      rw [hx60]
      conv => lhs; cbv
      refine cD (fun hb61 => ?_) fun hb61 => ?_
      · rw [if_neg (fun x => Bool.noConfusion (hb61.symm.trans x.2.1))]; try rfl
      rw [if_pos ⟨full_TableEntry _, hb61, trivial⟩]
      conv => lhs; cbv
      rw [rapp_TableEntry, addn_TableEntry]
      conv => lhs; cbv
      rw [frz_TableEntry]
      conv => lhs; cbv
      have hc := f_spec_ValidTable ((x55 ++ [(⟨r27, a2⟩ : DTableEntry)]) ++ x59)
      try dsimp only at hc
      rw [hc]
      clear hc
      refine cO (fun hx63 => ?_) ?_
      · rw [hx63]; try rfl
      rintro r62 hx63
      rw [hx63]
      conv => lhs; cbv
      refine cD (fun hb64 => ?_) fun hb64 => ?_
      · rw [hb64]
        conv => lhs; cbv
        rw [if_pos (full_TableEntry _)]
        conv => lhs; cbv
        rw [own_TableEntry]
        conv => lhs; cbv
        try rfl
      rw [hb64]
      conv => lhs; cbv
      rw [f_spec_l6Copy a0]
      rw [hx2]
      conv => lhs; cbv
      rw [if_pos (full_TableEntry _)]
      conv => lhs; cbv
      rw [own_TableEntry]
      conv => lhs; cbv
      try rfl
  conv => lhs; cbv
  rw [f_spec_l4Copy a1]
  refine cO (fun hx68 => ?_) ?_
  · rw [hx68]; try rfl
  rintro r67 hx68
  rw [hx68]
  conv => lhs; cbv
  refine cO (fun hx70 => ?_) ?_
  · rw [hx70]; try rfl
  rintro ⟨x69a, x69b⟩ hx70
  rw [hx70]
  conv => lhs; cbv
  refine cO (fun hx72 => ?_) ?_
  · rw [hx72]; try rfl
  rintro ⟨x71a, x71b⟩ hx72
  rw [hx72]
  conv => lhs; cbv
  refine cFk h_both ?_ ?_
  · conv => lhs; cbv
    refine cFk h_both ?_ ?_
    · conv => lhs; cbv
      rw [rmovs_TableEntry]
      refine cO (fun hx74 => ?_) ?_
      · rw [hx74]; try rfl
      rintro x73 hx74
      rw [hx74]
      conv => lhs; cbv
      refine cD (fun hb75 => ?_) fun hb75 => ?_
      · rw [if_neg (fun x => Bool.noConfusion (hb75.symm.trans x.1))]; try rfl
      rw [if_pos ⟨hb75, trivial⟩]
      conv => lhs; cbv
      rw [rapp0_TableEntry, addn0_TableEntry]
      conv => lhs; cbv
      rw [if_pos (full_string _)]
      conv => lhs; cbv
      rw [own_string]
      conv => lhs; cbv
      rw [lit_TableEntry]
      refine cD (fun hb76 => ?_) fun hb76 => ?_
      · rw [if_neg (fun x => Bool.noConfusion (hb76.symm.trans x.2.1))]; try rfl
      rw [if_pos ⟨full_TableEntry _, hb76, trivial⟩]
      conv => lhs; cbv
      rw [rapp_TableEntry, addn_TableEntry]
      conv => lhs; cbv
      rw [rmovr_TableEntry _ _ _ _ _ _ hx74]
      refine cO (fun hx78 => ?_) ?_
      · rw [hx78]; try rfl
      rintro x77 hx78
      rw [hx78]
      conv => lhs; cbv
      refine cD (fun hb79 => ?_) fun hb79 => ?_
      · rw [if_neg (fun x => Bool.noConfusion (hb79.symm.trans x.2.1))]; try rfl
      rw [if_pos ⟨full_TableEntry _, hb79, trivial⟩]
      conv => lhs; cbv
      rw [rapp_TableEntry, addn_TableEntry]
      conv => lhs; cbv
      rw [frz_TableEntry]
      conv => lhs; cbv
      have hc := f_spec_ValidTable ((x73 ++ [(⟨r67, a2⟩ : DTableEntry)]) ++ x77)
      try dsimp only at hc
      rw [hc]
      clear hc
      refine cO (fun hx81 => ?_) ?_
      · rw [hx81]; try rfl
      rintro r80 hx81
      rw [hx81]
      conv => lhs; cbv
      refine cD (fun hb82 => ?_) fun hb82 => ?_
      · rw [hb82]
        conv => lhs; cbv
        rw [if_pos (full_TableEntry _)]
        conv => lhs; cbv
        rw [own_TableEntry]
        conv => lhs; cbv
        try rfl
      rw [hb82]
      conv => lhs; cbv
      rw [f_spec_l6Copy a0]
      rw [hx2]
      conv => lhs; cbv
      rw [if_pos (full_TableEntry _)]
      conv => lhs; cbv
      rw [own_TableEntry]
      conv => lhs; cbv
      try rfl
    · conv => lhs; cbv
      rw [rmovs_TableEntry]
      refine cO (fun hx85 => ?_) ?_
      · rw [hx85]; try rfl
      rintro x84 hx85
      rw [hx85]
      conv => lhs; cbv
      refine cD (fun hb86 => ?_) fun hb86 => ?_
      · rw [if_neg (fun x => Bool.noConfusion (hb86.symm.trans x.1))]; try rfl
      rw [if_pos ⟨hb86, trivial⟩]
      conv => lhs; cbv
      rw [rapp0_TableEntry, addn0_TableEntry]
      conv => lhs; cbv
      rw [if_pos (full_string _)]
      conv => lhs; cbv
      rw [own_string]
      conv => lhs; cbv
      rw [lit_TableEntry]
      refine cD (fun hb87 => ?_) fun hb87 => ?_
      · rw [if_neg (fun x => Bool.noConfusion (hb87.symm.trans x.2.1))]; try rfl
      rw [if_pos ⟨full_TableEntry _, hb87, trivial⟩]
      conv => lhs; cbv
      rw [rapp_TableEntry, addn_TableEntry]
      conv => lhs; cbv
      rw [rmovr_TableEntry _ _ _ _ _ _ hx85]
      refine cO (fun hx89 => ?_) ?_
      · rw [hx89]; try rfl
      rintro x88 hx89
      rw [hx89]
      conv => lhs; cbv
      refine cD (fun hb90 => ?_) fun hb90 => ?_
      · rw [if_neg (fun x => Bool.noConfusion (hb90.symm.trans x.2.1))]; try rfl
      rw [if_pos ⟨full_TableEntry _, hb90, trivial⟩]
      conv => lhs; cbv
      rw [rapp_TableEntry, addn_TableEntry]
      conv => lhs; cbv
      rw [frz_TableEntry]
      conv => lhs; cbv
      have hc := f_spec_ValidTable ((x84 ++ [(⟨r67, a2⟩ : DTableEntry)]) ++ x88)
      try dsimp only at hc
      rw [hc]
      clear hc
      refine cO (fun hx92 => ?_) ?_
      · rw [hx92]; try rfl
      rintro r91 hx92
      rw [hx92]
      conv => lhs; cbv
      refine cD (fun hb93 => ?_) fun hb93 => ?_
      · rw [hb93]
        conv => lhs; cbv
        rw [if_pos (full_TableEntry _)]
        conv => lhs; cbv
        rw [own_TableEntry]
        conv => lhs; cbv
        try rfl
      rw [hb93]
      conv => lhs; cbv
      rw [f_spec_l6Copy a0]
      rw [hx2]
      conv => lhs; cbv
      rw [if_pos (full_TableEntry _)]
      conv => lhs; cbv
      rw [own_TableEntry]
      conv => lhs; cbv
      try rfl
  · conv => lhs; cbv
    rw [rmovs_TableEntry]
    refine cO (fun hx96 => ?_) ?_
    · rw [hx96]; try rfl
    rintro x95 hx96
    rw [hx96]
    conv => lhs; cbv
    refine cD (fun hb97 => ?_) fun hb97 => ?_
    · rw [if_neg (fun x => Bool.noConfusion (hb97.symm.trans x.1))]; try rfl
    rw [if_pos ⟨hb97, trivial⟩]
    conv => lhs; cbv
    rw [rapp0_TableEntry, addn0_TableEntry]
    conv => lhs; cbv
    rw [if_pos (full_string _)]
    conv => lhs; cbv
    rw [own_string]
    conv => lhs; cbv
    rw [lit_TableEntry]
    refine cD (fun hb98 => ?_) fun hb98 => ?_
    · rw [if_neg (fun x => Bool.noConfusion (hb98.symm.trans x.2.1))]; try rfl
    rw [if_pos ⟨full_TableEntry _, hb98, trivial⟩]
    conv => lhs; cbv
    rw [rapp_TableEntry, addn_TableEntry]
    conv => lhs; cbv
    rw [rmovr_TableEntry _ _ _ _ _ _ hx96]
    refine cO (fun hx100 => ?_) ?_
    · rw [hx100]; try rfl
    rintro x99 hx100
    rw [hx100]
    conv => lhs; cbv
    refine cD (fun hb101 => ?_) fun hb101 => ?_
    · rw [if_neg (fun x => Bool.noConfusion (hb101.symm.trans x.2.1))]; try rfl
    rw [if_pos ⟨full_TableEntry _, hb101, trivial⟩]
    conv => lhs; cbv
    rw [rapp_TableEntry, addn_TableEntry]
    conv => lhs; cbv
    rw [frz_TableEntry]
    conv => lhs; cbv
    have hc := f_spec_ValidTable ((x95 ++ [(⟨r67, a2⟩ : DTableEntry)]) ++ x99)
    try dsimp only at hc
    rw [hc]
    clear hc
    refine cO (fun hx103 => ?_) ?_
    · rw [hx103]; try rfl
    rintro r102 hx103
    rw [hx103]
    conv => lhs; cbv
    refine cD (fun hb104 => ?_) fun hb104 => ?_
    · rw [hb104]
      conv => lhs; cbv
      rw [if_pos (full_TableEntry _)]
      conv => lhs; cbv
      rw [own_TableEntry]
      conv => lhs; cbv
      try rfl
    rw [hb104]
    conv => lhs; cbv
    rw [f_spec_l6Copy a0]
    rw [hx2]
    conv => lhs; cbv
    rw [if_pos (full_TableEntry _)]
    conv => lhs; cbv
    rw [own_TableEntry]
    conv => lhs; cbv
    try rfl
end
end Go.Proofs.YteebeeoimghmhaaGreat
