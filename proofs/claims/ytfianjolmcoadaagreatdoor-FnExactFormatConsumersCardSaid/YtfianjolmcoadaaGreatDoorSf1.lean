/- The code computes these plain functions. Printed by genshal.py. -/
import Derived.Test.YtfianjolmcoadaaGreatDoorSd
namespace Go.Proofs.YtfianjolmcoadaaGreatDoor
open Go.RowKit
set_option linter.unusedVariables false
set_option linter.unusedSimpArgs false
set_option maxRecDepth 100000
noncomputable section

set_option maxHeartbeats 40000000 in
theorem e_s_laws_szLinkS (F : Fns) (a0 : (List DLink)) (a1 : Int) : EvF F Tryz.f120 (fun _ => []) [.v (.sl 242 2 (List.map eLink a0)), .v (.at (.int .i64 a1))] = (s_laws_szLinkS a0 a1).bind fun r => some [.v (.at (.int .i64 r))] := by
  unfold EvF
  obtain ⟨p, hp⟩ := gn prims
  obtain ⟨m_Link, hm_Link⟩ := gn (List.map eLink)
  rw [← hp, ← hm_Link]
  obtain ⟨p_arith, p_cmp, _, _, _, _, _, _, _, _, _, _, _, _, _, p_len, p_int, _⟩ := p
  generalize hal : (fun (F : St → (Ex → St → Option (List Arg)) → Option (List Arg)) lv => aloop F lv fuel) = al
  rw [s_laws_szLinkS, ← hp, ← hm_Link]
  dsimp only
  conv => lhs; cbv
  refine cC (fun hb1 => ?_) fun hb1 => ?_
  · rw [hb1]
    conv => lhs; cbv
    try rfl
  rw [hb1]
  conv => lhs; cbv
  try rfl
set_option maxHeartbeats 40000000 in
theorem e_s_laws_szTopology (F : Fns) (hF_s_laws_szLinkS : Has_s_laws_szLinkS F) (a0 : DTopology) (a1 : Int) : EvF F Tryz.f56 (fun _ => []) [.a [.at (.int .i64 a0.size), .sl 242 2 (List.map eLink a0.links)], .v (.at (.int .i64 a1))] = (s_laws_szTopology a0 a1).bind fun r => some [.v (.at (.int .i64 r))] := by
  unfold EvF
  obtain ⟨p, hp⟩ := gn prims
  obtain ⟨m_Link, hm_Link⟩ := gn (List.map eLink)
  rw [← hp, ← hm_Link]
  obtain ⟨_, p_cmp, _⟩ := p
  simp only [Has_s_laws_szLinkS, ← hm_Link] at hF_s_laws_szLinkS
  generalize hal : (fun (F : St → (Ex → St → Option (List Arg)) → Option (List Arg)) lv => aloop F lv fuel) = al
  rw [s_laws_szTopology, ← hp]
  dsimp only
  conv => lhs; cbv
  rw [hF_s_laws_szLinkS a0.links a1]
  refine cO (fun hx2 => ?_) ?_
  · rw [hx2]; try rfl
  rintro r1 hx2
  rw [hx2]
  conv => lhs; cbv
  refine cC (fun hb3 => ?_) fun hb3 => ?_
  · rw [hb3]
    conv => lhs; cbv
    try rfl
  rw [hb3]
  conv => lhs; cbv
  try rfl
set_option maxHeartbeats 40000000 in
theorem e_s_laws_szStringS (F : Fns) (a0 : (List ByteArray)) (a1 : Int) : EvF F Tryz.f88 (fun id => if id = 5 then [0, 1, 5] else []) [.v (.sl 9 1 (List.map eS a0)), .v (.at (.int .i64 a1))] = (s_laws_szStringS a0 a1).bind fun r => some [.v (.at (.int .i64 r))] := by
  unfold EvF
  obtain ⟨p, hp⟩ := gn prims
  obtain ⟨m_string, hm_string⟩ := gn (List.map eS)
  rw [← hp, ← hm_string]
  obtain ⟨p_arith, p_cmp, _, _, _, _, p_ssize, _, _, _, _, _, _, _, _, p_len, p_int, p_nth, _⟩ := p
  have nth_string := @nthF_string
  simp only [← hp, ← hm_string] at nth_string
  generalize hal : (fun (F : St → (Ex → St → Option (List Arg)) → Option (List Arg)) lv => aloop F lv fuel) = al
  rw [s_laws_szStringS, ← hp, ← hm_string]
  dsimp only
  conv => lhs; cbv
  refine cC (fun hb1 => ?_) fun hb1 => ?_
  · rw [hb1]
    conv => lhs; cbv
    try rfl
  rw [hb1]
  conv => lhs; cbv
  refine (loop_al hal (fun x => match x with | (v2, v3) => ⟨[.c (.rd true 9 1 (m_string a0)), .c (.at (.int .i64 v2)), dd, dd, dd, .c (.at (.int .i64 v3)), dd, dd, dd, dd, dd, dd, dd, dd, dd, dd, dd, dd, dd, dd, dd, dd, dd, dd, dd, dd, dd, dd], [], 1⟩) (s_laws_szStringS_l1 a0) (fun K g => match g with | .inl (v2, v3) => K (.exit 0) ⟨[.c (.rd true 9 1 (m_string a0)), .c (.at (.int .i64 v2)), dd, dd, dd, .c (.at (.int .i64 v3)), dd, dd, dd, dd, dd, dd, .c (.at (.int .i64 v3)), .c (.rd true 9 1 (m_string a0)), .c (.at (.int .i64 (p_int (p_len (m_string a0))))), .c (.at (.bool false)), dd, dd, dd, dd, dd, dd, dd, dd, dd, dd, dd, dd], [], 2⟩ | .inr (r) => some [.v (.at (.int .i64 r))]) ?_ (p_arith .sub .i64 a1 (p_int (p_len (m_string a0))), 0) _ (rfl)).trans (cL ?_)
  · rintro K1 hr1 ⟨v2, v3⟩ R1
    rw [s_laws_szStringS_l1, ← hp, ← hm_string]
    dsimp only
    conv => lhs; cbv
    refine cD (fun hb4 => ?_) fun hb4 => ?_
    · rw [hb4]
      conv => lhs; cbv
      try rfl
    rw [hb4]
    conv => lhs; cbv
    rw [nth_string]
    refine cO (fun hx6 => ?_) ?_
    · rw [hx6]; try rfl
    rintro x5 hx6
    rw [hx6]
    conv => lhs; cbv
    refine cD (fun hb7 => ?_) fun hb7 => ?_
    · rw [hb7]
      conv => lhs; cbv
      try rfl
    rw [hb7]
    conv => lhs; cbv
    rw [hr1]
    conv => lhs; cbv
    try rfl
  rintro (⟨w8, w9⟩ | w10)
  · conv => lhs; cbv
    try rfl
  rfl
set_option maxHeartbeats 40000000 in
theorem e_s_laws_szName (F : Fns) (hF_s_laws_szStringS : Has_s_laws_szStringS F) (a0 : (List ByteArray)) (a1 : Int) : EvF F Tryz.f31 (fun _ => []) [.a [.sl 9 1 (List.map eS a0)], .v (.at (.int .i64 a1))] = (s_laws_szName a0 a1).bind fun r => some [.v (.at (.int .i64 r))] := by
  unfold EvF
  obtain ⟨p, hp⟩ := gn prims
  obtain ⟨m_string, hm_string⟩ := gn (List.map eS)
  rw [← hp, ← hm_string]
  obtain ⟨_, p_cmp, _⟩ := p
  simp only [Has_s_laws_szStringS, ← hm_string] at hF_s_laws_szStringS
  generalize hal : (fun (F : St → (Ex → St → Option (List Arg)) → Option (List Arg)) lv => aloop F lv fuel) = al
  rw [s_laws_szName, ← hp]
  dsimp only
  conv => lhs; cbv
  rw [hF_s_laws_szStringS a0 a1]
  refine cO (fun hx2 => ?_) ?_
  · rw [hx2]; try rfl
  rintro r1 hx2
  rw [hx2]
  conv => lhs; cbv
  refine cC (fun hb3 => ?_) fun hb3 => ?_
  · rw [hb3]
    conv => lhs; cbv
    try rfl
  rw [hb3]
  conv => lhs; cbv
  try rfl
set_option maxHeartbeats 40000000 in
theorem e_s_laws_szKey (F : Fns) (hF_s_laws_szName : Has_s_laws_szName F) (a0 : DKey) (a1 : Int) : EvF F Tryz.f86 (fun _ => []) [.a [.sl 9 1 (List.map eS a0.name), .at (.int .i64 a0.secret)], .v (.at (.int .i64 a1))] = (s_laws_szKey a0 a1).bind fun r => some [.v (.at (.int .i64 r))] := by
  unfold EvF
  obtain ⟨p, hp⟩ := gn prims
  obtain ⟨m_string, hm_string⟩ := gn (List.map eS)
  rw [← hp, ← hm_string]
  obtain ⟨_, p_cmp, _⟩ := p
  simp only [Has_s_laws_szName, ← hm_string] at hF_s_laws_szName
  generalize hal : (fun (F : St → (Ex → St → Option (List Arg)) → Option (List Arg)) lv => aloop F lv fuel) = al
  rw [s_laws_szKey, ← hp]
  dsimp only
  conv => lhs; cbv
  rw [hF_s_laws_szName a0.name a1]
  refine cO (fun hx2 => ?_) ?_
  · rw [hx2]; try rfl
  rintro r1 hx2
  rw [hx2]
  conv => lhs; cbv
  refine cC (fun hb3 => ?_) fun hb3 => ?_
  · rw [hb3]
    conv => lhs; cbv
    try rfl
  rw [hb3]
  conv => lhs; cbv
  try rfl
set_option maxHeartbeats 40000000 in
theorem e_s_laws_szKeyS (F : Fns) (hF_s_laws_szKey : Has_s_laws_szKey F) (a0 : (List DKey)) (a1 : Int) : EvF F Tryz.f29 (fun id => if id = 5 then [0, 1, 5] else []) [.v (.sl 159 2 (List.map eKey a0)), .v (.at (.int .i64 a1))] = (s_laws_szKeyS a0 a1).bind fun r => some [.v (.at (.int .i64 r))] := by
  unfold EvF
  obtain ⟨p, hp⟩ := gn prims
  obtain ⟨m_Key, hm_Key⟩ := gn (List.map eKey)
  obtain ⟨m_string, hm_string⟩ := gn (List.map eS)
  rw [← hp, ← hm_Key]
  obtain ⟨p_arith, p_cmp, _, _, _, _, _, _, _, _, _, _, _, _, _, p_len, p_int, p_nth, _⟩ := p
  have nth_Key := @nthF_Key
  simp only [Has_s_laws_szKey, ← hp, ← hm_Key, ← hm_string] at nth_Key hF_s_laws_szKey
  generalize hal : (fun (F : St → (Ex → St → Option (List Arg)) → Option (List Arg)) lv => aloop F lv fuel) = al
  rw [s_laws_szKeyS, ← hp, ← hm_Key]
  dsimp only
  conv => lhs; cbv
  refine cC (fun hb1 => ?_) fun hb1 => ?_
  · rw [hb1]
    conv => lhs; cbv
    try rfl
  rw [hb1]
  conv => lhs; cbv
  refine (loop_al hal (fun x => match x with | (v2, v3) => ⟨[.c (.rd true 159 2 (m_Key a0)), .c (.at (.int .i64 v2)), dd, dd, dd, .c (.at (.int .i64 v3)), dd, dd, dd, dd, dd, dd, dd, dd, dd, dd, dd, dd, dd, dd, dd, dd, dd, dd, dd, dd, dd], [], 1⟩) (s_laws_szKeyS_l1 a0) (fun K g => match g with | .inl (v2, v3) => K (.exit 0) ⟨[.c (.rd true 159 2 (m_Key a0)), .c (.at (.int .i64 v2)), dd, dd, dd, .c (.at (.int .i64 v3)), dd, dd, dd, dd, dd, dd, .c (.at (.int .i64 v3)), .c (.rd true 159 2 (m_Key a0)), .c (.at (.int .i64 (p_int (p_len (m_Key a0))))), .c (.at (.bool false)), dd, dd, dd, dd, dd, dd, dd, dd, dd, dd, dd], [], 2⟩ | .inr (r) => some [.v (.at (.int .i64 r))]) ?_ (p_arith .sub .i64 a1 (p_int (p_len (m_Key a0))), 0) _ (rfl)).trans (cL ?_)
  · rintro K1 hr1 ⟨v2, v3⟩ R1
    rw [s_laws_szKeyS_l1, ← hp, ← hm_Key]
    dsimp only
    conv => lhs; cbv
    refine cD (fun hb4 => ?_) fun hb4 => ?_
    · rw [hb4]
      conv => lhs; cbv
      try rfl
    rw [hb4]
    conv => lhs; cbv
    rw [nth_Key]
    refine cO (fun hx6 => ?_) ?_
    · rw [hx6]; try rfl
    rintro x5 hx6
    rw [hx6]
    conv => lhs; cbv
    rw [hF_s_laws_szKey x5 v2]
    refine cO (fun hx8 => ?_) ?_
    · rw [hx8]; try rfl
    rintro r7 hx8
    rw [hx8]
    conv => lhs; cbv
    refine cD (fun hb9 => ?_) fun hb9 => ?_
    · rw [hb9]
      conv => lhs; cbv
      try rfl
    rw [hb9]
    conv => lhs; cbv
    rw [hr1]
    conv => lhs; cbv
    try rfl
  rintro (⟨w10, w11⟩ | w12)
  · conv => lhs; cbv
    try rfl
  rfl
set_option maxHeartbeats 40000000 in
theorem e_s_laws_szPattern (F : Fns) (hF_s_laws_szStringS : Has_s_laws_szStringS F) (a0 : (List ByteArray)) (a1 : Int) : EvF F Tryz.f201 (fun _ => []) [.a [.sl 9 1 (List.map eS a0)], .v (.at (.int .i64 a1))] = (s_laws_szPattern a0 a1).bind fun r => some [.v (.at (.int .i64 r))] := by
  unfold EvF
  obtain ⟨p, hp⟩ := gn prims
  obtain ⟨m_string, hm_string⟩ := gn (List.map eS)
  rw [← hp, ← hm_string]
  obtain ⟨_, p_cmp, _⟩ := p
  simp only [Has_s_laws_szStringS, ← hm_string] at hF_s_laws_szStringS
  generalize hal : (fun (F : St → (Ex → St → Option (List Arg)) → Option (List Arg)) lv => aloop F lv fuel) = al
  rw [s_laws_szPattern, ← hp]
  dsimp only
  conv => lhs; cbv
  rw [hF_s_laws_szStringS a0 a1]
  refine cO (fun hx2 => ?_) ?_
  · rw [hx2]; try rfl
  rintro r1 hx2
  rw [hx2]
  conv => lhs; cbv
  refine cC (fun hb3 => ?_) fun hb3 => ?_
  · rw [hb3]
    conv => lhs; cbv
    try rfl
  rw [hb3]
  conv => lhs; cbv
  try rfl
set_option maxHeartbeats 40000000 in
theorem e_s_laws_szRule (F : Fns) (hF_s_laws_szPattern : Has_s_laws_szPattern F) (a0 : DRule) (a1 : Int) : EvF F Tryz.f168 (fun _ => []) [.a [.sl 9 1 (List.map eS a0.dataPattern), .sl 9 1 (List.map eS a0.keyPattern)], .v (.at (.int .i64 a1))] = (s_laws_szRule a0 a1).bind fun r => some [.v (.at (.int .i64 r))] := by
  unfold EvF
  obtain ⟨p, hp⟩ := gn prims
  obtain ⟨m_string, hm_string⟩ := gn (List.map eS)
  rw [← hp, ← hm_string]
  obtain ⟨_, p_cmp, _⟩ := p
  simp only [Has_s_laws_szPattern, ← hm_string] at hF_s_laws_szPattern
  generalize hal : (fun (F : St → (Ex → St → Option (List Arg)) → Option (List Arg)) lv => aloop F lv fuel) = al
  rw [s_laws_szRule, ← hp]
  dsimp only
  conv => lhs; cbv
  rw [hF_s_laws_szPattern a0.dataPattern a1]
  refine cO (fun hx2 => ?_) ?_
  · rw [hx2]; try rfl
  rintro r1 hx2
  rw [hx2]
  conv => lhs; cbv
  refine cC (fun hb3 => ?_) fun hb3 => ?_
  · rw [hb3]
    conv => lhs; cbv
    try rfl
  rw [hb3]
  conv => lhs; cbv
  rw [hF_s_laws_szPattern a0.keyPattern r1]
  refine cO (fun hx5 => ?_) ?_
  · rw [hx5]; try rfl
  rintro r4 hx5
  rw [hx5]
  conv => lhs; cbv
  refine cC (fun hb6 => ?_) fun hb6 => ?_
  · rw [hb6]
    conv => lhs; cbv
    try rfl
  rw [hb6]
  conv => lhs; cbv
  try rfl
set_option maxHeartbeats 40000000 in
theorem e_s_laws_szRuleS (F : Fns) (hF_s_laws_szRule : Has_s_laws_szRule F) (a0 : (List DRule)) (a1 : Int) : EvF F Tryz.f121 (fun id => if id = 5 then [0, 1, 5] else []) [.v (.sl 247 2 (List.map eRule a0)), .v (.at (.int .i64 a1))] = (s_laws_szRuleS a0 a1).bind fun r => some [.v (.at (.int .i64 r))] := by
  unfold EvF
  obtain ⟨p, hp⟩ := gn prims
  obtain ⟨m_Rule, hm_Rule⟩ := gn (List.map eRule)
  obtain ⟨m_string, hm_string⟩ := gn (List.map eS)
  rw [← hp, ← hm_Rule]
  obtain ⟨p_arith, p_cmp, _, _, _, _, _, _, _, _, _, _, _, _, _, p_len, p_int, p_nth, _⟩ := p
  have nth_Rule := @nthF_Rule
  simp only [Has_s_laws_szRule, ← hp, ← hm_Rule, ← hm_string] at nth_Rule hF_s_laws_szRule
  generalize hal : (fun (F : St → (Ex → St → Option (List Arg)) → Option (List Arg)) lv => aloop F lv fuel) = al
  rw [s_laws_szRuleS, ← hp, ← hm_Rule]
  dsimp only
  conv => lhs; cbv
  refine cC (fun hb1 => ?_) fun hb1 => ?_
  · rw [hb1]
    conv => lhs; cbv
    try rfl
  rw [hb1]
  conv => lhs; cbv
  refine (loop_al hal (fun x => match x with | (v2, v3) => ⟨[.c (.rd true 247 2 (m_Rule a0)), .c (.at (.int .i64 v2)), dd, dd, dd, .c (.at (.int .i64 v3)), dd, dd, dd, dd, dd, dd, dd, dd, dd, dd, dd, dd, dd, dd, dd, dd, dd, dd, dd, dd, dd], [], 1⟩) (s_laws_szRuleS_l1 a0) (fun K g => match g with | .inl (v2, v3) => K (.exit 0) ⟨[.c (.rd true 247 2 (m_Rule a0)), .c (.at (.int .i64 v2)), dd, dd, dd, .c (.at (.int .i64 v3)), dd, dd, dd, dd, dd, dd, .c (.at (.int .i64 v3)), .c (.rd true 247 2 (m_Rule a0)), .c (.at (.int .i64 (p_int (p_len (m_Rule a0))))), .c (.at (.bool false)), dd, dd, dd, dd, dd, dd, dd, dd, dd, dd, dd], [], 2⟩ | .inr (r) => some [.v (.at (.int .i64 r))]) ?_ (p_arith .sub .i64 a1 (p_int (p_len (m_Rule a0))), 0) _ (rfl)).trans (cL ?_)
  · rintro K1 hr1 ⟨v2, v3⟩ R1
    rw [s_laws_szRuleS_l1, ← hp, ← hm_Rule]
    dsimp only
    conv => lhs; cbv
    refine cD (fun hb4 => ?_) fun hb4 => ?_
    · rw [hb4]
      conv => lhs; cbv
      try rfl
    rw [hb4]
    conv => lhs; cbv
    rw [nth_Rule]
    refine cO (fun hx6 => ?_) ?_
    · rw [hx6]; try rfl
    rintro x5 hx6
    rw [hx6]
    conv => lhs; cbv
    rw [hF_s_laws_szRule x5 v2]
    refine cO (fun hx8 => ?_) ?_
    · rw [hx8]; try rfl
    rintro r7 hx8
    rw [hx8]
    conv => lhs; cbv
    refine cD (fun hb9 => ?_) fun hb9 => ?_
    · rw [hb9]
      conv => lhs; cbv
      try rfl
    rw [hb9]
    conv => lhs; cbv
    rw [hr1]
    conv => lhs; cbv
    try rfl
  rintro (⟨w10, w11⟩ | w12)
  · conv => lhs; cbv
    try rfl
  rfl
set_option maxHeartbeats 40000000 in
theorem e_s_laws_szNameS (F : Fns) (hF_s_laws_szName : Has_s_laws_szName F) (a0 : (List (List ByteArray))) (a1 : Int) : EvF F Tryz.f122 (fun id => if id = 5 then [0, 1, 5] else []) [.v (.sl 41 1 (List.map eName a0)), .v (.at (.int .i64 a1))] = (s_laws_szNameS a0 a1).bind fun r => some [.v (.at (.int .i64 r))] := by
  unfold EvF
  obtain ⟨p, hp⟩ := gn prims
  obtain ⟨m_Name, hm_Name⟩ := gn (List.map eName)
  obtain ⟨m_string, hm_string⟩ := gn (List.map eS)
  rw [← hp, ← hm_Name]
  obtain ⟨p_arith, p_cmp, _, _, _, _, _, _, _, _, _, _, _, _, _, p_len, p_int, p_nth, _⟩ := p
  have nth_Name := @nthF_Name
  simp only [Has_s_laws_szName, ← hp, ← hm_Name, ← hm_string] at nth_Name hF_s_laws_szName
  generalize hal : (fun (F : St → (Ex → St → Option (List Arg)) → Option (List Arg)) lv => aloop F lv fuel) = al
  rw [s_laws_szNameS, ← hp, ← hm_Name]
  dsimp only
  conv => lhs; cbv
  refine cC (fun hb1 => ?_) fun hb1 => ?_
  · rw [hb1]
    conv => lhs; cbv
    try rfl
  rw [hb1]
  conv => lhs; cbv
  refine (loop_al hal (fun x => match x with | (v2, v3) => ⟨[.c (.rd true 41 1 (m_Name a0)), .c (.at (.int .i64 v2)), dd, dd, dd, .c (.at (.int .i64 v3)), dd, dd, dd, dd, dd, dd, dd, dd, dd, dd, dd, dd, dd, dd, dd, dd, dd, dd, dd, dd, dd], [], 1⟩) (s_laws_szNameS_l1 a0) (fun K g => match g with | .inl (v2, v3) => K (.exit 0) ⟨[.c (.rd true 41 1 (m_Name a0)), .c (.at (.int .i64 v2)), dd, dd, dd, .c (.at (.int .i64 v3)), dd, dd, dd, dd, dd, dd, .c (.at (.int .i64 v3)), .c (.rd true 41 1 (m_Name a0)), .c (.at (.int .i64 (p_int (p_len (m_Name a0))))), .c (.at (.bool false)), dd, dd, dd, dd, dd, dd, dd, dd, dd, dd, dd], [], 2⟩ | .inr (r) => some [.v (.at (.int .i64 r))]) ?_ (p_arith .sub .i64 a1 (p_int (p_len (m_Name a0))), 0) _ (rfl)).trans (cL ?_)
  · rintro K1 hr1 ⟨v2, v3⟩ R1
    rw [s_laws_szNameS_l1, ← hp, ← hm_Name]
    dsimp only
    conv => lhs; cbv
    refine cD (fun hb4 => ?_) fun hb4 => ?_
    · rw [hb4]
      conv => lhs; cbv
      try rfl
    rw [hb4]
    conv => lhs; cbv
    rw [nth_Name]
    refine cO (fun hx6 => ?_) ?_
    · rw [hx6]; try rfl
    rintro x5 hx6
    rw [hx6]
    conv => lhs; cbv
    rw [hF_s_laws_szName x5 v2]
    refine cO (fun hx8 => ?_) ?_
    · rw [hx8]; try rfl
    rintro r7 hx8
    rw [hx8]
    conv => lhs; cbv
    refine cD (fun hb9 => ?_) fun hb9 => ?_
    · rw [hb9]
      conv => lhs; cbv
      try rfl
    rw [hb9]
    conv => lhs; cbv
    rw [hr1]
    conv => lhs; cbv
    try rfl
  rintro (⟨w10, w11⟩ | w12)
  · conv => lhs; cbv
    try rfl
  rfl
set_option maxHeartbeats 40000000 in
theorem e_s_laws_szByteS (F : Fns) (a0 : (List UInt8)) (a1 : Int) : EvF F Tryz.f32 (fun _ => []) [.v (.sl 5 1 (List.map eY a0)), .v (.at (.int .i64 a1))] = (s_laws_szByteS a0 a1).bind fun r => some [.v (.at (.int .i64 r))] := by
  unfold EvF
  obtain ⟨p, hp⟩ := gn prims
  obtain ⟨m_byte, hm_byte⟩ := gn (List.map eY)
  rw [← hp, ← hm_byte]
  obtain ⟨p_arith, p_cmp, _, _, _, _, _, _, _, _, _, _, _, _, _, p_len, p_int, _⟩ := p
  generalize hal : (fun (F : St → (Ex → St → Option (List Arg)) → Option (List Arg)) lv => aloop F lv fuel) = al
  rw [s_laws_szByteS, ← hp, ← hm_byte]
  dsimp only
  conv => lhs; cbv
  refine cC (fun hb1 => ?_) fun hb1 => ?_
  · rw [hb1]
    conv => lhs; cbv
    try rfl
  rw [hb1]
  conv => lhs; cbv
  try rfl
set_option maxHeartbeats 40000000 in
theorem e_s_laws_szData (F : Fns) (hF_s_laws_szName : Has_s_laws_szName F) (hF_s_laws_szByteS : Has_s_laws_szByteS F) (a0 : DData) (a1 : Int) : EvF F Tryz.f8 (fun _ => []) [.a [.sl 9 1 (List.map eS a0.name), .sl 5 1 (List.map eY a0.content), .sl 9 1 (List.map eS a0.keyName), .at (.int .i64 a0.freshUntil), .at (.int .i64 a0.signature)], .v (.at (.int .i64 a1))] = (s_laws_szData a0 a1).bind fun r => some [.v (.at (.int .i64 r))] := by
  unfold EvF
  obtain ⟨p, hp⟩ := gn prims
  obtain ⟨m_byte, hm_byte⟩ := gn (List.map eY)
  obtain ⟨m_string, hm_string⟩ := gn (List.map eS)
  rw [← hp, ← hm_byte, ← hm_string]
  obtain ⟨_, p_cmp, _⟩ := p
  simp only [Has_s_laws_szName, Has_s_laws_szByteS, ← hm_string, ← hm_byte] at hF_s_laws_szName hF_s_laws_szByteS
  generalize hal : (fun (F : St → (Ex → St → Option (List Arg)) → Option (List Arg)) lv => aloop F lv fuel) = al
  rw [s_laws_szData, ← hp]
  dsimp only
  conv => lhs; cbv
  rw [hF_s_laws_szName a0.name a1]
  refine cO (fun hx2 => ?_) ?_
  · rw [hx2]; try rfl
  rintro r1 hx2
  rw [hx2]
  conv => lhs; cbv
  refine cC (fun hb3 => ?_) fun hb3 => ?_
  · rw [hb3]
    conv => lhs; cbv
    try rfl
  rw [hb3]
  conv => lhs; cbv
  rw [hF_s_laws_szByteS a0.content r1]
  refine cO (fun hx5 => ?_) ?_
  · rw [hx5]; try rfl
  rintro r4 hx5
  rw [hx5]
  conv => lhs; cbv
  refine cC (fun hb6 => ?_) fun hb6 => ?_
  · rw [hb6]
    conv => lhs; cbv
    try rfl
  rw [hb6]
  conv => lhs; cbv
  rw [hF_s_laws_szName a0.keyName r4]
  refine cO (fun hx8 => ?_) ?_
  · rw [hx8]; try rfl
  rintro r7 hx8
  rw [hx8]
  conv => lhs; cbv
  refine cC (fun hb9 => ?_) fun hb9 => ?_
  · rw [hb9]
    conv => lhs; cbv
    try rfl
  rw [hb9]
  conv => lhs; cbv
  try rfl
set_option maxHeartbeats 40000000 in
theorem e_s_laws_szDataS (F : Fns) (hF_s_laws_szData : Has_s_laws_szData F) (a0 : (List DData)) (a1 : Int) : EvF F Tryz.f123 (fun id => if id = 5 then [0, 1, 5] else []) [.v (.sl 43 5 (List.map eData a0)), .v (.at (.int .i64 a1))] = (s_laws_szDataS a0 a1).bind fun r => some [.v (.at (.int .i64 r))] := by
  unfold EvF
  obtain ⟨p, hp⟩ := gn prims
  obtain ⟨m_Data, hm_Data⟩ := gn (List.map eData)
  obtain ⟨m_byte, hm_byte⟩ := gn (List.map eY)
  obtain ⟨m_string, hm_string⟩ := gn (List.map eS)
  rw [← hp, ← hm_Data]
  obtain ⟨p_arith, p_cmp, _, _, _, _, _, _, _, _, _, _, _, _, _, p_len, p_int, p_nth, _⟩ := p
  have nth_Data := @nthF_Data
  simp only [Has_s_laws_szData, ← hp, ← hm_Data, ← hm_byte, ← hm_string] at nth_Data hF_s_laws_szData
  generalize hal : (fun (F : St → (Ex → St → Option (List Arg)) → Option (List Arg)) lv => aloop F lv fuel) = al
  rw [s_laws_szDataS, ← hp, ← hm_Data]
  dsimp only
  conv => lhs; cbv
  refine cC (fun hb1 => ?_) fun hb1 => ?_
  · rw [hb1]
    conv => lhs; cbv
    try rfl
  rw [hb1]
  conv => lhs; cbv
  refine (loop_al hal (fun x => match x with | (v2, v3) => ⟨[.c (.rd true 43 5 (m_Data a0)), .c (.at (.int .i64 v2)), dd, dd, dd, .c (.at (.int .i64 v3)), dd, dd, dd, dd, dd, dd, dd, dd, dd, dd, dd, dd, dd, dd, dd, dd, dd, dd, dd, dd, dd], [], 1⟩) (s_laws_szDataS_l1 a0) (fun K g => match g with | .inl (v2, v3) => K (.exit 0) ⟨[.c (.rd true 43 5 (m_Data a0)), .c (.at (.int .i64 v2)), dd, dd, dd, .c (.at (.int .i64 v3)), dd, dd, dd, dd, dd, dd, .c (.at (.int .i64 v3)), .c (.rd true 43 5 (m_Data a0)), .c (.at (.int .i64 (p_int (p_len (m_Data a0))))), .c (.at (.bool false)), dd, dd, dd, dd, dd, dd, dd, dd, dd, dd, dd], [], 2⟩ | .inr (r) => some [.v (.at (.int .i64 r))]) ?_ (p_arith .sub .i64 a1 (p_int (p_len (m_Data a0))), 0) _ (rfl)).trans (cL ?_)
  · rintro K1 hr1 ⟨v2, v3⟩ R1
    rw [s_laws_szDataS_l1, ← hp, ← hm_Data]
    dsimp only
    conv => lhs; cbv
    refine cD (fun hb4 => ?_) fun hb4 => ?_
    · rw [hb4]
      conv => lhs; cbv
      try rfl
    rw [hb4]
    conv => lhs; cbv
    rw [nth_Data]
    refine cO (fun hx6 => ?_) ?_
    · rw [hx6]; try rfl
    rintro x5 hx6
    rw [hx6]
    conv => lhs; cbv
    rw [hF_s_laws_szData x5 v2]
    refine cO (fun hx8 => ?_) ?_
    · rw [hx8]; try rfl
    rintro r7 hx8
    rw [hx8]
    conv => lhs; cbv
    refine cD (fun hb9 => ?_) fun hb9 => ?_
    · rw [hb9]
      conv => lhs; cbv
      try rfl
    rw [hb9]
    conv => lhs; cbv
    rw [hr1]
    conv => lhs; cbv
    try rfl
  rintro (⟨w10, w11⟩ | w12)
  · conv => lhs; cbv
    try rfl
  rfl
set_option maxHeartbeats 40000000 in
theorem e_s_laws_szTrustPolicy (F : Fns) (hF_s_laws_szKeyS : Has_s_laws_szKeyS F) (hF_s_laws_szRuleS : Has_s_laws_szRuleS F) (hF_s_laws_szNameS : Has_s_laws_szNameS F) (hF_s_laws_szDataS : Has_s_laws_szDataS F) (a0 : DTrustPolicy) (a1 : Int) : EvF F Tryz.f57 (fun _ => []) [.a [.sl 159 2 (List.map eKey a0.keys), .sl 247 2 (List.map eRule a0.rules), .sl 41 1 (List.map eName a0.anchors), .sl 43 5 (List.map eData a0.certificates)], .v (.at (.int .i64 a1))] = (s_laws_szTrustPolicy a0 a1).bind fun r => some [.v (.at (.int .i64 r))] := by
  unfold EvF
  obtain ⟨p, hp⟩ := gn prims
  obtain ⟨m_Data, hm_Data⟩ := gn (List.map eData)
  obtain ⟨m_Key, hm_Key⟩ := gn (List.map eKey)
  obtain ⟨m_Name, hm_Name⟩ := gn (List.map eName)
  obtain ⟨m_Rule, hm_Rule⟩ := gn (List.map eRule)
  rw [← hp, ← hm_Data, ← hm_Key, ← hm_Name, ← hm_Rule]
  obtain ⟨_, p_cmp, _⟩ := p
  simp only [Has_s_laws_szKeyS, Has_s_laws_szRuleS, Has_s_laws_szNameS, Has_s_laws_szDataS, ← hm_Key, ← hm_Rule, ← hm_Name, ← hm_Data] at hF_s_laws_szKeyS hF_s_laws_szRuleS hF_s_laws_szNameS hF_s_laws_szDataS
  generalize hal : (fun (F : St → (Ex → St → Option (List Arg)) → Option (List Arg)) lv => aloop F lv fuel) = al
  rw [s_laws_szTrustPolicy, ← hp]
  dsimp only
  conv => lhs; cbv
  rw [hF_s_laws_szKeyS a0.keys a1]
  refine cO (fun hx2 => ?_) ?_
  · rw [hx2]; try rfl
  rintro r1 hx2
  rw [hx2]
  conv => lhs; cbv
  refine cC (fun hb3 => ?_) fun hb3 => ?_
  · rw [hb3]
    conv => lhs; cbv
    try rfl
  rw [hb3]
  conv => lhs; cbv
  rw [hF_s_laws_szRuleS a0.rules r1]
  refine cO (fun hx5 => ?_) ?_
  · rw [hx5]; try rfl
  rintro r4 hx5
  rw [hx5]
  conv => lhs; cbv
  refine cC (fun hb6 => ?_) fun hb6 => ?_
  · rw [hb6]
    conv => lhs; cbv
    try rfl
  rw [hb6]
  conv => lhs; cbv
  rw [hF_s_laws_szNameS a0.anchors r4]
  refine cO (fun hx8 => ?_) ?_
  · rw [hx8]; try rfl
  rintro r7 hx8
  rw [hx8]
  conv => lhs; cbv
  refine cC (fun hb9 => ?_) fun hb9 => ?_
  · rw [hb9]
    conv => lhs; cbv
    try rfl
  rw [hb9]
  conv => lhs; cbv
  rw [hF_s_laws_szDataS a0.certificates r7]
  refine cO (fun hx11 => ?_) ?_
  · rw [hx11]; try rfl
  rintro r10 hx11
  rw [hx11]
  conv => lhs; cbv
  refine cC (fun hb12 => ?_) fun hb12 => ?_
  · rw [hb12]
    conv => lhs; cbv
    try rfl
  rw [hb12]
  conv => lhs; cbv
  try rfl
set_option maxHeartbeats 40000000 in
theorem e_s_laws_szTableEntry (F : Fns) (hF_s_laws_szName : Has_s_laws_szName F) (a0 : DTableEntry) (a1 : Int) : EvF F Tryz.f124 (fun _ => []) [.a [.sl 9 1 (List.map eS a0.name), .at (.int .i64 a0.value)], .v (.at (.int .i64 a1))] = (s_laws_szTableEntry a0 a1).bind fun r => some [.v (.at (.int .i64 r))] := by
  unfold EvF
  obtain ⟨p, hp⟩ := gn prims
  obtain ⟨m_string, hm_string⟩ := gn (List.map eS)
  rw [← hp, ← hm_string]
  obtain ⟨_, p_cmp, _⟩ := p
  simp only [Has_s_laws_szName, ← hm_string] at hF_s_laws_szName
  generalize hal : (fun (F : St → (Ex → St → Option (List Arg)) → Option (List Arg)) lv => aloop F lv fuel) = al
  rw [s_laws_szTableEntry, ← hp]
  dsimp only
  conv => lhs; cbv
  rw [hF_s_laws_szName a0.name a1]
  refine cO (fun hx2 => ?_) ?_
  · rw [hx2]; try rfl
  rintro r1 hx2
  rw [hx2]
  conv => lhs; cbv
  refine cC (fun hb3 => ?_) fun hb3 => ?_
  · rw [hb3]
    conv => lhs; cbv
    try rfl
  rw [hb3]
  conv => lhs; cbv
  try rfl
set_option maxHeartbeats 40000000 in
theorem e_s_laws_szTableEntryS (F : Fns) (hF_s_laws_szTableEntry : Has_s_laws_szTableEntry F) (a0 : (List DTableEntry)) (a1 : Int) : EvF F Tryz.f58 (fun id => if id = 5 then [0, 1, 5] else []) [.v (.sl 198 2 (List.map eTableEntry a0)), .v (.at (.int .i64 a1))] = (s_laws_szTableEntryS a0 a1).bind fun r => some [.v (.at (.int .i64 r))] := by
  unfold EvF
  obtain ⟨p, hp⟩ := gn prims
  obtain ⟨m_TableEntry, hm_TableEntry⟩ := gn (List.map eTableEntry)
  obtain ⟨m_string, hm_string⟩ := gn (List.map eS)
  rw [← hp, ← hm_TableEntry]
  obtain ⟨p_arith, p_cmp, _, _, _, _, _, _, _, _, _, _, _, _, _, p_len, p_int, p_nth, _⟩ := p
  have nth_TableEntry := @nthF_TableEntry
  simp only [Has_s_laws_szTableEntry, ← hp, ← hm_TableEntry, ← hm_string] at nth_TableEntry hF_s_laws_szTableEntry
  generalize hal : (fun (F : St → (Ex → St → Option (List Arg)) → Option (List Arg)) lv => aloop F lv fuel) = al
  rw [s_laws_szTableEntryS, ← hp, ← hm_TableEntry]
  dsimp only
  conv => lhs; cbv
  refine cC (fun hb1 => ?_) fun hb1 => ?_
  · rw [hb1]
    conv => lhs; cbv
    try rfl
  rw [hb1]
  conv => lhs; cbv
  refine (loop_al hal (fun x => match x with | (v2, v3) => ⟨[.c (.rd true 198 2 (m_TableEntry a0)), .c (.at (.int .i64 v2)), dd, dd, dd, .c (.at (.int .i64 v3)), dd, dd, dd, dd, dd, dd, dd, dd, dd, dd, dd, dd, dd, dd, dd, dd, dd, dd, dd, dd, dd], [], 1⟩) (s_laws_szTableEntryS_l1 a0) (fun K g => match g with | .inl (v2, v3) => K (.exit 0) ⟨[.c (.rd true 198 2 (m_TableEntry a0)), .c (.at (.int .i64 v2)), dd, dd, dd, .c (.at (.int .i64 v3)), dd, dd, dd, dd, dd, dd, .c (.at (.int .i64 v3)), .c (.rd true 198 2 (m_TableEntry a0)), .c (.at (.int .i64 (p_int (p_len (m_TableEntry a0))))), .c (.at (.bool false)), dd, dd, dd, dd, dd, dd, dd, dd, dd, dd, dd], [], 2⟩ | .inr (r) => some [.v (.at (.int .i64 r))]) ?_ (p_arith .sub .i64 a1 (p_int (p_len (m_TableEntry a0))), 0) _ (rfl)).trans (cL ?_)
  · rintro K1 hr1 ⟨v2, v3⟩ R1
    rw [s_laws_szTableEntryS_l1, ← hp, ← hm_TableEntry]
    dsimp only
    conv => lhs; cbv
    refine cD (fun hb4 => ?_) fun hb4 => ?_
    · rw [hb4]
      conv => lhs; cbv
      try rfl
    rw [hb4]
    conv => lhs; cbv
    rw [nth_TableEntry]
    refine cO (fun hx6 => ?_) ?_
    · rw [hx6]; try rfl
    rintro x5 hx6
    rw [hx6]
    conv => lhs; cbv
    rw [hF_s_laws_szTableEntry x5 v2]
    refine cO (fun hx8 => ?_) ?_
    · rw [hx8]; try rfl
    rintro r7 hx8
    rw [hx8]
    conv => lhs; cbv
    refine cD (fun hb9 => ?_) fun hb9 => ?_
    · rw [hb9]
      conv => lhs; cbv
      try rfl
    rw [hb9]
    conv => lhs; cbv
    rw [hr1]
    conv => lhs; cbv
    try rfl
  rintro (⟨w10, w11⟩ | w12)
  · conv => lhs; cbv
    try rfl
  rfl
set_option maxHeartbeats 40000000 in
theorem e_s_laws_szCacheEntry (F : Fns) (hF_s_laws_szData : Has_s_laws_szData F) (a0 : DCacheEntry) (a1 : Int) : EvF F Tryz.f227 (fun _ => []) [.a [.sl 9 1 (List.map eS a0.data.name), .sl 5 1 (List.map eY a0.data.content), .sl 9 1 (List.map eS a0.data.keyName), .at (.int .i64 a0.data.freshUntil), .at (.int .i64 a0.data.signature), .at (.int .i64 a0.lastUsed)], .v (.at (.int .i64 a1))] = (s_laws_szCacheEntry a0 a1).bind fun r => some [.v (.at (.int .i64 r))] := by
  unfold EvF
  obtain ⟨p, hp⟩ := gn prims
  obtain ⟨m_byte, hm_byte⟩ := gn (List.map eY)
  obtain ⟨m_string, hm_string⟩ := gn (List.map eS)
  rw [← hp, ← hm_byte, ← hm_string]
  obtain ⟨_, p_cmp, _⟩ := p
  simp only [Has_s_laws_szData, ← hm_byte, ← hm_string] at hF_s_laws_szData
  generalize hal : (fun (F : St → (Ex → St → Option (List Arg)) → Option (List Arg)) lv => aloop F lv fuel) = al
  rw [s_laws_szCacheEntry, ← hp]
  dsimp only
  conv => lhs; cbv
  rw [hF_s_laws_szData a0.data a1]
  refine cO (fun hx2 => ?_) ?_
  · rw [hx2]; try rfl
  rintro r1 hx2
  rw [hx2]
  conv => lhs; cbv
  refine cC (fun hb3 => ?_) fun hb3 => ?_
  · rw [hb3]
    conv => lhs; cbv
    try rfl
  rw [hb3]
  conv => lhs; cbv
  try rfl
set_option maxHeartbeats 40000000 in
theorem e_s_laws_szCacheEntryS (F : Fns) (hF_s_laws_szCacheEntry : Has_s_laws_szCacheEntry F) (a0 : (List DCacheEntry)) (a1 : Int) : EvF F Tryz.f202 (fun id => if id = 5 then [0, 1, 5] else []) [.v (.sl 327 6 (List.map eCacheEntry a0)), .v (.at (.int .i64 a1))] = (s_laws_szCacheEntryS a0 a1).bind fun r => some [.v (.at (.int .i64 r))] := by
  unfold EvF
  obtain ⟨p, hp⟩ := gn prims
  obtain ⟨m_CacheEntry, hm_CacheEntry⟩ := gn (List.map eCacheEntry)
  obtain ⟨m_byte, hm_byte⟩ := gn (List.map eY)
  obtain ⟨m_string, hm_string⟩ := gn (List.map eS)
  rw [← hp, ← hm_CacheEntry]
  obtain ⟨p_arith, p_cmp, _, _, _, _, _, _, _, _, _, _, _, _, _, p_len, p_int, p_nth, _⟩ := p
  have nth_CacheEntry := @nthF_CacheEntry
  simp only [Has_s_laws_szCacheEntry, ← hp, ← hm_CacheEntry, ← hm_byte, ← hm_string] at nth_CacheEntry hF_s_laws_szCacheEntry
  generalize hal : (fun (F : St → (Ex → St → Option (List Arg)) → Option (List Arg)) lv => aloop F lv fuel) = al
  rw [s_laws_szCacheEntryS, ← hp, ← hm_CacheEntry]
  dsimp only
  conv => lhs; cbv
  refine cC (fun hb1 => ?_) fun hb1 => ?_
  · rw [hb1]
    conv => lhs; cbv
    try rfl
  rw [hb1]
  conv => lhs; cbv
  refine (loop_al hal (fun x => match x with | (v2, v3) => ⟨[.c (.rd true 327 6 (m_CacheEntry a0)), .c (.at (.int .i64 v2)), dd, dd, dd, .c (.at (.int .i64 v3)), dd, dd, dd, dd, dd, dd, dd, dd, dd, dd, dd, dd, dd, dd, dd, dd, dd, dd, dd, dd, dd], [], 1⟩) (s_laws_szCacheEntryS_l1 a0) (fun K g => match g with | .inl (v2, v3) => K (.exit 0) ⟨[.c (.rd true 327 6 (m_CacheEntry a0)), .c (.at (.int .i64 v2)), dd, dd, dd, .c (.at (.int .i64 v3)), dd, dd, dd, dd, dd, dd, .c (.at (.int .i64 v3)), .c (.rd true 327 6 (m_CacheEntry a0)), .c (.at (.int .i64 (p_int (p_len (m_CacheEntry a0))))), .c (.at (.bool false)), dd, dd, dd, dd, dd, dd, dd, dd, dd, dd, dd], [], 2⟩ | .inr (r) => some [.v (.at (.int .i64 r))]) ?_ (p_arith .sub .i64 a1 (p_int (p_len (m_CacheEntry a0))), 0) _ (rfl)).trans (cL ?_)
  · rintro K1 hr1 ⟨v2, v3⟩ R1
    rw [s_laws_szCacheEntryS_l1, ← hp, ← hm_CacheEntry]
    dsimp only
    conv => lhs; cbv
    refine cD (fun hb4 => ?_) fun hb4 => ?_
    · rw [hb4]
      conv => lhs; cbv
      try rfl
    rw [hb4]
    conv => lhs; cbv
    rw [nth_CacheEntry]
    refine cO (fun hx6 => ?_) ?_
    · rw [hx6]; try rfl
    rintro x5 hx6
    rw [hx6]
    conv => lhs; cbv
    rw [hF_s_laws_szCacheEntry x5 v2]
    refine cO (fun hx8 => ?_) ?_
    · rw [hx8]; try rfl
    rintro r7 hx8
    rw [hx8]
    conv => lhs; cbv
    refine cD (fun hb9 => ?_) fun hb9 => ?_
    · rw [hb9]
      conv => lhs; cbv
      try rfl
    rw [hb9]
    conv => lhs; cbv
    rw [hr1]
    conv => lhs; cbv
    try rfl
  rintro (⟨w10, w11⟩ | w12)
  · conv => lhs; cbv
    try rfl
  rfl
set_option maxHeartbeats 40000000 in
theorem e_s_laws_szContentStore (F : Fns) (hF_s_laws_szCacheEntryS : Has_s_laws_szCacheEntryS F) (a0 : DContentStore) (a1 : Int) : EvF F Tryz.f169 (fun _ => []) [.a [.at (.int .i64 a0.capacity), .sl 327 6 (List.map eCacheEntry a0.entries)], .v (.at (.int .i64 a1))] = (s_laws_szContentStore a0 a1).bind fun r => some [.v (.at (.int .i64 r))] := by
  unfold EvF
  obtain ⟨p, hp⟩ := gn prims
  obtain ⟨m_CacheEntry, hm_CacheEntry⟩ := gn (List.map eCacheEntry)
  rw [← hp, ← hm_CacheEntry]
  obtain ⟨_, p_cmp, _⟩ := p
  simp only [Has_s_laws_szCacheEntryS, ← hm_CacheEntry] at hF_s_laws_szCacheEntryS
  generalize hal : (fun (F : St → (Ex → St → Option (List Arg)) → Option (List Arg)) lv => aloop F lv fuel) = al
  rw [s_laws_szContentStore, ← hp]
  dsimp only
  conv => lhs; cbv
  rw [hF_s_laws_szCacheEntryS a0.entries a1]
  refine cO (fun hx2 => ?_) ?_
  · rw [hx2]; try rfl
  rintro r1 hx2
  rw [hx2]
  conv => lhs; cbv
  refine cC (fun hb3 => ?_) fun hb3 => ?_
  · rw [hb3]
    conv => lhs; cbv
    try rfl
  rw [hb3]
  conv => lhs; cbv
  try rfl
set_option maxHeartbeats 40000000 in
theorem e_s_laws_szRequesterS (F : Fns) (a0 : (List DRequester)) (a1 : Int) : EvF F Tryz.f228 (fun _ => []) [.v (.sl 344 3 (List.map eRequester a0)), .v (.at (.int .i64 a1))] = (s_laws_szRequesterS a0 a1).bind fun r => some [.v (.at (.int .i64 r))] := by
  unfold EvF
  obtain ⟨p, hp⟩ := gn prims
  obtain ⟨m_Requester, hm_Requester⟩ := gn (List.map eRequester)
  rw [← hp, ← hm_Requester]
  obtain ⟨p_arith, p_cmp, _, _, _, _, _, _, _, _, _, _, _, _, _, p_len, p_int, _⟩ := p
  generalize hal : (fun (F : St → (Ex → St → Option (List Arg)) → Option (List Arg)) lv => aloop F lv fuel) = al
  rw [s_laws_szRequesterS, ← hp, ← hm_Requester]
  dsimp only
  conv => lhs; cbv
  refine cC (fun hb1 => ?_) fun hb1 => ?_
  · rw [hb1]
    conv => lhs; cbv
    try rfl
  rw [hb1]
  conv => lhs; cbv
  try rfl
set_option maxHeartbeats 40000000 in
theorem e_s_laws_szPendingInterest (F : Fns) (hF_s_laws_szName : Has_s_laws_szName F) (hF_s_laws_szRequesterS : Has_s_laws_szRequesterS F) (a0 : DPendingInterest) (a1 : Int) : EvF F Tryz.f203 (fun _ => []) [.a [.sl 9 1 (List.map eS a0.name), .sl 344 3 (List.map eRequester a0.requesters), .at (.int .i64 a0.lastSent)], .v (.at (.int .i64 a1))] = (s_laws_szPendingInterest a0 a1).bind fun r => some [.v (.at (.int .i64 r))] := by
  unfold EvF
  obtain ⟨p, hp⟩ := gn prims
  obtain ⟨m_Requester, hm_Requester⟩ := gn (List.map eRequester)
  obtain ⟨m_string, hm_string⟩ := gn (List.map eS)
  rw [← hp, ← hm_Requester, ← hm_string]
  obtain ⟨_, p_cmp, _⟩ := p
  simp only [Has_s_laws_szName, Has_s_laws_szRequesterS, ← hm_string, ← hm_Requester] at hF_s_laws_szName hF_s_laws_szRequesterS
  generalize hal : (fun (F : St → (Ex → St → Option (List Arg)) → Option (List Arg)) lv => aloop F lv fuel) = al
  rw [s_laws_szPendingInterest, ← hp]
  dsimp only
  conv => lhs; cbv
  rw [hF_s_laws_szName a0.name a1]
  refine cO (fun hx2 => ?_) ?_
  · rw [hx2]; try rfl
  rintro r1 hx2
  rw [hx2]
  conv => lhs; cbv
  refine cC (fun hb3 => ?_) fun hb3 => ?_
  · rw [hb3]
    conv => lhs; cbv
    try rfl
  rw [hb3]
  conv => lhs; cbv
  rw [hF_s_laws_szRequesterS a0.requesters r1]
  refine cO (fun hx5 => ?_) ?_
  · rw [hx5]; try rfl
  rintro r4 hx5
  rw [hx5]
  conv => lhs; cbv
  refine cC (fun hb6 => ?_) fun hb6 => ?_
  · rw [hb6]
    conv => lhs; cbv
    try rfl
  rw [hb6]
  conv => lhs; cbv
  try rfl
set_option maxHeartbeats 40000000 in
theorem e_s_laws_szPendingInterestS (F : Fns) (hF_s_laws_szPendingInterest : Has_s_laws_szPendingInterest F) (a0 : (List DPendingInterest)) (a1 : Int) : EvF F Tryz.f170 (fun id => if id = 5 then [0, 1, 5] else []) [.v (.sl 297 3 (List.map ePendingInterest a0)), .v (.at (.int .i64 a1))] = (s_laws_szPendingInterestS a0 a1).bind fun r => some [.v (.at (.int .i64 r))] := by
  unfold EvF
  obtain ⟨p, hp⟩ := gn prims
  obtain ⟨m_PendingInterest, hm_PendingInterest⟩ := gn (List.map ePendingInterest)
  obtain ⟨m_Requester, hm_Requester⟩ := gn (List.map eRequester)
  obtain ⟨m_string, hm_string⟩ := gn (List.map eS)
  rw [← hp, ← hm_PendingInterest]
  obtain ⟨p_arith, p_cmp, _, _, _, _, _, _, _, _, _, _, _, _, _, p_len, p_int, p_nth, _⟩ := p
  have nth_PendingInterest := @nthF_PendingInterest
  simp only [Has_s_laws_szPendingInterest, ← hp, ← hm_PendingInterest, ← hm_Requester, ← hm_string] at nth_PendingInterest hF_s_laws_szPendingInterest
  generalize hal : (fun (F : St → (Ex → St → Option (List Arg)) → Option (List Arg)) lv => aloop F lv fuel) = al
  rw [s_laws_szPendingInterestS, ← hp, ← hm_PendingInterest]
  dsimp only
  conv => lhs; cbv
  refine cC (fun hb1 => ?_) fun hb1 => ?_
  · rw [hb1]
    conv => lhs; cbv
    try rfl
  rw [hb1]
  conv => lhs; cbv
  refine (loop_al hal (fun x => match x with | (v2, v3) => ⟨[.c (.rd true 297 3 (m_PendingInterest a0)), .c (.at (.int .i64 v2)), dd, dd, dd, .c (.at (.int .i64 v3)), dd, dd, dd, dd, dd, dd, dd, dd, dd, dd, dd, dd, dd, dd, dd, dd, dd, dd, dd, dd, dd], [], 1⟩) (s_laws_szPendingInterestS_l1 a0) (fun K g => match g with | .inl (v2, v3) => K (.exit 0) ⟨[.c (.rd true 297 3 (m_PendingInterest a0)), .c (.at (.int .i64 v2)), dd, dd, dd, .c (.at (.int .i64 v3)), dd, dd, dd, dd, dd, dd, .c (.at (.int .i64 v3)), .c (.rd true 297 3 (m_PendingInterest a0)), .c (.at (.int .i64 (p_int (p_len (m_PendingInterest a0))))), .c (.at (.bool false)), dd, dd, dd, dd, dd, dd, dd, dd, dd, dd, dd], [], 2⟩ | .inr (r) => some [.v (.at (.int .i64 r))]) ?_ (p_arith .sub .i64 a1 (p_int (p_len (m_PendingInterest a0))), 0) _ (rfl)).trans (cL ?_)
  · rintro K1 hr1 ⟨v2, v3⟩ R1
    rw [s_laws_szPendingInterestS_l1, ← hp, ← hm_PendingInterest]
    dsimp only
    conv => lhs; cbv
    refine cD (fun hb4 => ?_) fun hb4 => ?_
    · rw [hb4]
      conv => lhs; cbv
      try rfl
    rw [hb4]
    conv => lhs; cbv
    rw [nth_PendingInterest]
    refine cO (fun hx6 => ?_) ?_
    · rw [hx6]; try rfl
    rintro x5 hx6
    rw [hx6]
    conv => lhs; cbv
    rw [hF_s_laws_szPendingInterest x5 v2]
    refine cO (fun hx8 => ?_) ?_
    · rw [hx8]; try rfl
    rintro r7 hx8
    rw [hx8]
    conv => lhs; cbv
    refine cD (fun hb9 => ?_) fun hb9 => ?_
    · rw [hb9]
      conv => lhs; cbv
      try rfl
    rw [hb9]
    conv => lhs; cbv
    rw [hr1]
    conv => lhs; cbv
    try rfl
  rintro (⟨w10, w11⟩ | w12)
  · conv => lhs; cbv
    try rfl
  rfl
set_option maxHeartbeats 40000000 in
theorem e_s_laws_szSeenNonce (F : Fns) (hF_s_laws_szName : Has_s_laws_szName F) (a0 : DSeenNonce) (a1 : Int) : EvF F Tryz.f204 (fun _ => []) [.a [.sl 9 1 (List.map eS a0.name), .at (.int .i64 a0.nonce)], .v (.at (.int .i64 a1))] = (s_laws_szSeenNonce a0 a1).bind fun r => some [.v (.at (.int .i64 r))] := by
  unfold EvF
  obtain ⟨p, hp⟩ := gn prims
  obtain ⟨m_string, hm_string⟩ := gn (List.map eS)
  rw [← hp, ← hm_string]
  obtain ⟨_, p_cmp, _⟩ := p
  simp only [Has_s_laws_szName, ← hm_string] at hF_s_laws_szName
  generalize hal : (fun (F : St → (Ex → St → Option (List Arg)) → Option (List Arg)) lv => aloop F lv fuel) = al
  rw [s_laws_szSeenNonce, ← hp]
  dsimp only
  conv => lhs; cbv
  rw [hF_s_laws_szName a0.name a1]
  refine cO (fun hx2 => ?_) ?_
  · rw [hx2]; try rfl
  rintro r1 hx2
  rw [hx2]
  conv => lhs; cbv
  refine cC (fun hb3 => ?_) fun hb3 => ?_
  · rw [hb3]
    conv => lhs; cbv
    try rfl
  rw [hb3]
  conv => lhs; cbv
  try rfl
set_option maxHeartbeats 40000000 in
theorem e_s_laws_szSeenNonceS (F : Fns) (hF_s_laws_szSeenNonce : Has_s_laws_szSeenNonce F) (a0 : (List DSeenNonce)) (a1 : Int) : EvF F Tryz.f171 (fun id => if id = 5 then [0, 1, 5] else []) [.v (.sl 300 2 (List.map eSeenNonce a0)), .v (.at (.int .i64 a1))] = (s_laws_szSeenNonceS a0 a1).bind fun r => some [.v (.at (.int .i64 r))] := by
  unfold EvF
  obtain ⟨p, hp⟩ := gn prims
  obtain ⟨m_SeenNonce, hm_SeenNonce⟩ := gn (List.map eSeenNonce)
  obtain ⟨m_string, hm_string⟩ := gn (List.map eS)
  rw [← hp, ← hm_SeenNonce]
  obtain ⟨p_arith, p_cmp, _, _, _, _, _, _, _, _, _, _, _, _, _, p_len, p_int, p_nth, _⟩ := p
  have nth_SeenNonce := @nthF_SeenNonce
  simp only [Has_s_laws_szSeenNonce, ← hp, ← hm_SeenNonce, ← hm_string] at nth_SeenNonce hF_s_laws_szSeenNonce
  generalize hal : (fun (F : St → (Ex → St → Option (List Arg)) → Option (List Arg)) lv => aloop F lv fuel) = al
  rw [s_laws_szSeenNonceS, ← hp, ← hm_SeenNonce]
  dsimp only
  conv => lhs; cbv
  refine cC (fun hb1 => ?_) fun hb1 => ?_
  · rw [hb1]
    conv => lhs; cbv
    try rfl
  rw [hb1]
  conv => lhs; cbv
  refine (loop_al hal (fun x => match x with | (v2, v3) => ⟨[.c (.rd true 300 2 (m_SeenNonce a0)), .c (.at (.int .i64 v2)), dd, dd, dd, .c (.at (.int .i64 v3)), dd, dd, dd, dd, dd, dd, dd, dd, dd, dd, dd, dd, dd, dd, dd, dd, dd, dd, dd, dd, dd], [], 1⟩) (s_laws_szSeenNonceS_l1 a0) (fun K g => match g with | .inl (v2, v3) => K (.exit 0) ⟨[.c (.rd true 300 2 (m_SeenNonce a0)), .c (.at (.int .i64 v2)), dd, dd, dd, .c (.at (.int .i64 v3)), dd, dd, dd, dd, dd, dd, .c (.at (.int .i64 v3)), .c (.rd true 300 2 (m_SeenNonce a0)), .c (.at (.int .i64 (p_int (p_len (m_SeenNonce a0))))), .c (.at (.bool false)), dd, dd, dd, dd, dd, dd, dd, dd, dd, dd, dd], [], 2⟩ | .inr (r) => some [.v (.at (.int .i64 r))]) ?_ (p_arith .sub .i64 a1 (p_int (p_len (m_SeenNonce a0))), 0) _ (rfl)).trans (cL ?_)
  · rintro K1 hr1 ⟨v2, v3⟩ R1
    rw [s_laws_szSeenNonceS_l1, ← hp, ← hm_SeenNonce]
    dsimp only
    conv => lhs; cbv
    refine cD (fun hb4 => ?_) fun hb4 => ?_
    · rw [hb4]
      conv => lhs; cbv
      try rfl
    rw [hb4]
    conv => lhs; cbv
    rw [nth_SeenNonce]
    refine cO (fun hx6 => ?_) ?_
    · rw [hx6]; try rfl
    rintro x5 hx6
    rw [hx6]
    conv => lhs; cbv
    rw [hF_s_laws_szSeenNonce x5 v2]
    refine cO (fun hx8 => ?_) ?_
    · rw [hx8]; try rfl
    rintro r7 hx8
    rw [hx8]
    conv => lhs; cbv
    refine cD (fun hb9 => ?_) fun hb9 => ?_
    · rw [hb9]
      conv => lhs; cbv
      try rfl
    rw [hb9]
    conv => lhs; cbv
    rw [hr1]
    conv => lhs; cbv
    try rfl
  rintro (⟨w10, w11⟩ | w12)
  · conv => lhs; cbv
    try rfl
  rfl
set_option maxHeartbeats 40000000 in
theorem e_s_laws_szRoute (F : Fns) (hF_s_laws_szName : Has_s_laws_szName F) (a0 : DRoute) (a1 : Int) : EvF F Tryz.f205 (fun _ => []) [.a [.sl 9 1 (List.map eS a0.pfx), .at (.int .i64 a0.face), .at (.int .i64 a0.cost)], .v (.at (.int .i64 a1))] = (s_laws_szRoute a0 a1).bind fun r => some [.v (.at (.int .i64 r))] := by
  unfold EvF
  obtain ⟨p, hp⟩ := gn prims
  obtain ⟨m_string, hm_string⟩ := gn (List.map eS)
  rw [← hp, ← hm_string]
  obtain ⟨_, p_cmp, _⟩ := p
  simp only [Has_s_laws_szName, ← hm_string] at hF_s_laws_szName
  generalize hal : (fun (F : St → (Ex → St → Option (List Arg)) → Option (List Arg)) lv => aloop F lv fuel) = al
  rw [s_laws_szRoute, ← hp]
  dsimp only
  conv => lhs; cbv
  rw [hF_s_laws_szName a0.pfx a1]
  refine cO (fun hx2 => ?_) ?_
  · rw [hx2]; try rfl
  rintro r1 hx2
  rw [hx2]
  conv => lhs; cbv
  refine cC (fun hb3 => ?_) fun hb3 => ?_
  · rw [hb3]
    conv => lhs; cbv
    try rfl
  rw [hb3]
  conv => lhs; cbv
  try rfl
set_option maxHeartbeats 40000000 in
theorem e_s_laws_szRouteS (F : Fns) (hF_s_laws_szRoute : Has_s_laws_szRoute F) (a0 : (List DRoute)) (a1 : Int) : EvF F Tryz.f172 (fun id => if id = 5 then [0, 1, 5] else []) [.v (.sl 303 3 (List.map eRoute a0)), .v (.at (.int .i64 a1))] = (s_laws_szRouteS a0 a1).bind fun r => some [.v (.at (.int .i64 r))] := by
  unfold EvF
  obtain ⟨p, hp⟩ := gn prims
  obtain ⟨m_Route, hm_Route⟩ := gn (List.map eRoute)
  obtain ⟨m_string, hm_string⟩ := gn (List.map eS)
  rw [← hp, ← hm_Route]
  obtain ⟨p_arith, p_cmp, _, _, _, _, _, _, _, _, _, _, _, _, _, p_len, p_int, p_nth, _⟩ := p
  have nth_Route := @nthF_Route
  simp only [Has_s_laws_szRoute, ← hp, ← hm_Route, ← hm_string] at nth_Route hF_s_laws_szRoute
  generalize hal : (fun (F : St → (Ex → St → Option (List Arg)) → Option (List Arg)) lv => aloop F lv fuel) = al
  rw [s_laws_szRouteS, ← hp, ← hm_Route]
  dsimp only
  conv => lhs; cbv
  refine cC (fun hb1 => ?_) fun hb1 => ?_
  · rw [hb1]
    conv => lhs; cbv
    try rfl
  rw [hb1]
  conv => lhs; cbv
  refine (loop_al hal (fun x => match x with | (v2, v3) => ⟨[.c (.rd true 303 3 (m_Route a0)), .c (.at (.int .i64 v2)), dd, dd, dd, .c (.at (.int .i64 v3)), dd, dd, dd, dd, dd, dd, dd, dd, dd, dd, dd, dd, dd, dd, dd, dd, dd, dd, dd, dd, dd], [], 1⟩) (s_laws_szRouteS_l1 a0) (fun K g => match g with | .inl (v2, v3) => K (.exit 0) ⟨[.c (.rd true 303 3 (m_Route a0)), .c (.at (.int .i64 v2)), dd, dd, dd, .c (.at (.int .i64 v3)), dd, dd, dd, dd, dd, dd, .c (.at (.int .i64 v3)), .c (.rd true 303 3 (m_Route a0)), .c (.at (.int .i64 (p_int (p_len (m_Route a0))))), .c (.at (.bool false)), dd, dd, dd, dd, dd, dd, dd, dd, dd, dd, dd], [], 2⟩ | .inr (r) => some [.v (.at (.int .i64 r))]) ?_ (p_arith .sub .i64 a1 (p_int (p_len (m_Route a0))), 0) _ (rfl)).trans (cL ?_)
  · rintro K1 hr1 ⟨v2, v3⟩ R1
    rw [s_laws_szRouteS_l1, ← hp, ← hm_Route]
    dsimp only
    conv => lhs; cbv
    refine cD (fun hb4 => ?_) fun hb4 => ?_
    · rw [hb4]
      conv => lhs; cbv
      try rfl
    rw [hb4]
    conv => lhs; cbv
    rw [nth_Route]
    refine cO (fun hx6 => ?_) ?_
    · rw [hx6]; try rfl
    rintro x5 hx6
    rw [hx6]
    conv => lhs; cbv
    rw [hF_s_laws_szRoute x5 v2]
    refine cO (fun hx8 => ?_) ?_
    · rw [hx8]; try rfl
    rintro r7 hx8
    rw [hx8]
    conv => lhs; cbv
    refine cD (fun hb9 => ?_) fun hb9 => ?_
    · rw [hb9]
      conv => lhs; cbv
      try rfl
    rw [hb9]
    conv => lhs; cbv
    rw [hr1]
    conv => lhs; cbv
    try rfl
  rintro (⟨w10, w11⟩ | w12)
  · conv => lhs; cbv
    try rfl
  rfl
set_option maxHeartbeats 40000000 in
theorem e_s_laws_szMeasurement (F : Fns) (hF_s_laws_szName : Has_s_laws_szName F) (a0 : DMeasurement) (a1 : Int) : EvF F Tryz.f206 (fun _ => []) [.a [.sl 9 1 (List.map eS a0.pfx), .at (.int .i64 a0.face), .at (.int .i64 a0.failures)], .v (.at (.int .i64 a1))] = (s_laws_szMeasurement a0 a1).bind fun r => some [.v (.at (.int .i64 r))] := by
  unfold EvF
  obtain ⟨p, hp⟩ := gn prims
  obtain ⟨m_string, hm_string⟩ := gn (List.map eS)
  rw [← hp, ← hm_string]
  obtain ⟨_, p_cmp, _⟩ := p
  simp only [Has_s_laws_szName, ← hm_string] at hF_s_laws_szName
  generalize hal : (fun (F : St → (Ex → St → Option (List Arg)) → Option (List Arg)) lv => aloop F lv fuel) = al
  rw [s_laws_szMeasurement, ← hp]
  dsimp only
  conv => lhs; cbv
  rw [hF_s_laws_szName a0.pfx a1]
  refine cO (fun hx2 => ?_) ?_
  · rw [hx2]; try rfl
  rintro r1 hx2
  rw [hx2]
  conv => lhs; cbv
  refine cC (fun hb3 => ?_) fun hb3 => ?_
  · rw [hb3]
    conv => lhs; cbv
    try rfl
  rw [hb3]
  conv => lhs; cbv
  try rfl
set_option maxHeartbeats 40000000 in
theorem e_s_laws_szMeasurementS (F : Fns) (hF_s_laws_szMeasurement : Has_s_laws_szMeasurement F) (a0 : (List DMeasurement)) (a1 : Int) : EvF F Tryz.f173 (fun id => if id = 5 then [0, 1, 5] else []) [.v (.sl 306 3 (List.map eMeasurement a0)), .v (.at (.int .i64 a1))] = (s_laws_szMeasurementS a0 a1).bind fun r => some [.v (.at (.int .i64 r))] := by
  unfold EvF
  obtain ⟨p, hp⟩ := gn prims
  obtain ⟨m_Measurement, hm_Measurement⟩ := gn (List.map eMeasurement)
  obtain ⟨m_string, hm_string⟩ := gn (List.map eS)
  rw [← hp, ← hm_Measurement]
  obtain ⟨p_arith, p_cmp, _, _, _, _, _, _, _, _, _, _, _, _, _, p_len, p_int, p_nth, _⟩ := p
  have nth_Measurement := @nthF_Measurement
  simp only [Has_s_laws_szMeasurement, ← hp, ← hm_Measurement, ← hm_string] at nth_Measurement hF_s_laws_szMeasurement
  generalize hal : (fun (F : St → (Ex → St → Option (List Arg)) → Option (List Arg)) lv => aloop F lv fuel) = al
  rw [s_laws_szMeasurementS, ← hp, ← hm_Measurement]
  dsimp only
  conv => lhs; cbv
  refine cC (fun hb1 => ?_) fun hb1 => ?_
  · rw [hb1]
    conv => lhs; cbv
    try rfl
  rw [hb1]
  conv => lhs; cbv
  refine (loop_al hal (fun x => match x with | (v2, v3) => ⟨[.c (.rd true 306 3 (m_Measurement a0)), .c (.at (.int .i64 v2)), dd, dd, dd, .c (.at (.int .i64 v3)), dd, dd, dd, dd, dd, dd, dd, dd, dd, dd, dd, dd, dd, dd, dd, dd, dd, dd, dd, dd, dd], [], 1⟩) (s_laws_szMeasurementS_l1 a0) (fun K g => match g with | .inl (v2, v3) => K (.exit 0) ⟨[.c (.rd true 306 3 (m_Measurement a0)), .c (.at (.int .i64 v2)), dd, dd, dd, .c (.at (.int .i64 v3)), dd, dd, dd, dd, dd, dd, .c (.at (.int .i64 v3)), .c (.rd true 306 3 (m_Measurement a0)), .c (.at (.int .i64 (p_int (p_len (m_Measurement a0))))), .c (.at (.bool false)), dd, dd, dd, dd, dd, dd, dd, dd, dd, dd, dd], [], 2⟩ | .inr (r) => some [.v (.at (.int .i64 r))]) ?_ (p_arith .sub .i64 a1 (p_int (p_len (m_Measurement a0))), 0) _ (rfl)).trans (cL ?_)
  · rintro K1 hr1 ⟨v2, v3⟩ R1
    rw [s_laws_szMeasurementS_l1, ← hp, ← hm_Measurement]
    dsimp only
    conv => lhs; cbv
    refine cD (fun hb4 => ?_) fun hb4 => ?_
    · rw [hb4]
      conv => lhs; cbv
      try rfl
    rw [hb4]
    conv => lhs; cbv
    rw [nth_Measurement]
    refine cO (fun hx6 => ?_) ?_
    · rw [hx6]; try rfl
    rintro x5 hx6
    rw [hx6]
    conv => lhs; cbv
    rw [hF_s_laws_szMeasurement x5 v2]
    refine cO (fun hx8 => ?_) ?_
    · rw [hx8]; try rfl
    rintro r7 hx8
    rw [hx8]
    conv => lhs; cbv
    refine cD (fun hb9 => ?_) fun hb9 => ?_
    · rw [hb9]
      conv => lhs; cbv
      try rfl
    rw [hb9]
    conv => lhs; cbv
    rw [hr1]
    conv => lhs; cbv
    try rfl
  rintro (⟨w10, w11⟩ | w12)
  · conv => lhs; cbv
    try rfl
  rfl
set_option maxHeartbeats 40000000 in
theorem e_s_laws_szNode (F : Fns) (hF_s_laws_szDataS : Has_s_laws_szDataS F) (hF_s_laws_szContentStore : Has_s_laws_szContentStore F) (hF_s_laws_szPendingInterestS : Has_s_laws_szPendingInterestS F) (hF_s_laws_szSeenNonceS : Has_s_laws_szSeenNonceS F) (hF_s_laws_szRouteS : Has_s_laws_szRouteS F) (hF_s_laws_szMeasurementS : Has_s_laws_szMeasurementS F) (a0 : DNode) (a1 : Int) : EvF F Tryz.f125 (fun _ => []) [.a [.sl 43 5 (List.map eData a0.locals), .at (.int .i64 a0.cache.capacity), .sl 327 6 (List.map eCacheEntry a0.cache.entries), .sl 297 3 (List.map ePendingInterest a0.pending), .sl 300 2 (List.map eSeenNonce a0.seen), .sl 303 3 (List.map eRoute a0.routes), .sl 306 3 (List.map eMeasurement a0.measurements), .at (.int .i64 a0.dropped)], .v (.at (.int .i64 a1))] = (s_laws_szNode a0 a1).bind fun r => some [.v (.at (.int .i64 r))] := by
  unfold EvF
  obtain ⟨p, hp⟩ := gn prims
  obtain ⟨m_CacheEntry, hm_CacheEntry⟩ := gn (List.map eCacheEntry)
  obtain ⟨m_Data, hm_Data⟩ := gn (List.map eData)
  obtain ⟨m_Measurement, hm_Measurement⟩ := gn (List.map eMeasurement)
  obtain ⟨m_PendingInterest, hm_PendingInterest⟩ := gn (List.map ePendingInterest)
  obtain ⟨m_Route, hm_Route⟩ := gn (List.map eRoute)
  obtain ⟨m_SeenNonce, hm_SeenNonce⟩ := gn (List.map eSeenNonce)
  rw [← hp, ← hm_CacheEntry, ← hm_Data, ← hm_Measurement, ← hm_PendingInterest, ← hm_Route, ← hm_SeenNonce]
  obtain ⟨_, p_cmp, _⟩ := p
  simp only [Has_s_laws_szDataS, Has_s_laws_szContentStore, Has_s_laws_szPendingInterestS, Has_s_laws_szSeenNonceS, Has_s_laws_szRouteS, Has_s_laws_szMeasurementS, ← hm_Data, ← hm_CacheEntry, ← hm_PendingInterest, ← hm_SeenNonce, ← hm_Route, ← hm_Measurement] at hF_s_laws_szDataS hF_s_laws_szContentStore hF_s_laws_szPendingInterestS hF_s_laws_szSeenNonceS hF_s_laws_szRouteS hF_s_laws_szMeasurementS
  generalize hal : (fun (F : St → (Ex → St → Option (List Arg)) → Option (List Arg)) lv => aloop F lv fuel) = al
  rw [s_laws_szNode, ← hp]
  dsimp only
  conv => lhs; cbv
  rw [hF_s_laws_szDataS a0.locals a1]
  refine cO (fun hx2 => ?_) ?_
  · rw [hx2]; try rfl
  rintro r1 hx2
  rw [hx2]
  conv => lhs; cbv
  refine cC (fun hb3 => ?_) fun hb3 => ?_
  · rw [hb3]
    conv => lhs; cbv
    try rfl
  rw [hb3]
  conv => lhs; cbv
  rw [hF_s_laws_szContentStore a0.cache r1]
  refine cO (fun hx5 => ?_) ?_
  · rw [hx5]; try rfl
  rintro r4 hx5
  rw [hx5]
  conv => lhs; cbv
  refine cC (fun hb6 => ?_) fun hb6 => ?_
  · rw [hb6]
    conv => lhs; cbv
    try rfl
  rw [hb6]
  conv => lhs; cbv
  rw [hF_s_laws_szPendingInterestS a0.pending r4]
  refine cO (fun hx8 => ?_) ?_
  · rw [hx8]; try rfl
  rintro r7 hx8
  rw [hx8]
  conv => lhs; cbv
  refine cC (fun hb9 => ?_) fun hb9 => ?_
  · rw [hb9]
    conv => lhs; cbv
    try rfl
  rw [hb9]
  conv => lhs; cbv
  rw [hF_s_laws_szSeenNonceS a0.seen r7]
  refine cO (fun hx11 => ?_) ?_
  · rw [hx11]; try rfl
  rintro r10 hx11
  rw [hx11]
  conv => lhs; cbv
  refine cC (fun hb12 => ?_) fun hb12 => ?_
  · rw [hb12]
    conv => lhs; cbv
    try rfl
  rw [hb12]
  conv => lhs; cbv
  rw [hF_s_laws_szRouteS a0.routes r10]
  refine cO (fun hx14 => ?_) ?_
  · rw [hx14]; try rfl
  rintro r13 hx14
  rw [hx14]
  conv => lhs; cbv
  refine cC (fun hb15 => ?_) fun hb15 => ?_
  · rw [hb15]
    conv => lhs; cbv
    try rfl
  rw [hb15]
  conv => lhs; cbv
  rw [hF_s_laws_szMeasurementS a0.measurements r13]
  refine cO (fun hx17 => ?_) ?_
  · rw [hx17]; try rfl
  rintro r16 hx17
  rw [hx17]
  conv => lhs; cbv
  refine cC (fun hb18 => ?_) fun hb18 => ?_
  · rw [hb18]
    conv => lhs; cbv
    try rfl
  rw [hb18]
  conv => lhs; cbv
  try rfl
set_option maxHeartbeats 40000000 in
theorem e_s_laws_szNodeS (F : Fns) (hF_s_laws_szNode : Has_s_laws_szNode F) (a0 : (List DNode)) (a1 : Int) : EvF F Tryz.f59 (fun id => if id = 5 then [0, 1, 5] else []) [.v (.sl 208 8 (List.map eNode a0)), .v (.at (.int .i64 a1))] = (s_laws_szNodeS a0 a1).bind fun r => some [.v (.at (.int .i64 r))] := by
  unfold EvF
  obtain ⟨p, hp⟩ := gn prims
  obtain ⟨m_CacheEntry, hm_CacheEntry⟩ := gn (List.map eCacheEntry)
  obtain ⟨m_Data, hm_Data⟩ := gn (List.map eData)
  obtain ⟨m_Measurement, hm_Measurement⟩ := gn (List.map eMeasurement)
  obtain ⟨m_Node, hm_Node⟩ := gn (List.map eNode)
  obtain ⟨m_PendingInterest, hm_PendingInterest⟩ := gn (List.map ePendingInterest)
  obtain ⟨m_Route, hm_Route⟩ := gn (List.map eRoute)
  obtain ⟨m_SeenNonce, hm_SeenNonce⟩ := gn (List.map eSeenNonce)
  rw [← hp, ← hm_Node]
  obtain ⟨p_arith, p_cmp, _, _, _, _, _, _, _, _, _, _, _, _, _, p_len, p_int, p_nth, _⟩ := p
  have nth_Node := @nthF_Node
  simp only [Has_s_laws_szNode, ← hp, ← hm_CacheEntry, ← hm_Data, ← hm_Measurement, ← hm_Node, ← hm_PendingInterest, ← hm_Route, ← hm_SeenNonce] at nth_Node hF_s_laws_szNode
  generalize hal : (fun (F : St → (Ex → St → Option (List Arg)) → Option (List Arg)) lv => aloop F lv fuel) = al
  rw [s_laws_szNodeS, ← hp, ← hm_Node]
  dsimp only
  conv => lhs; cbv
  refine cC (fun hb1 => ?_) fun hb1 => ?_
  · rw [hb1]
    conv => lhs; cbv
    try rfl
  rw [hb1]
  conv => lhs; cbv
  refine (loop_al hal (fun x => match x with | (v2, v3) => ⟨[.c (.rd true 208 8 (m_Node a0)), .c (.at (.int .i64 v2)), dd, dd, dd, .c (.at (.int .i64 v3)), dd, dd, dd, dd, dd, dd, dd, dd, dd, dd, dd, dd, dd, dd, dd, dd, dd, dd, dd, dd, dd], [], 1⟩) (s_laws_szNodeS_l1 a0) (fun K g => match g with | .inl (v2, v3) => K (.exit 0) ⟨[.c (.rd true 208 8 (m_Node a0)), .c (.at (.int .i64 v2)), dd, dd, dd, .c (.at (.int .i64 v3)), dd, dd, dd, dd, dd, dd, .c (.at (.int .i64 v3)), .c (.rd true 208 8 (m_Node a0)), .c (.at (.int .i64 (p_int (p_len (m_Node a0))))), .c (.at (.bool false)), dd, dd, dd, dd, dd, dd, dd, dd, dd, dd, dd], [], 2⟩ | .inr (r) => some [.v (.at (.int .i64 r))]) ?_ (p_arith .sub .i64 a1 (p_int (p_len (m_Node a0))), 0) _ (rfl)).trans (cL ?_)
  · rintro K1 hr1 ⟨v2, v3⟩ R1
    rw [s_laws_szNodeS_l1, ← hp, ← hm_Node]
    dsimp only
    conv => lhs; cbv
    refine cD (fun hb4 => ?_) fun hb4 => ?_
    · rw [hb4]
      conv => lhs; cbv
      try rfl
    rw [hb4]
    conv => lhs; cbv
    rw [nth_Node]
    refine cO (fun hx6 => ?_) ?_
    · rw [hx6]; try rfl
    rintro x5 hx6
    rw [hx6]
    conv => lhs; cbv
    rw [hF_s_laws_szNode x5 v2]
    refine cO (fun hx8 => ?_) ?_
    · rw [hx8]; try rfl
    rintro r7 hx8
    rw [hx8]
    conv => lhs; cbv
    refine cD (fun hb9 => ?_) fun hb9 => ?_
    · rw [hb9]
      conv => lhs; cbv
      try rfl
    rw [hb9]
    conv => lhs; cbv
    rw [hr1]
    conv => lhs; cbv
    try rfl
  rintro (⟨w10, w11⟩ | w12)
  · conv => lhs; cbv
    try rfl
  rfl
set_option maxHeartbeats 40000000 in
theorem e_s_laws_szIntS (F : Fns) (a0 : (List Int)) (a1 : Int) : EvF F Tryz.f60 (fun _ => []) [.v (.sl 3 1 (List.map eI a0)), .v (.at (.int .i64 a1))] = (s_laws_szIntS a0 a1).bind fun r => some [.v (.at (.int .i64 r))] := by
  unfold EvF
  obtain ⟨p, hp⟩ := gn prims
  obtain ⟨m_int, hm_int⟩ := gn (List.map eI)
  rw [← hp, ← hm_int]
  obtain ⟨p_arith, p_cmp, _, _, _, _, _, _, _, _, _, _, _, _, _, p_len, p_int, _⟩ := p
  generalize hal : (fun (F : St → (Ex → St → Option (List Arg)) → Option (List Arg)) lv => aloop F lv fuel) = al
  rw [s_laws_szIntS, ← hp, ← hm_int]
  dsimp only
  conv => lhs; cbv
  refine cC (fun hb1 => ?_) fun hb1 => ?_
  · rw [hb1]
    conv => lhs; cbv
    try rfl
  rw [hb1]
  conv => lhs; cbv
  try rfl
set_option maxHeartbeats 40000000 in
theorem e_s_laws_szInterest (F : Fns) (hF_s_laws_szName : Has_s_laws_szName F) (a0 : DInterest) (a1 : Int) : EvF F Tryz.f174 (fun _ => []) [.a [.sl 9 1 (List.map eS a0.name), .at (.int .i64 a0.nonce), .at (.int .i64 a0.hopLimit), .at (.int .i64 a0.lifetime)], .v (.at (.int .i64 a1))] = (s_laws_szInterest a0 a1).bind fun r => some [.v (.at (.int .i64 r))] := by
  unfold EvF
  obtain ⟨p, hp⟩ := gn prims
  obtain ⟨m_string, hm_string⟩ := gn (List.map eS)
  rw [← hp, ← hm_string]
  obtain ⟨_, p_cmp, _⟩ := p
  simp only [Has_s_laws_szName, ← hm_string] at hF_s_laws_szName
  generalize hal : (fun (F : St → (Ex → St → Option (List Arg)) → Option (List Arg)) lv => aloop F lv fuel) = al
  rw [s_laws_szInterest, ← hp]
  dsimp only
  conv => lhs; cbv
  rw [hF_s_laws_szName a0.name a1]
  refine cO (fun hx2 => ?_) ?_
  · rw [hx2]; try rfl
  rintro r1 hx2
  rw [hx2]
  conv => lhs; cbv
  refine cC (fun hb3 => ?_) fun hb3 => ?_
  · rw [hb3]
    conv => lhs; cbv
    try rfl
  rw [hb3]
  conv => lhs; cbv
  try rfl
set_option maxHeartbeats 40000000 in
theorem e_s_laws_szPacketInFlight (F : Fns) (hF_s_laws_szInterest : Has_s_laws_szInterest F) (hF_s_laws_szData : Has_s_laws_szData F) (a0 : DPacketInFlight) (a1 : Int) : EvF F Tryz.f126 (fun _ => []) [.a [.at (.int .i64 a0.dest), .at (.int .i64 a0.face), .at (.bool a0.isInterest), .sl 9 1 (List.map eS a0.interest.name), .at (.int .i64 a0.interest.nonce), .at (.int .i64 a0.interest.hopLimit), .at (.int .i64 a0.interest.lifetime), .sl 9 1 (List.map eS a0.data.name), .sl 5 1 (List.map eY a0.data.content), .sl 9 1 (List.map eS a0.data.keyName), .at (.int .i64 a0.data.freshUntil), .at (.int .i64 a0.data.signature)], .v (.at (.int .i64 a1))] = (s_laws_szPacketInFlight a0 a1).bind fun r => some [.v (.at (.int .i64 r))] := by
  unfold EvF
  obtain ⟨p, hp⟩ := gn prims
  obtain ⟨m_byte, hm_byte⟩ := gn (List.map eY)
  obtain ⟨m_string, hm_string⟩ := gn (List.map eS)
  rw [← hp, ← hm_byte, ← hm_string]
  obtain ⟨_, p_cmp, _⟩ := p
  simp only [Has_s_laws_szInterest, Has_s_laws_szData, ← hm_string, ← hm_byte] at hF_s_laws_szInterest hF_s_laws_szData
  generalize hal : (fun (F : St → (Ex → St → Option (List Arg)) → Option (List Arg)) lv => aloop F lv fuel) = al
  rw [s_laws_szPacketInFlight, ← hp]
  dsimp only
  conv => lhs; cbv
  rw [hF_s_laws_szInterest a0.interest a1]
  refine cO (fun hx2 => ?_) ?_
  · rw [hx2]; try rfl
  rintro r1 hx2
  rw [hx2]
  conv => lhs; cbv
  refine cC (fun hb3 => ?_) fun hb3 => ?_
  · rw [hb3]
    conv => lhs; cbv
    try rfl
  rw [hb3]
  conv => lhs; cbv
  rw [hF_s_laws_szData a0.data r1]
  refine cO (fun hx5 => ?_) ?_
  · rw [hx5]; try rfl
  rintro r4 hx5
  rw [hx5]
  conv => lhs; cbv
  refine cC (fun hb6 => ?_) fun hb6 => ?_
  · rw [hb6]
    conv => lhs; cbv
    try rfl
  rw [hb6]
  conv => lhs; cbv
  try rfl
set_option maxHeartbeats 40000000 in
theorem e_s_laws_szPacketInFlightS (F : Fns) (hF_s_laws_szPacketInFlight : Has_s_laws_szPacketInFlight F) (a0 : (List DPacketInFlight)) (a1 : Int) : EvF F Tryz.f61 (fun id => if id = 5 then [0, 1, 5] else []) [.v (.sl 140 12 (List.map ePacketInFlight a0)), .v (.at (.int .i64 a1))] = (s_laws_szPacketInFlightS a0 a1).bind fun r => some [.v (.at (.int .i64 r))] := by
  unfold EvF
  obtain ⟨p, hp⟩ := gn prims
  obtain ⟨m_PacketInFlight, hm_PacketInFlight⟩ := gn (List.map ePacketInFlight)
  obtain ⟨m_byte, hm_byte⟩ := gn (List.map eY)
  obtain ⟨m_string, hm_string⟩ := gn (List.map eS)
  rw [← hp, ← hm_PacketInFlight]
  obtain ⟨p_arith, p_cmp, _, _, _, _, _, _, _, _, _, _, _, _, _, p_len, p_int, p_nth, _⟩ := p
  have nth_PacketInFlight := @nthF_PacketInFlight
  simp only [Has_s_laws_szPacketInFlight, ← hp, ← hm_PacketInFlight, ← hm_byte, ← hm_string] at nth_PacketInFlight hF_s_laws_szPacketInFlight
  generalize hal : (fun (F : St → (Ex → St → Option (List Arg)) → Option (List Arg)) lv => aloop F lv fuel) = al
  rw [s_laws_szPacketInFlightS, ← hp, ← hm_PacketInFlight]
  dsimp only
  conv => lhs; cbv
  refine cC (fun hb1 => ?_) fun hb1 => ?_
  · rw [hb1]
    conv => lhs; cbv
    try rfl
  rw [hb1]
  conv => lhs; cbv
  refine (loop_al hal (fun x => match x with | (v2, v3) => ⟨[.c (.rd true 140 12 (m_PacketInFlight a0)), .c (.at (.int .i64 v2)), dd, dd, dd, .c (.at (.int .i64 v3)), dd, dd, dd, dd, dd, dd, dd, dd, dd, dd, dd, dd, dd, dd, dd, dd, dd, dd, dd, dd, dd], [], 1⟩) (s_laws_szPacketInFlightS_l1 a0) (fun K g => match g with | .inl (v2, v3) => K (.exit 0) ⟨[.c (.rd true 140 12 (m_PacketInFlight a0)), .c (.at (.int .i64 v2)), dd, dd, dd, .c (.at (.int .i64 v3)), dd, dd, dd, dd, dd, dd, .c (.at (.int .i64 v3)), .c (.rd true 140 12 (m_PacketInFlight a0)), .c (.at (.int .i64 (p_int (p_len (m_PacketInFlight a0))))), .c (.at (.bool false)), dd, dd, dd, dd, dd, dd, dd, dd, dd, dd, dd], [], 2⟩ | .inr (r) => some [.v (.at (.int .i64 r))]) ?_ (p_arith .sub .i64 a1 (p_int (p_len (m_PacketInFlight a0))), 0) _ (rfl)).trans (cL ?_)
  · rintro K1 hr1 ⟨v2, v3⟩ R1
    rw [s_laws_szPacketInFlightS_l1, ← hp, ← hm_PacketInFlight]
    dsimp only
    conv => lhs; cbv
    refine cD (fun hb4 => ?_) fun hb4 => ?_
    · rw [hb4]
      conv => lhs; cbv
      try rfl
    rw [hb4]
    conv => lhs; cbv
    rw [nth_PacketInFlight]
    refine cO (fun hx6 => ?_) ?_
    · rw [hx6]; try rfl
    rintro x5 hx6
    rw [hx6]
    conv => lhs; cbv
    rw [hF_s_laws_szPacketInFlight x5 v2]
    refine cO (fun hx8 => ?_) ?_
    · rw [hx8]; try rfl
    rintro r7 hx8
    rw [hx8]
    conv => lhs; cbv
    refine cD (fun hb9 => ?_) fun hb9 => ?_
    · rw [hb9]
      conv => lhs; cbv
      try rfl
    rw [hb9]
    conv => lhs; cbv
    rw [hr1]
    conv => lhs; cbv
    try rfl
  rintro (⟨w10, w11⟩ | w12)
  · conv => lhs; cbv
    try rfl
  rfl
set_option maxHeartbeats 40000000 in
theorem e_s_laws_szConsumer (F : Fns) (hF_s_laws_szName : Has_s_laws_szName F) (hF_s_laws_szData : Has_s_laws_szData F) (a0 : DConsumer) (a1 : Int) : EvF F Tryz.f127 (fun _ => []) [.a [.at (.int .i64 a0.node), .at (.int .i64 a0.index), .sl 9 1 (List.map eS a0.name), .at (.int .i64 a0.attempts), .at (.int .i64 a0.wait), .at (.bool a0.satisfied), .sl 9 1 (List.map eS a0.data.name), .sl 5 1 (List.map eY a0.data.content), .sl 9 1 (List.map eS a0.data.keyName), .at (.int .i64 a0.data.freshUntil), .at (.int .i64 a0.data.signature)], .v (.at (.int .i64 a1))] = (s_laws_szConsumer a0 a1).bind fun r => some [.v (.at (.int .i64 r))] := by
  unfold EvF
  obtain ⟨p, hp⟩ := gn prims
  obtain ⟨m_byte, hm_byte⟩ := gn (List.map eY)
  obtain ⟨m_string, hm_string⟩ := gn (List.map eS)
  rw [← hp, ← hm_byte, ← hm_string]
  obtain ⟨_, p_cmp, _⟩ := p
  simp only [Has_s_laws_szName, Has_s_laws_szData, ← hm_string, ← hm_byte] at hF_s_laws_szName hF_s_laws_szData
  generalize hal : (fun (F : St → (Ex → St → Option (List Arg)) → Option (List Arg)) lv => aloop F lv fuel) = al
  rw [s_laws_szConsumer, ← hp]
  dsimp only
  conv => lhs; cbv
  rw [hF_s_laws_szName a0.name a1]
  refine cO (fun hx2 => ?_) ?_
  · rw [hx2]; try rfl
  rintro r1 hx2
  rw [hx2]
  conv => lhs; cbv
  refine cC (fun hb3 => ?_) fun hb3 => ?_
  · rw [hb3]
    conv => lhs; cbv
    try rfl
  rw [hb3]
  conv => lhs; cbv
  rw [hF_s_laws_szData a0.data r1]
  refine cO (fun hx5 => ?_) ?_
  · rw [hx5]; try rfl
  rintro r4 hx5
  rw [hx5]
  conv => lhs; cbv
  refine cC (fun hb6 => ?_) fun hb6 => ?_
  · rw [hb6]
    conv => lhs; cbv
    try rfl
  rw [hb6]
  conv => lhs; cbv
  try rfl
set_option maxHeartbeats 40000000 in
theorem e_s_laws_szConsumerS (F : Fns) (hF_s_laws_szConsumer : Has_s_laws_szConsumer F) (a0 : (List DConsumer)) (a1 : Int) : EvF F Tryz.f62 (fun id => if id = 5 then [0, 1, 5] else []) [.v (.sl 134 11 (List.map eConsumer a0)), .v (.at (.int .i64 a1))] = (s_laws_szConsumerS a0 a1).bind fun r => some [.v (.at (.int .i64 r))] := by
  unfold EvF
  obtain ⟨p, hp⟩ := gn prims
  obtain ⟨m_Consumer, hm_Consumer⟩ := gn (List.map eConsumer)
  obtain ⟨m_byte, hm_byte⟩ := gn (List.map eY)
  obtain ⟨m_string, hm_string⟩ := gn (List.map eS)
  rw [← hp, ← hm_Consumer]
  obtain ⟨p_arith, p_cmp, _, _, _, _, _, _, _, _, _, _, _, _, _, p_len, p_int, p_nth, _⟩ := p
  have nth_Consumer := @nthF_Consumer
  simp only [Has_s_laws_szConsumer, ← hp, ← hm_Consumer, ← hm_byte, ← hm_string] at nth_Consumer hF_s_laws_szConsumer
  generalize hal : (fun (F : St → (Ex → St → Option (List Arg)) → Option (List Arg)) lv => aloop F lv fuel) = al
  rw [s_laws_szConsumerS, ← hp, ← hm_Consumer]
  dsimp only
  conv => lhs; cbv
  refine cC (fun hb1 => ?_) fun hb1 => ?_
  · rw [hb1]
    conv => lhs; cbv
    try rfl
  rw [hb1]
  conv => lhs; cbv
  refine (loop_al hal (fun x => match x with | (v2, v3) => ⟨[.c (.rd true 134 11 (m_Consumer a0)), .c (.at (.int .i64 v2)), dd, dd, dd, .c (.at (.int .i64 v3)), dd, dd, dd, dd, dd, dd, dd, dd, dd, dd, dd, dd, dd, dd, dd, dd, dd, dd, dd, dd, dd], [], 1⟩) (s_laws_szConsumerS_l1 a0) (fun K g => match g with | .inl (v2, v3) => K (.exit 0) ⟨[.c (.rd true 134 11 (m_Consumer a0)), .c (.at (.int .i64 v2)), dd, dd, dd, .c (.at (.int .i64 v3)), dd, dd, dd, dd, dd, dd, .c (.at (.int .i64 v3)), .c (.rd true 134 11 (m_Consumer a0)), .c (.at (.int .i64 (p_int (p_len (m_Consumer a0))))), .c (.at (.bool false)), dd, dd, dd, dd, dd, dd, dd, dd, dd, dd, dd], [], 2⟩ | .inr (r) => some [.v (.at (.int .i64 r))]) ?_ (p_arith .sub .i64 a1 (p_int (p_len (m_Consumer a0))), 0) _ (rfl)).trans (cL ?_)
  · rintro K1 hr1 ⟨v2, v3⟩ R1
    rw [s_laws_szConsumerS_l1, ← hp, ← hm_Consumer]
    dsimp only
    conv => lhs; cbv
    refine cD (fun hb4 => ?_) fun hb4 => ?_
    · rw [hb4]
      conv => lhs; cbv
      try rfl
    rw [hb4]
    conv => lhs; cbv
    rw [nth_Consumer]
    refine cO (fun hx6 => ?_) ?_
    · rw [hx6]; try rfl
    rintro x5 hx6
    rw [hx6]
    conv => lhs; cbv
    rw [hF_s_laws_szConsumer x5 v2]
    refine cO (fun hx8 => ?_) ?_
    · rw [hx8]; try rfl
    rintro r7 hx8
    rw [hx8]
    conv => lhs; cbv
    refine cD (fun hb9 => ?_) fun hb9 => ?_
    · rw [hb9]
      conv => lhs; cbv
      try rfl
    rw [hb9]
    conv => lhs; cbv
    rw [hr1]
    conv => lhs; cbv
    try rfl
  rintro (⟨w10, w11⟩ | w12)
  · conv => lhs; cbv
    try rfl
  rfl
set_option maxHeartbeats 40000000 in
theorem e_s_laws_szNetwork (F : Fns) (hF_s_laws_szTopology : Has_s_laws_szTopology F) (hF_s_laws_szTrustPolicy : Has_s_laws_szTrustPolicy F) (hF_s_laws_szTableEntryS : Has_s_laws_szTableEntryS F) (hF_s_laws_szNodeS : Has_s_laws_szNodeS F) (hF_s_laws_szIntS : Has_s_laws_szIntS F) (hF_s_laws_szPacketInFlightS : Has_s_laws_szPacketInFlightS F) (hF_s_laws_szConsumerS : Has_s_laws_szConsumerS F) (a0 : DNetwork) (a1 : Int) : EvF F Tryz.f20 (fun _ => []) [.a [.at (.int .i64 a0.topology.size), .sl 242 2 (List.map eLink a0.topology.links), .sl 159 2 (List.map eKey a0.trust.keys), .sl 247 2 (List.map eRule a0.trust.rules), .sl 41 1 (List.map eName a0.trust.anchors), .sl 43 5 (List.map eData a0.trust.certificates), .sl 198 2 (List.map eTableEntry a0.producers), .sl 208 8 (List.map eNode a0.nodes), .at (.int .i64 a0.downNodes), .sl 3 1 (List.map eI a0.failedLinks), .sl 140 12 (List.map ePacketInFlight a0.inFlight), .sl 134 11 (List.map eConsumer a0.consumers), .at (.int .i64 a0.now), .at (.int .i64 a0.dropped)], .v (.at (.int .i64 a1))] = (s_laws_szNetwork a0 a1).bind fun r => some [.v (.at (.int .i64 r))] := by
  unfold EvF
  obtain ⟨p, hp⟩ := gn prims
  obtain ⟨m_Consumer, hm_Consumer⟩ := gn (List.map eConsumer)
  obtain ⟨m_Data, hm_Data⟩ := gn (List.map eData)
  obtain ⟨m_Key, hm_Key⟩ := gn (List.map eKey)
  obtain ⟨m_Link, hm_Link⟩ := gn (List.map eLink)
  obtain ⟨m_Name, hm_Name⟩ := gn (List.map eName)
  obtain ⟨m_Node, hm_Node⟩ := gn (List.map eNode)
  obtain ⟨m_PacketInFlight, hm_PacketInFlight⟩ := gn (List.map ePacketInFlight)
  obtain ⟨m_Rule, hm_Rule⟩ := gn (List.map eRule)
  obtain ⟨m_TableEntry, hm_TableEntry⟩ := gn (List.map eTableEntry)
  obtain ⟨m_int, hm_int⟩ := gn (List.map eI)
  rw [← hp, ← hm_Consumer, ← hm_Data, ← hm_Key, ← hm_Link, ← hm_Name, ← hm_Node, ← hm_PacketInFlight, ← hm_Rule, ← hm_TableEntry, ← hm_int]
  obtain ⟨_, p_cmp, _⟩ := p
  simp only [Has_s_laws_szTopology, Has_s_laws_szTrustPolicy, Has_s_laws_szTableEntryS, Has_s_laws_szNodeS, Has_s_laws_szIntS, Has_s_laws_szPacketInFlightS, Has_s_laws_szConsumerS, ← hm_Link, ← hm_Data, ← hm_Key, ← hm_Name, ← hm_Rule, ← hm_TableEntry, ← hm_Node, ← hm_int, ← hm_PacketInFlight, ← hm_Consumer] at hF_s_laws_szTopology hF_s_laws_szTrustPolicy hF_s_laws_szTableEntryS hF_s_laws_szNodeS hF_s_laws_szIntS hF_s_laws_szPacketInFlightS hF_s_laws_szConsumerS
  generalize hal : (fun (F : St → (Ex → St → Option (List Arg)) → Option (List Arg)) lv => aloop F lv fuel) = al
  rw [s_laws_szNetwork, ← hp]
  dsimp only
  conv => lhs; cbv
  rw [hF_s_laws_szTopology a0.topology a1]
  refine cO (fun hx2 => ?_) ?_
  · rw [hx2]; try rfl
  rintro r1 hx2
  rw [hx2]
  conv => lhs; cbv
  refine cC (fun hb3 => ?_) fun hb3 => ?_
  · rw [hb3]
    conv => lhs; cbv
    try rfl
  rw [hb3]
  conv => lhs; cbv
  rw [hF_s_laws_szTrustPolicy a0.trust r1]
  refine cO (fun hx5 => ?_) ?_
  · rw [hx5]; try rfl
  rintro r4 hx5
  rw [hx5]
  conv => lhs; cbv
  refine cC (fun hb6 => ?_) fun hb6 => ?_
  · rw [hb6]
    conv => lhs; cbv
    try rfl
  rw [hb6]
  conv => lhs; cbv
  rw [hF_s_laws_szTableEntryS a0.producers r4]
  refine cO (fun hx8 => ?_) ?_
  · rw [hx8]; try rfl
  rintro r7 hx8
  rw [hx8]
  conv => lhs; cbv
  refine cC (fun hb9 => ?_) fun hb9 => ?_
  · rw [hb9]
    conv => lhs; cbv
    try rfl
  rw [hb9]
  conv => lhs; cbv
  rw [hF_s_laws_szNodeS a0.nodes r7]
  refine cO (fun hx11 => ?_) ?_
  · rw [hx11]; try rfl
  rintro r10 hx11
  rw [hx11]
  conv => lhs; cbv
  refine cC (fun hb12 => ?_) fun hb12 => ?_
  · rw [hb12]
    conv => lhs; cbv
    try rfl
  rw [hb12]
  conv => lhs; cbv
  rw [hF_s_laws_szIntS a0.failedLinks r10]
  refine cO (fun hx14 => ?_) ?_
  · rw [hx14]; try rfl
  rintro r13 hx14
  rw [hx14]
  conv => lhs; cbv
  refine cC (fun hb15 => ?_) fun hb15 => ?_
  · rw [hb15]
    conv => lhs; cbv
    try rfl
  rw [hb15]
  conv => lhs; cbv
  rw [hF_s_laws_szPacketInFlightS a0.inFlight r13]
  refine cO (fun hx17 => ?_) ?_
  · rw [hx17]; try rfl
  rintro r16 hx17
  rw [hx17]
  conv => lhs; cbv
  refine cC (fun hb18 => ?_) fun hb18 => ?_
  · rw [hb18]
    conv => lhs; cbv
    try rfl
  rw [hb18]
  conv => lhs; cbv
  rw [hF_s_laws_szConsumerS a0.consumers r16]
  refine cO (fun hx20 => ?_) ?_
  · rw [hx20]; try rfl
  rintro r19 hx20
  rw [hx20]
  conv => lhs; cbv
  refine cC (fun hb21 => ?_) fun hb21 => ?_
  · rw [hb21]
    conv => lhs; cbv
    try rfl
  rw [hb21]
  conv => lhs; cbv
  try rfl
set_option maxHeartbeats 40000000 in
theorem e_s_laws_toLink (F : Fns) (a0 : DLink) : EvF F Tryz.f175 (fun _ => []) [.a [.at (.int .i64 a0.a), .at (.int .i64 a0.b)]] = (s_laws_toLink a0).bind fun r => some [.a [.at (.int .i64 r.a), .at (.int .i64 r.b)]] := by
  unfold EvF
  obtain ⟨p, hp⟩ := gn prims
  rw [← hp]
  generalize hal : (fun (F : St → (Ex → St → Option (List Arg)) → Option (List Arg)) lv => aloop F lv fuel) = al
  rw [s_laws_toLink]
  conv => lhs; cbv
  try rfl
set_option maxHeartbeats 40000000 in
theorem e_s_laws_toLinkS (F : Fns) (hF_s_laws_toLink : Has_s_laws_toLink F) (a0 : (List DLink)) : EvF F Tryz.f128 (fun id => if id = 3 then [0, 3, 4] else []) [.v (.sl 242 2 (List.map eLink a0))] = (s_laws_toLinkS a0).bind fun r => some [.v (.sl 242 2 (List.map eLink r))] := by
  unfold EvF
  obtain ⟨p, hp⟩ := gn prims
  obtain ⟨m_Link, hm_Link⟩ := gn (List.map eLink)
  rw [← hp, ← hm_Link]
  obtain ⟨p_arith, p_cmp, _, _, _, _, _, _, _, _, _, _, _, _, _, p_len, p_int, p_nth, _, _, p_ridx, p_rnth, p_rset, _, _, _, p_full, _, _, p_own, p_opn, _, _, _, _, _, _, _, p_mkN, p_rep, _⟩ := p
  have full_Link := full_gen eLink
  have lset_Link := lset_gen eLink
  have mkn_Link := @mknF_Link
  have nth_Link := @nthF_Link
  have own_Link := own_gen eLink (fun _ => rfl)
  have rep_Link := @repF_Link
  have rnth_Link := @rnthF_Link
  have rset_Link := @rsetF_Link
  simp only [Has_s_laws_toLink, ← hp, ← hm_Link] at full_Link lset_Link mkn_Link nth_Link own_Link rep_Link rnth_Link rset_Link hF_s_laws_toLink
  generalize hal : (fun (F : St → (Ex → St → Option (List Arg)) → Option (List Arg)) lv => aloop F lv fuel) = al
  rw [s_laws_toLinkS, ← hp, ← hm_Link]
  dsimp only
  conv => lhs; cbv
  rw [mkn_Link]
  refine cO (fun hx2 => ?_) ?_
  · rw [hx2]; try rfl
  rintro x1 hx2
  rw [hx2]
  conv => lhs; cbv
  rw [rep_Link _ _ _ hx2]
  conv => lhs; cbv
  refine (loop_al hal (fun x => match x with | (v3, v4) => ⟨[.c (.rd true 242 2 (m_Link a0)), dd, dd, .c (.row (0, 0, 0) 242 2 0 (p_len (m_Link v4))), .c (.at (.int .i64 v3)), dd, dd, dd, dd, dd, dd, dd, dd, dd, dd, dd, dd, dd, dd, dd, dd, dd, dd], [((0, 0, 0), ⟨true, false, 242, 2, p_opn (m_Link v4)⟩)], 1⟩) (s_laws_toLinkS_l1 a0) (fun K g => match g with | (v3, v4) => K (.exit 0) ⟨[.c (.rd true 242 2 (m_Link a0)), dd, dd, .c (.row (0, 0, 0) 242 2 0 (p_len (m_Link v4))), .c (.at (.int .i64 v3)), dd, dd, dd, .c (.at (.int .i64 v3)), .c (.rd true 242 2 (m_Link a0)), .c (.at (.int .i64 (p_int (p_len (m_Link a0))))), .c (.at (.bool false)), dd, dd, dd, dd, dd, dd, dd, dd, dd, dd, dd], [((0, 0, 0), ⟨true, false, 242, 2, p_opn (m_Link v4)⟩)], 2⟩) ?_ (0, x1) _ (rfl)).trans (cL ?_)
  · rintro K1 hr1 ⟨v3, v4⟩ R1
    rw [s_laws_toLinkS_l1, ← hp, ← hm_Link]
    dsimp only
    conv => lhs; cbv
    refine cD (fun hb5 => ?_) fun hb5 => ?_
    · rw [hb5]
      conv => lhs; cbv
      try rfl
    rw [hb5]
    conv => lhs; cbv
    rw [nth_Link]
    refine cO (fun hx7 => ?_) ?_
    · rw [hx7]; try rfl
    rintro x6 hx7
    rw [hx7]
    conv => lhs; cbv
    rw [hF_s_laws_toLink x6]
    refine cO (fun hx9 => ?_) ?_
    · rw [hx9]; try rfl
    rintro r8 hx9
    rw [hx9]
    conv => lhs; cbv
    refine cO (fun hx11 => ?_) ?_
    · rw [hx11]; try rfl
    rintro x10 hx11
    rw [hx11]
    conv => lhs; cbv
    rw [rnth_Link]
    refine cO (fun hx13 => ?_) ?_
    · rw [hx13]; try rfl
    rintro x12 hx13
    rw [hx13]
    conv => lhs; cbv
    rw [rset_Link]
    try conv => lhs; rw [← lset_Link v4 x10 r8]
    conv => lhs; cbv
    try rfl
  rintro ⟨w14, w15⟩
  conv => lhs; cbv
  rw [if_pos (full_Link _)]
  conv => lhs; cbv
  rw [own_Link]
  conv => lhs; cbv
  try rfl
set_option maxHeartbeats 40000000 in
theorem e_s_laws_toTopology (F : Fns) (hF_s_laws_toLinkS : Has_s_laws_toLinkS F) (a0 : DTopology) : EvF F Tryz.f65 (fun _ => []) [.a [.at (.int .i64 a0.size), .sl 242 2 (List.map eLink a0.links)]] = (s_laws_toTopology a0).bind fun r => some [.a [.at (.int .i64 r.size), .sl 242 2 (List.map eLink r.links)]] := by
  unfold EvF
  obtain ⟨p, hp⟩ := gn prims
  obtain ⟨m_Link, hm_Link⟩ := gn (List.map eLink)
  rw [← hp, ← hm_Link]
  obtain ⟨_, _, _, _, _, _, _, _, _, _, _, _, _, _, _, p_len, _, _, _, _, _, _, _, _, _, _, p_full, _, _, p_own, p_opn, _⟩ := p
  have full_Link := full_gen eLink
  have own_Link := own_gen eLink (fun _ => rfl)
  simp only [Has_s_laws_toLinkS, ← hp, ← hm_Link] at full_Link own_Link hF_s_laws_toLinkS
  generalize hal : (fun (F : St → (Ex → St → Option (List Arg)) → Option (List Arg)) lv => aloop F lv fuel) = al
  rw [s_laws_toTopology]
  conv => lhs; cbv
  rw [hF_s_laws_toLinkS a0.links]
  refine cO (fun hx2 => ?_) ?_
  · rw [hx2]; try rfl
  rintro r1 hx2
  rw [hx2]
  conv => lhs; cbv
  rw [if_pos (full_Link _)]
  conv => lhs; cbv
  rw [own_Link]
  conv => lhs; cbv
  try rfl
set_option maxHeartbeats 40000000 in
theorem e_s_laws_toStringS (F : Fns) (a0 : (List ByteArray)) : EvF F Tryz.f102 (fun id => if id = 3 then [0, 3, 4] else []) [.v (.sl 9 1 (List.map eS a0))] = (s_laws_toStringS a0).bind fun r => some [.v (.sl 9 1 (List.map eS r))] := by
  unfold EvF
  obtain ⟨p, hp⟩ := gn prims
  obtain ⟨m_string, hm_string⟩ := gn (List.map eS)
  rw [← hp, ← hm_string]
  obtain ⟨p_arith, p_cmp, _, _, _, _, _, _, _, _, _, _, _, _, _, p_len, p_int, p_nth, _, _, p_ridx, p_rnth, p_rset, _, _, _, p_full, _, _, p_own, p_opn, _, _, _, _, _, _, _, p_mkN, p_rep, _⟩ := p
  have full_string := full_gen eS
  have lset_string := lset_gen eS
  have mkn_string := @mknF_string
  have nth_string := @nthF_string
  have own_string := own_gen eS (fun _ => rfl)
  have rep_string := @repF_string
  have rnth_string := @rnthF_string
  have rset_string := @rsetF_string
  simp only [← hp, ← hm_string] at full_string lset_string mkn_string nth_string own_string rep_string rnth_string rset_string
  generalize hal : (fun (F : St → (Ex → St → Option (List Arg)) → Option (List Arg)) lv => aloop F lv fuel) = al
  rw [s_laws_toStringS, ← hp, ← hm_string]
  dsimp only
  conv => lhs; cbv
  rw [mkn_string]
  refine cO (fun hx2 => ?_) ?_
  · rw [hx2]; try rfl
  rintro x1 hx2
  rw [hx2]
  conv => lhs; cbv
  rw [rep_string _ _ _ hx2]
  conv => lhs; cbv
  refine (loop_al hal (fun x => match x with | (v3, v4) => ⟨[.c (.rd true 9 1 (m_string a0)), dd, dd, .c (.row (0, 0, 0) 9 1 0 (p_len (m_string v4))), .c (.at (.int .i64 v3)), dd, dd, dd, dd, dd, dd, dd, dd, dd, dd, dd, dd, dd, dd, dd, dd, dd], [((0, 0, 0), ⟨true, false, 9, 1, p_opn (m_string v4)⟩)], 1⟩) (s_laws_toStringS_l1 a0) (fun K g => match g with | (v3, v4) => K (.exit 0) ⟨[.c (.rd true 9 1 (m_string a0)), dd, dd, .c (.row (0, 0, 0) 9 1 0 (p_len (m_string v4))), .c (.at (.int .i64 v3)), dd, dd, dd, .c (.at (.int .i64 v3)), .c (.rd true 9 1 (m_string a0)), .c (.at (.int .i64 (p_int (p_len (m_string a0))))), .c (.at (.bool false)), dd, dd, dd, dd, dd, dd, dd, dd, dd, dd], [((0, 0, 0), ⟨true, false, 9, 1, p_opn (m_string v4)⟩)], 2⟩) ?_ (0, x1) _ (rfl)).trans (cL ?_)
  · rintro K1 hr1 ⟨v3, v4⟩ R1
    rw [s_laws_toStringS_l1, ← hp, ← hm_string]
    dsimp only
    conv => lhs; cbv
    refine cD (fun hb5 => ?_) fun hb5 => ?_
    · rw [hb5]
      conv => lhs; cbv
      try rfl
    rw [hb5]
    conv => lhs; cbv
    rw [nth_string]
    refine cO (fun hx7 => ?_) ?_
    · rw [hx7]; try rfl
    rintro x6 hx7
    rw [hx7]
    conv => lhs; cbv
    refine cO (fun hx9 => ?_) ?_
    · rw [hx9]; try rfl
    rintro x8 hx9
    rw [hx9]
    conv => lhs; cbv
    rw [rnth_string]
    refine cO (fun hx11 => ?_) ?_
    · rw [hx11]; try rfl
    rintro x10 hx11
    rw [hx11]
    conv => lhs; cbv
    rw [rset_string]
    try conv => lhs; rw [← lset_string v4 x8 x6]
    conv => lhs; cbv
    try rfl
  rintro ⟨w12, w13⟩
  conv => lhs; cbv
  rw [if_pos (full_string _)]
  conv => lhs; cbv
  rw [own_string]
  conv => lhs; cbv
  try rfl
set_option maxHeartbeats 40000000 in
theorem e_s_laws_toName (F : Fns) (hF_s_laws_toStringS : Has_s_laws_toStringS F) (a0 : (List ByteArray)) : EvF F Tryz.f42 (fun _ => []) [.a [.sl 9 1 (List.map eS a0)]] = (s_laws_toName a0).bind fun r => some [.a [.sl 9 1 (List.map eS r)]] := by
  unfold EvF
  obtain ⟨p, hp⟩ := gn prims
  obtain ⟨m_string, hm_string⟩ := gn (List.map eS)
  rw [← hp, ← hm_string]
  obtain ⟨_, _, _, _, _, _, _, _, _, _, _, _, _, _, _, p_len, _, _, _, _, _, _, _, _, _, _, p_full, _, _, p_own, p_opn, _⟩ := p
  have full_string := full_gen eS
  have own_string := own_gen eS (fun _ => rfl)
  simp only [Has_s_laws_toStringS, ← hp, ← hm_string] at full_string own_string hF_s_laws_toStringS
  generalize hal : (fun (F : St → (Ex → St → Option (List Arg)) → Option (List Arg)) lv => aloop F lv fuel) = al
  rw [s_laws_toName]
  conv => lhs; cbv
  rw [hF_s_laws_toStringS a0]
  refine cO (fun hx2 => ?_) ?_
  · rw [hx2]; try rfl
  rintro r1 hx2
  rw [hx2]
  conv => lhs; cbv
  rw [if_pos (full_string _)]
  conv => lhs; cbv
  rw [own_string]
  conv => lhs; cbv
  try rfl
set_option maxHeartbeats 40000000 in
theorem e_s_laws_toKey (F : Fns) (hF_s_laws_toName : Has_s_laws_toName F) (a0 : DKey) : EvF F Tryz.f100 (fun _ => []) [.a [.sl 9 1 (List.map eS a0.name), .at (.int .i64 a0.secret)]] = (s_laws_toKey a0).bind fun r => some [.a [.sl 9 1 (List.map eS r.name), .at (.int .i64 r.secret)]] := by
  unfold EvF
  obtain ⟨p, hp⟩ := gn prims
  obtain ⟨m_string, hm_string⟩ := gn (List.map eS)
  rw [← hp, ← hm_string]
  obtain ⟨_, _, _, _, _, _, _, _, _, _, _, _, _, _, _, p_len, _, _, _, _, _, _, _, _, _, _, p_full, _, _, p_own, p_opn, _⟩ := p
  have full_string := full_gen eS
  have own_string := own_gen eS (fun _ => rfl)
  simp only [Has_s_laws_toName, ← hp, ← hm_string] at full_string own_string hF_s_laws_toName
  generalize hal : (fun (F : St → (Ex → St → Option (List Arg)) → Option (List Arg)) lv => aloop F lv fuel) = al
  rw [s_laws_toKey]
  conv => lhs; cbv
  rw [hF_s_laws_toName a0.name]
  refine cO (fun hx2 => ?_) ?_
  · rw [hx2]; try rfl
  rintro r1 hx2
  rw [hx2]
  conv => lhs; cbv
  rw [if_pos (full_string _)]
  conv => lhs; cbv
  rw [own_string]
  conv => lhs; cbv
  try rfl
set_option maxHeartbeats 40000000 in
theorem e_s_laws_toKeyS (F : Fns) (hF_s_laws_toKey : Has_s_laws_toKey F) (a0 : (List DKey)) : EvF F Tryz.f40 (fun id => if id = 3 then [0, 3, 4] else []) [.v (.sl 159 2 (List.map eKey a0))] = (s_laws_toKeyS a0).bind fun r => some [.v (.sl 159 2 (List.map eKey r))] := by
  unfold EvF
  obtain ⟨p, hp⟩ := gn prims
  obtain ⟨m_Key, hm_Key⟩ := gn (List.map eKey)
  obtain ⟨m_string, hm_string⟩ := gn (List.map eS)
  rw [← hp, ← hm_Key]
  obtain ⟨p_arith, p_cmp, _, _, _, _, _, _, _, _, _, _, _, _, _, p_len, p_int, p_nth, _, _, p_ridx, p_rnth, p_rset, _, _, _, p_full, _, _, p_own, p_opn, _, _, _, _, _, _, _, p_mkN, p_rep, _⟩ := p
  have full_Key := full_gen eKey
  have full_string := full_gen eS
  have lset_Key := lset_gen eKey
  have mkn_Key := @mknF_Key
  have nth_Key := @nthF_Key
  have own_Key := own_gen eKey (fun _ => rfl)
  have own_string := own_gen eS (fun _ => rfl)
  have rep_Key := @repF_Key
  have rnth_Key := @rnthF_Key
  have rset_Key := @rsetF_Key
  simp only [Has_s_laws_toKey, ← hp, ← hm_Key, ← hm_string] at full_Key full_string lset_Key mkn_Key nth_Key own_Key own_string rep_Key rnth_Key rset_Key hF_s_laws_toKey
  generalize hal : (fun (F : St → (Ex → St → Option (List Arg)) → Option (List Arg)) lv => aloop F lv fuel) = al
  rw [s_laws_toKeyS, ← hp, ← hm_Key]
  dsimp only
  conv => lhs; cbv
  rw [mkn_Key]
  refine cO (fun hx2 => ?_) ?_
  · rw [hx2]; try rfl
  rintro x1 hx2
  rw [hx2]
  conv => lhs; cbv
  rw [rep_Key _ _ _ hx2]
  conv => lhs; cbv
  refine (loop_al hal (fun x => match x with | (v3, v4) => ⟨[.c (.rd true 159 2 (m_Key a0)), dd, dd, .c (.row (0, 0, 0) 159 2 0 (p_len (m_Key v4))), .c (.at (.int .i64 v3)), dd, dd, dd, dd, dd, dd, dd, dd, dd, dd, dd, dd, dd, dd, dd, dd, dd, dd], [((0, 0, 0), ⟨true, false, 159, 2, p_opn (m_Key v4)⟩)], 1⟩) (s_laws_toKeyS_l1 a0) (fun K g => match g with | (v3, v4) => K (.exit 0) ⟨[.c (.rd true 159 2 (m_Key a0)), dd, dd, .c (.row (0, 0, 0) 159 2 0 (p_len (m_Key v4))), .c (.at (.int .i64 v3)), dd, dd, dd, .c (.at (.int .i64 v3)), .c (.rd true 159 2 (m_Key a0)), .c (.at (.int .i64 (p_int (p_len (m_Key a0))))), .c (.at (.bool false)), dd, dd, dd, dd, dd, dd, dd, dd, dd, dd, dd], [((0, 0, 0), ⟨true, false, 159, 2, p_opn (m_Key v4)⟩)], 2⟩) ?_ (0, x1) _ (rfl)).trans (cL ?_)
  · rintro K1 hr1 ⟨v3, v4⟩ R1
    rw [s_laws_toKeyS_l1, ← hp, ← hm_Key]
    dsimp only
    conv => lhs; cbv
    refine cD (fun hb5 => ?_) fun hb5 => ?_
    · rw [hb5]
      conv => lhs; cbv
      try rfl
    rw [hb5]
    conv => lhs; cbv
    rw [nth_Key]
    refine cO (fun hx7 => ?_) ?_
    · rw [hx7]; try rfl
    rintro x6 hx7
    rw [hx7]
    conv => lhs; cbv
    rw [hF_s_laws_toKey x6]
    refine cO (fun hx9 => ?_) ?_
    · rw [hx9]; try rfl
    rintro r8 hx9
    rw [hx9]
    conv => lhs; cbv
    refine cO (fun hx11 => ?_) ?_
    · rw [hx11]; try rfl
    rintro x10 hx11
    rw [hx11]
    conv => lhs; cbv
    rw [rnth_Key]
    refine cO (fun hx13 => ?_) ?_
    · rw [hx13]; try rfl
    rintro x12 hx13
    rw [hx13]
    conv => lhs; cbv
    rw [if_pos (full_string _)]
    conv => lhs; cbv
    rw [own_string]
    conv => lhs; cbv
    rw [rset_Key]
    try conv => lhs; rw [← lset_Key v4 x10 r8]
    conv => lhs; cbv
    try rfl
  rintro ⟨w14, w15⟩
  conv => lhs; cbv
  rw [if_pos (full_Key _)]
  conv => lhs; cbv
  rw [own_Key]
  conv => lhs; cbv
  try rfl
set_option maxHeartbeats 40000000 in
theorem e_s_laws_toPattern (F : Fns) (hF_s_laws_toStringS : Has_s_laws_toStringS F) (a0 : (List ByteArray)) : EvF F Tryz.f207 (fun _ => []) [.a [.sl 9 1 (List.map eS a0)]] = (s_laws_toPattern a0).bind fun r => some [.a [.sl 9 1 (List.map eS r)]] := by
  unfold EvF
  obtain ⟨p, hp⟩ := gn prims
  obtain ⟨m_string, hm_string⟩ := gn (List.map eS)
  rw [← hp, ← hm_string]
  obtain ⟨_, _, _, _, _, _, _, _, _, _, _, _, _, _, _, p_len, _, _, _, _, _, _, _, _, _, _, p_full, _, _, p_own, p_opn, _⟩ := p
  have full_string := full_gen eS
  have own_string := own_gen eS (fun _ => rfl)
  simp only [Has_s_laws_toStringS, ← hp, ← hm_string] at full_string own_string hF_s_laws_toStringS
  generalize hal : (fun (F : St → (Ex → St → Option (List Arg)) → Option (List Arg)) lv => aloop F lv fuel) = al
  rw [s_laws_toPattern]
  conv => lhs; cbv
  rw [hF_s_laws_toStringS a0]
  refine cO (fun hx2 => ?_) ?_
  · rw [hx2]; try rfl
  rintro r1 hx2
  rw [hx2]
  conv => lhs; cbv
  rw [if_pos (full_string _)]
  conv => lhs; cbv
  rw [own_string]
  conv => lhs; cbv
  try rfl
set_option maxHeartbeats 40000000 in
theorem e_s_laws_toRule (F : Fns) (hF_s_laws_toPattern : Has_s_laws_toPattern F) (a0 : DRule) : EvF F Tryz.f176 (fun _ => []) [.a [.sl 9 1 (List.map eS a0.dataPattern), .sl 9 1 (List.map eS a0.keyPattern)]] = (s_laws_toRule a0).bind fun r => some [.a [.sl 9 1 (List.map eS r.dataPattern), .sl 9 1 (List.map eS r.keyPattern)]] := by
  unfold EvF
  obtain ⟨p, hp⟩ := gn prims
  obtain ⟨m_string, hm_string⟩ := gn (List.map eS)
  rw [← hp, ← hm_string]
  obtain ⟨_, _, _, _, _, _, _, _, _, _, _, _, _, _, _, p_len, _, _, _, _, _, _, _, _, _, _, p_full, _, _, p_own, p_opn, _⟩ := p
  have full_string := full_gen eS
  have own_string := own_gen eS (fun _ => rfl)
  simp only [Has_s_laws_toPattern, ← hp, ← hm_string] at full_string own_string hF_s_laws_toPattern
  generalize hal : (fun (F : St → (Ex → St → Option (List Arg)) → Option (List Arg)) lv => aloop F lv fuel) = al
  rw [s_laws_toRule]
  conv => lhs; cbv
  rw [hF_s_laws_toPattern a0.dataPattern]
  refine cO (fun hx2 => ?_) ?_
  · rw [hx2]; try rfl
  rintro r1 hx2
  rw [hx2]
  conv => lhs; cbv
  rw [hF_s_laws_toPattern a0.keyPattern]
  refine cO (fun hx4 => ?_) ?_
  · rw [hx4]; try rfl
  rintro r3 hx4
  rw [hx4]
  conv => lhs; cbv
  rw [if_pos (full_string _)]
  conv => lhs; cbv
  rw [own_string]
  conv => lhs; cbv
  rw [if_pos (full_string _)]
  conv => lhs; cbv
  rw [own_string]
  conv => lhs; cbv
  try rfl
set_option maxHeartbeats 40000000 in
theorem e_s_laws_toRuleS (F : Fns) (hF_s_laws_toRule : Has_s_laws_toRule F) (a0 : (List DRule)) : EvF F Tryz.f129 (fun id => if id = 3 then [0, 3, 4] else []) [.v (.sl 247 2 (List.map eRule a0))] = (s_laws_toRuleS a0).bind fun r => some [.v (.sl 247 2 (List.map eRule r))] := by
  unfold EvF
  obtain ⟨p, hp⟩ := gn prims
  obtain ⟨m_Rule, hm_Rule⟩ := gn (List.map eRule)
  obtain ⟨m_string, hm_string⟩ := gn (List.map eS)
  rw [← hp, ← hm_Rule]
  obtain ⟨p_arith, p_cmp, _, _, _, _, _, _, _, _, _, _, _, _, _, p_len, p_int, p_nth, _, _, p_ridx, p_rnth, p_rset, _, _, _, p_full, _, _, p_own, p_opn, _, _, _, _, _, _, _, p_mkN, p_rep, _⟩ := p
  have full_Rule := full_gen eRule
  have full_string := full_gen eS
  have lset_Rule := lset_gen eRule
  have mkn_Rule := @mknF_Rule
  have nth_Rule := @nthF_Rule
  have own_Rule := own_gen eRule (fun _ => rfl)
  have own_string := own_gen eS (fun _ => rfl)
  have rep_Rule := @repF_Rule
  have rnth_Rule := @rnthF_Rule
  have rset_Rule := @rsetF_Rule
  simp only [Has_s_laws_toRule, ← hp, ← hm_Rule, ← hm_string] at full_Rule full_string lset_Rule mkn_Rule nth_Rule own_Rule own_string rep_Rule rnth_Rule rset_Rule hF_s_laws_toRule
  generalize hal : (fun (F : St → (Ex → St → Option (List Arg)) → Option (List Arg)) lv => aloop F lv fuel) = al
  rw [s_laws_toRuleS, ← hp, ← hm_Rule]
  dsimp only
  conv => lhs; cbv
  rw [mkn_Rule]
  refine cO (fun hx2 => ?_) ?_
  · rw [hx2]; try rfl
  rintro x1 hx2
  rw [hx2]
  conv => lhs; cbv
  rw [rep_Rule _ _ _ hx2]
  conv => lhs; cbv
  refine (loop_al hal (fun x => match x with | (v3, v4) => ⟨[.c (.rd true 247 2 (m_Rule a0)), dd, dd, .c (.row (0, 0, 0) 247 2 0 (p_len (m_Rule v4))), .c (.at (.int .i64 v3)), dd, dd, dd, dd, dd, dd, dd, dd, dd, dd, dd, dd, dd, dd, dd, dd, dd, dd], [((0, 0, 0), ⟨true, false, 247, 2, p_opn (m_Rule v4)⟩)], 1⟩) (s_laws_toRuleS_l1 a0) (fun K g => match g with | (v3, v4) => K (.exit 0) ⟨[.c (.rd true 247 2 (m_Rule a0)), dd, dd, .c (.row (0, 0, 0) 247 2 0 (p_len (m_Rule v4))), .c (.at (.int .i64 v3)), dd, dd, dd, .c (.at (.int .i64 v3)), .c (.rd true 247 2 (m_Rule a0)), .c (.at (.int .i64 (p_int (p_len (m_Rule a0))))), .c (.at (.bool false)), dd, dd, dd, dd, dd, dd, dd, dd, dd, dd, dd], [((0, 0, 0), ⟨true, false, 247, 2, p_opn (m_Rule v4)⟩)], 2⟩) ?_ (0, x1) _ (rfl)).trans (cL ?_)
  · rintro K1 hr1 ⟨v3, v4⟩ R1
    rw [s_laws_toRuleS_l1, ← hp, ← hm_Rule]
    dsimp only
    conv => lhs; cbv
    refine cD (fun hb5 => ?_) fun hb5 => ?_
    · rw [hb5]
      conv => lhs; cbv
      try rfl
    rw [hb5]
    conv => lhs; cbv
    rw [nth_Rule]
    refine cO (fun hx7 => ?_) ?_
    · rw [hx7]; try rfl
    rintro x6 hx7
    rw [hx7]
    conv => lhs; cbv
    rw [hF_s_laws_toRule x6]
    refine cO (fun hx9 => ?_) ?_
    · rw [hx9]; try rfl
    rintro r8 hx9
    rw [hx9]
    conv => lhs; cbv
    refine cO (fun hx11 => ?_) ?_
    · rw [hx11]; try rfl
    rintro x10 hx11
    rw [hx11]
    conv => lhs; cbv
    rw [rnth_Rule]
    refine cO (fun hx13 => ?_) ?_
    · rw [hx13]; try rfl
    rintro x12 hx13
    rw [hx13]
    conv => lhs; cbv
    rw [if_pos (full_string _)]
    conv => lhs; cbv
    rw [own_string]
    conv => lhs; cbv
    rw [if_pos (full_string _)]
    conv => lhs; cbv
    rw [own_string]
    conv => lhs; cbv
    rw [rset_Rule]
    try conv => lhs; rw [← lset_Rule v4 x10 r8]
    conv => lhs; cbv
    try rfl
  rintro ⟨w14, w15⟩
  conv => lhs; cbv
  rw [if_pos (full_Rule _)]
  conv => lhs; cbv
  rw [own_Rule]
  conv => lhs; cbv
  try rfl
end
end Go.Proofs.YtfianjolmcoadaaGreatDoor
