/- The code computes these plain functions. -/
import Derived.Test.YtifkepnfaggkiaaDoorSd
import Derived.Test.YtifkepnfaggkiaaDoorKb
namespace Go.Proofs.YtifkepnfaggkiaaDoor
open Go.RowKit
set_option linter.unusedVariables false
set_option linter.unusedSimpArgs false
set_option maxRecDepth 100000
noncomputable section
set_option maxHeartbeats 40000000

theorem e_s_slices_Clone_string (F : Fns) : Hs_s_slices_Clone_string (EvF F Tryd.f28 (lf [])) := by
  intro a0
  unfold EvF
  obtain ⟨p, hp⟩ := gn prims
  obtain ⟨m_string, hm_string⟩ := gn (List.map eS)
  rw [← hp, ← hm_string]
  obtain ⟨_, _, _, _, _, _, _, _, _, _, _, _, _, _, _, p_len, _, _, _, _, _, _, _, p_rapp, p_rlen, p_addN, p_full, p_fits, _, p_own, p_opn, p_lend, _, _, p_both, _⟩ := p
  have h_both : @p_both = @Prims.both prims := congrArg (fun q : Prims => @Prims.both q) hp
  have addn0_string := @addn0F_string
  have fits0_string := @fits0F_string
  have full_string := full_gen eS
  have lend_string := @lendF_string
  have leni_string := @leniF_string
  have nild_string := @nildF_string
  have own_string := own_gen eS (fun _ => rfl)
  have rapp0_string := @rapp0F_string
  simp only [← hp, ← hm_string] at addn0_string fits0_string full_string lend_string nild_string own_string rapp0_string
  simp only [← hp, ← hm_string] at leni_string
  rw [s_slices_Clone_string, ← hp, ← hm_string]
  dsimp only
  conv => lhs; cbv
  rw [h_both]
  refine bothO_eq ?_ (fun h0 => ?_)
  · conv => lhs; cbv
    rw [lend_string]
    conv => lhs; cbv
    refine cD (fun hb1 => ?_) fun hb1 => ?_
    · rw [if_neg (fun x => Bool.noConfusion (hb1.symm.trans x.1))]; try rfl
    rw [if_pos ⟨hb1, trivial⟩]
    conv => lhs; cbv
    rw [rapp0_string, addn0_string]
    conv => lhs; cbv
    rw [if_pos (full_string _)]
    conv => lhs; cbv
    rw [own_string]
    conv => lhs; cbv
    try rfl
  · obtain rfl := leni_string _ h0
    rw [fits0_string]
    simp only [cond_true, Option.bind_some, nild_string]
theorem e_s_spec_FormatInt (F : Fns) : Hs_s_spec_FormatInt (EvF F Tryd.f16 (lf [(5, [0, 3, 4]), (1048576, [0, 0, 3])])) := by
  intro a0
  unfold EvF
  obtain ⟨p, hp⟩ := gn prims
  obtain ⟨m_byte, hm_byte⟩ := gn (List.map eY)
  rw [← hp]
  obtain ⟨p_arith, p_cmp, p_wrap, _, p_scat, p_catOk, _, _, _, _, p_str, _, _, _, _, _, _, _, _, _, _, _, _, _, _, _, _, _, _, _, _, _, _, _, _, p_yI, p_ofB, p_byW, _⟩ := p
  have mcons_byte := @mconsF_byte
  have nild_byte := @nildF_byte
  have str_byte := @strF_byte
  have wy_byte := @wyF_byte
  simp only [← hp, ← hm_byte] at mcons_byte nild_byte str_byte wy_byte
  generalize hal : alp = al
  rw [s_spec_FormatInt, ← hp]
  dsimp only
  conv => lhs; cbv
  refine cC (fun hb1 => ?_) fun hb1 => ?_
  · rw [hb1]
    conv => lhs; cbv
    try rfl
  rw [hb1]
  conv => lhs; cbv
  refine (loop_al hal (fun x => match x with | (v2, v3) => ⟨[.c (.at (.int .i64 a0)), dd, dd, .c (.at (.string v2)), .c (.at (.int .i64 v3)), dd, dd, dd, dd, dd, dd, dd, dd, dd, dd, dd, dd, dd, dd, dd, dd, dd, dd, dd, dd, dd, dd, dd, dd, dd, dd], [], 1⟩) (s_spec_FormatInt_l1) (fun K g => match g with | (v2, v3) => K (.exit 0) ⟨[.c (.at (.int .i64 a0)), dd, dd, .c (.at (.string v2)), dd, dd, dd, dd, dd, dd, dd, dd, dd, dd, dd, dd, dd, dd, dd, dd, dd, dd, dd, dd, dd, dd, dd, dd, dd, dd, dd], [], 1⟩) ?_ ((ByteArray.mk (Array.mk [])), a0) _ (rfl)).trans (cL ?_)
  · rintro K1 hr1 ⟨v2, v3⟩ R1
    rw [s_spec_FormatInt_l1, ← hp]
    dsimp only
    conv => lhs; cbv
    refine cD (fun hb4 => ?_) fun hb4 => ?_
    · rw [hb4]
      conv => lhs; cbv
      try rfl
    rw [hb4]
    conv => lhs; cbv
    refine cC (fun hb5 => ?_) fun hb5 => ?_
    · rw [if_pos hb5]
      try rw [hb5]
      conv => lhs; cbv
      try rfl
    rw [if_neg (Bool.eq_false_iff.1 hb5)]
    try rw [hb5]
    conv => lhs; cbv
    refine cC (fun hb6 => ?_) fun hb6 => ?_
    · rw [hb6]
      conv => lhs; cbv
      rw [wy_byte]
      conv => lhs; cbv
      rw [← (show (m_byte [(p_byW (p_arith .add .i64 48 (p_arith .sub .i64 0 (p_arith .rem .i64 v3 10))))]) = [[DT.at (.int .u8 (p_yI (p_byW (p_arith .add .i64 48 (p_arith .sub .i64 0 (p_arith .rem .i64 v3 10))))))]] by rw [mcons_byte, nild_byte])]
      rw [str_byte]
      conv => lhs; cbv
      refine cD (fun hb7 => ?_) fun hb7 => ?_
      · rw [if_neg (Bool.eq_false_iff.1 hb7)]
        try rw [hb7]
        conv => lhs; cbv
        try rfl
      rw [if_pos hb7]
      try rw [hb7]
      conv => lhs; cbv
      rw [if_neg (Bool.eq_false_iff.1 hb5)]
      conv => lhs; cbv
      try rfl
    rw [hb6]
    conv => lhs; cbv
    rw [wy_byte]
    conv => lhs; cbv
    rw [← (show (m_byte [(p_byW (p_arith .add .i64 48 (p_arith .rem .i64 v3 10)))]) = [[DT.at (.int .u8 (p_yI (p_byW (p_arith .add .i64 48 (p_arith .rem .i64 v3 10)))))]] by rw [mcons_byte, nild_byte])]
    rw [str_byte]
    conv => lhs; cbv
    refine cD (fun hb8 => ?_) fun hb8 => ?_
    · rw [if_neg (Bool.eq_false_iff.1 hb8)]
      try rw [hb8]
      conv => lhs; cbv
      try rfl
    rw [if_pos hb8]
    try rw [hb8]
    conv => lhs; cbv
    rw [if_neg (Bool.eq_false_iff.1 hb5)]
    conv => lhs; cbv
    try rfl
  rintro ⟨w9, w10⟩
  conv => lhs; cbv
  refine cD (fun hb11 => ?_) fun hb11 => ?_
  · rw [hb11]
    conv => lhs; cbv
    try rfl
  rw [hb11]
  conv => lhs; cbv
  refine cC (fun hb12 => ?_) fun hb12 => ?_
  · rw [if_pos hb12]
    try rw [hb12]
    conv => lhs; cbv
    try rfl
  rw [if_neg (Bool.eq_false_iff.1 hb12)]
  try rw [hb12]
  conv => lhs; cbv
  try rfl
end
end Go.Proofs.YtifkepnfaggkiaaDoor
