import Derived.Test.YteebeeoimghmhaaGreatDoorSd
namespace Go.Proofs.YteebeeoimghmhaaGreatDoor
open Go.RowKit
set_option linter.unusedVariables false
set_option linter.unusedSimpArgs false
set_option maxRecDepth 100000
noncomputable section
set_option maxHeartbeats 40000000
theorem eSMissingFrom (F : Fns) (fSNewerThan : HSNewerThan (F 82)) : HSMissingFrom (EvF F Tryz.f43 (fun _ => [])) := by
 intro a0 a1
 unfold EvF
 obtain ⟨p, hp⟩ := gn prims
 obtain ⟨m_Publication, hm_Publication⟩ := gn (List.map ePublication)
 obtain ⟨m_TableEntry, hm_TableEntry⟩ := gn (List.map eTableEntry)
 obtain ⟨m_string, hm_string⟩ := gn (List.map eS)
 rw [← hp, ← hm_Publication, ← hm_TableEntry, ← hm_string]
 obtain ⟨_, _, _, _, _, _, _, _, _, _, _, _, _, _, _, p_len, _, _, _, _, _, _, _, _, _, _, p_full, _, _, p_own, p_opn, _⟩ := p
 have full_TableEntry := full_gen eTableEntry
 have own_TableEntry := own_gen eTableEntry (fun _ => rfl)
 simp only [HSNewerThan, ← hp, ← hm_TableEntry] at full_TableEntry own_TableEntry fSNewerThan
 rw [sSMissingFrom]
 conv => lhs; cbv
 rw [fSNewerThan a1 a0.vector]
 refine cO (fun hx2 => ?_) ?_
 ·rw [hx2]; try rfl
 rintro r1 hx2
 rw [hx2]
 conv => lhs; cbv
 rw [if_pos (full_TableEntry _)]
 conv => lhs; cbv
 rw [own_TableEntry]
 conv => lhs; cbv
 try rfl
theorem eSFindPublication (F : Fns) (fSl28Find : HSl28Find (F 79)) : HSFindPublication (EvF F Tryz.f44 (fun _ => [])) := by
 intro a0 a1 a2
 unfold EvF
 obtain ⟨p, hp⟩ := gn prims
 obtain ⟨m_Publication, hm_Publication⟩ := gn (List.map ePublication)
 obtain ⟨m_TableEntry, hm_TableEntry⟩ := gn (List.map eTableEntry)
 obtain ⟨m_byte, hm_byte⟩ := gn (List.map eY)
 obtain ⟨m_string, hm_string⟩ := gn (List.map eS)
 rw [← hp, ← hm_Publication, ← hm_TableEntry, ← hm_byte, ← hm_string]
 obtain ⟨_, p_cmp, _, _, _, _, _, _, _, _, _, _, _, _, _, p_len, _, p_nth, _, _, _, _, _, p_rapp, p_rlen, p_addN, p_full, p_fits, _, p_own, p_opn, p_lend, _, _, _, p_yI, _⟩ := p
 have addn0_byte := @addn0F_byte
 have full_byte := full_gen eY
 have lend_byte := @lendF_byte
 have mcons_byte := @mconsF_byte
 have nild_byte := @nildF_byte
 have nth_Publication := @nthF_Publication
 have own_byte := own_gen eY (fun _ => rfl)
 have rapp0_byte := @rapp0F_byte
 simp only [HSl28Find, ← hp, ← hm_byte, ← hm_Publication, ← hm_string] at addn0_byte full_byte lend_byte mcons_byte nild_byte nth_Publication own_byte rapp0_byte fSl28Find
 rw [sSFindPublication, ← hp, ← hm_byte]
 dsimp only
 conv => lhs; cbv
 rw [fSl28Find a0.publications a1 a2]
 refine cO (fun hx2 => ?_) ?_
 ·rw [hx2]; try rfl
 rintro r1 hx2
 rw [hx2]
 conv => lhs; cbv
 refine cC (fun hb3 => ?_) fun hb3 => ?_
 ·rw [hb3]
  conv => lhs; cbv
  first | done | rfl | (simp only [Option.bind_some, mcons_byte, nild_byte]; try rfl)
 rw [hb3]
 conv => lhs; cbv
 rw [nth_Publication]
 refine cO (fun hx5 => ?_) ?_
 ·rw [hx5]; try rfl
 rintro x4 hx5
 rw [hx5]
 conv => lhs; cbv
 rw [lend_byte]
 conv => lhs; cbv
 refine cD (fun hb6 => ?_) fun hb6 => ?_
 ·rw [if_neg (fun x => Bool.noConfusion (hb6.symm.trans x.1))]; try rfl
 rw [if_pos ⟨hb6, trivial⟩]
 conv => lhs; cbv
 rw [rapp0_byte, addn0_byte]
 conv => lhs; cbv
 rw [if_pos (full_byte _)]
 conv => lhs; cbv
 rw [own_byte]
 conv => lhs; cbv
 try rfl
theorem eSPutEntry (F : Fns) (fSl6Copy : HSl6Copy (F 72)) (fSl6Find : HSl6Find (F 116)) (fSValidTable : HSValidTable (F 113)) (fSCompareNames : HSCompareNames (F 80)) (fSl4Copy : HSl4Copy (F 71)) : HSPutEntry (EvF F Tryz.f83 (fun id => if id = 6 then [0, 2, 4, 8, 9] else [])) := by
 intro a0 a1 a2
 unfold EvF
 obtain ⟨p, hp⟩ := gn prims
 obtain ⟨m_TableEntry, hm_TableEntry⟩ := gn (List.map eTableEntry)
 obtain ⟨m_string, hm_string⟩ := gn (List.map eS)
 rw [← hp, ← hm_TableEntry, ← hm_string]
 obtain ⟨p_arith, p_cmp, _, _, _, _, _, _, _, _, _, p_bnot, _, _, _, p_len, p_int, _, _, p_rsub, p_ridx, p_rnth, p_rset, p_rapp, p_rlen, p_addN, p_full, p_fits, p_frz, p_own, p_opn, _, p_rmov, p_rout, p_both, _⟩ := p
 have h_both : @p_both = @Prims.both prims := congrArg (fun q : Prims => @Prims.both q) hp
 have addn_TableEntry := addn_gen eTableEntry
 have addn0_TableEntry := @addn0F_TableEntry
 have frz_TableEntry := frz_gen eTableEntry (fun _ => rfl)
 have full_TableEntry := full_gen eTableEntry
 have full_string := full_gen eS
 have lit_TableEntry := @litF_TableEntry
 have lset_TableEntry := lset_gen eTableEntry
 have own_TableEntry := own_gen eTableEntry (fun _ => rfl)
 have own_string := own_gen eS (fun _ => rfl)
 have rapp_TableEntry := rapp_gen eTableEntry
 have rapp0_TableEntry := @rapp0F_TableEntry
 have rmovr_TableEntry := @rmovrF_TableEntry
 have rmovs_TableEntry := @rmovsF_TableEntry
 have rnth_TableEntry := @rnthF_TableEntry
 have rset_TableEntry := @rsetF_TableEntry
 simp only [HSl6Copy, HSl6Find, HSValidTable, HSCompareNames, HSl4Copy, ← hp, ← hm_TableEntry, ← hm_string] at addn_TableEntry addn0_TableEntry frz_TableEntry full_TableEntry full_string lit_TableEntry lset_TableEntry own_TableEntry own_string rapp_TableEntry rapp0_TableEntry rmovr_TableEntry rmovs_TableEntry rnth_TableEntry rset_TableEntry fSl6Copy fSl6Find fSValidTable fSCompareNames fSl4Copy
 generalize hal : alp = al
 rw [sSPutEntry, ← hp, ← hm_TableEntry]
 dsimp only
 conv => lhs; cbv
 rw [fSl6Copy a0]
 refine cO (fun hx2 => ?_) ?_
 ·rw [hx2]; try rfl
 rintro r1 hx2
 rw [hx2]
 conv => lhs; cbv
 rw [fSl6Find a0 a1]
 refine cO (fun hx4 => ?_) ?_
 ·rw [hx4]; try rfl
 rintro r3 hx4
 rw [hx4]
 conv => lhs; cbv
 refine cC (fun hb5 => ?_) fun hb5 => ?_
 ·rw [hb5]
  conv => lhs; cbv
  refine cO (fun hx7 => ?_) ?_
  ·rw [hx7]; try rfl
  rintro x6 hx7
  rw [hx7]
  conv => lhs; cbv
  rw [rnth_TableEntry]
  refine cO (fun hx9 => ?_) ?_
  ·rw [hx9]; try rfl
  rintro x8 hx9
  rw [hx9]
  conv => lhs; cbv
  rw [rset_TableEntry]
  try conv => lhs; rw [← lset_TableEntry r1 x6 (⟨x8.name, a2⟩ : DTableEntry)]
  conv => lhs; cbv
  rw [frz_TableEntry]
  conv => lhs; cbv
  have hc := fSValidTable (r1.set x6 (⟨x8.name, a2⟩ : DTableEntry))
  try dsimp only at hc
  rw [hc]
  clear hc
  refine cO (fun hx11 => ?_) ?_
  ·rw [hx11]; try rfl
  rintro r10 hx11
  rw [hx11]
  conv => lhs; cbv
  refine cD (fun hb12 => ?_) fun hb12 => ?_
  ·rw [hb12]
   conv => lhs; cbv
   rw [if_pos (full_TableEntry _)]
   conv => lhs; cbv
   rw [own_TableEntry]
   conv => lhs; cbv
   try rfl
  rw [hb12]
  conv => lhs; cbv
  rw [fSl6Copy a0]
  rw [hx2]
  conv => lhs; cbv
  rw [if_pos (full_TableEntry _)]
  conv => lhs; cbv
  rw [own_TableEntry]
  conv => lhs; cbv
  try rfl
 rw [hb5]
 conv => lhs; cbv
 refine (loop_al hal (fun v14 => ⟨[.c (.rd true 89 2 (m_TableEntry a0)), dd, .c (.at (.int .i64 a2)), dd, .c (.ptr (0, 0, 0) 1 0 0), dd, dd, dd, .c (.row (0, 0, 1) 89 2 0 (p_len (m_TableEntry r1))), .c (.at (.int .i64 v14)), dd, dd, dd, dd, dd, dd, dd, dd, dd, dd, dd, dd, dd, dd, dd, dd, dd, dd, dd, dd, dd, dd, dd, dd, dd, dd, dd, dd, dd, dd, dd, dd, dd, dd, dd, dd, dd, dd, dd, dd, dd, dd, dd, dd, dd, dd, dd, dd, dd, dd, dd], [((0, 0, 0), ⟨false, true, 55, 1, [[.rd true 9 1 (m_string a1)]]⟩), ((0, 0, 1), ⟨true, false, 89, 2, p_opn (m_TableEntry r1)⟩)], 1⟩) (sSPutEntry_l1 a1 r1) (fun K g => match g with | .inl (v14, x16, x18, r20) => K (.exit 0) ⟨[.c (.rd true 89 2 (m_TableEntry a0)), dd, .c (.at (.int .i64 a2)), dd, .c (.ptr (0, 0, 0) 1 0 0), dd, dd, dd, .c (.row (0, 0, 1) 89 2 0 (p_len (m_TableEntry r1))), .c (.at (.int .i64 v14)), dd, dd, dd, dd, dd, dd, dd, dd, dd, dd, dd, dd, dd, .c (.at (.int .i64 v14)), .c (.row (0, 0, 1) 89 2 0 (p_len (m_TableEntry r1))), .c (.at (.int .i64 (p_int (p_len (m_TableEntry r1))))), .c (.at (.bool true)), .c (.at (.bool true)), .c (.row (0, 0, 1) 89 2 0 (p_len (m_TableEntry r1))), .c (.at (.int .i64 v14)), .c (.ptr (0, 0, 1) 2 x16 0), .c (.ptr (0, 0, 1) 2 x16 0), .agg [.rd false 9 1 (m_string x18.name)], .agg [.rd true 9 1 (m_string a1)], .c (.at (.int .i64 r20)), .c (.at (.bool false)), .c (.at (.bool false)), dd, dd, dd, dd, dd, dd, dd, dd, dd, dd, dd, dd, dd, dd, dd, dd, dd, dd, dd, dd, dd, dd, dd, dd], [((0, 0, 0), ⟨false, true, 55, 1, [[.rd true 9 1 (m_string a1)]]⟩), ((0, 0, 1), ⟨true, false, 89, 2, p_opn (m_TableEntry r1)⟩)], 2⟩ | .inr (v14) => K (.exit 0) ⟨[.c (.rd true 89 2 (m_TableEntry a0)), dd, .c (.at (.int .i64 a2)), dd, .c (.ptr (0, 0, 0) 1 0 0), dd, dd, dd, .c (.row (0, 0, 1) 89 2 0 (p_len (m_TableEntry r1))), .c (.at (.int .i64 v14)), dd, dd, dd, dd, dd, dd, dd, dd, dd, dd, dd, dd, dd, .c (.at (.int .i64 v14)), .c (.row (0, 0, 1) 89 2 0 (p_len (m_TableEntry r1))), .c (.at (.int .i64 (p_int (p_len (m_TableEntry r1))))), .c (.at (.bool false)), .c (.at (.bool false)), .c (.at undef), .c (.at undef), .c (.at undef), .c (.at undef), .c (.at undef), .c (.at undef), .c (.at undef), .c (.at undef), .c (.at (.bool false)), dd, dd, dd, dd, dd, dd, dd, dd, dd, dd, dd, dd, dd, dd, dd, dd, dd, dd, dd, dd, dd, dd, dd, dd], [((0, 0, 0), ⟨false, true, 55, 1, [[.rd true 9 1 (m_string a1)]]⟩), ((0, 0, 1), ⟨true, false, 89, 2, p_opn (m_TableEntry r1)⟩)], 2⟩) ?_ 0 _ (rfl)).trans (cL ?_)
 ·rintro K1 hr1 v14 R1
  rw [sSPutEntry_l1, ← hp, ← hm_TableEntry]
  dsimp only
  conv => lhs; cbv
  refine cD (fun hb15 => ?_) fun hb15 => ?_
  ·rw [hb15]
   conv => lhs; cbv
   try rfl
  rw [hb15]
  conv => lhs; cbv
  refine cO (fun hx17 => ?_) ?_
  ·rw [hx17]; try rfl
  rintro x16 hx17
  rw [hx17]
  conv => lhs; cbv
  rw [rnth_TableEntry]
  refine cO (fun hx19 => ?_) ?_
  ·rw [hx19]; try rfl
  rintro x18 hx19
  rw [hx19]
  conv => lhs; cbv
  rw [fSCompareNames x18.name a1]
  refine cO (fun hx21 => ?_) ?_
  ·rw [hx21]; try rfl
  rintro r20 hx21
  rw [hx21]
  conv => lhs; cbv
  refine cC (fun hb22 => ?_) fun hb22 => ?_
  ·rw [hb22]
   conv => lhs; cbv
   try rfl
  rw [hb22]
  conv => lhs; cbv
  try rfl
 rintro (⟨w23, w24, w25, w26⟩ | w66)
 ·conv => lhs; cbv
  rw [fSl4Copy a1]
  refine cO (fun hx28 => ?_) ?_
  ·rw [hx28]; try rfl
  rintro r27 hx28
  rw [hx28]
  conv => lhs; cbv
  refine cO (fun hx30 => ?_) ?_
  ·rw [hx30]; try rfl
  rintro ⟨x29a, x29b⟩ hx30
  rw [hx30]
  conv => lhs; cbv
  refine cO (fun hx32 => ?_) ?_
  ·rw [hx32]; try rfl
  rintro ⟨x31a, x31b⟩ hx32
  rw [hx32]
  conv => lhs; cbv
  refine cFk h_both ?_ ?_
  ·conv => lhs; cbv
   refine cFk h_both ?_ ?_
   ·conv => lhs; cbv
    rw [rmovs_TableEntry]
    refine cO (fun hx34 => ?_) ?_
    ·rw [hx34]; try rfl
    rintro x33 hx34
    rw [hx34]
    conv => lhs; cbv
    refine cD (fun hb35 => ?_) fun hb35 => ?_
    ·rw [if_neg (fun x => Bool.noConfusion (hb35.symm.trans x.1))]; try rfl
    rw [if_pos ⟨hb35, trivial⟩]
    conv => lhs; cbv
    rw [rapp0_TableEntry, addn0_TableEntry]
    conv => lhs; cbv
    rw [if_pos (full_string _)]
    conv => lhs; cbv
    rw [own_string]
    conv => lhs; cbv
    rw [lit_TableEntry]
    refine cD (fun hb36 => ?_) fun hb36 => ?_
    ·rw [if_neg (fun x => Bool.noConfusion (hb36.symm.trans x.2.1))]; try rfl
    rw [if_pos ⟨full_TableEntry _, hb36, trivial⟩]
    conv => lhs; cbv
    rw [rapp_TableEntry, addn_TableEntry]
    conv => lhs; cbv
    rw [rmovr_TableEntry _ _ _ _ _ _ hx34]
    refine cO (fun hx38 => ?_) ?_
    ·rw [hx38]; try rfl
    rintro x37 hx38
    rw [hx38]
    conv => lhs; cbv
    refine cD (fun hb39 => ?_) fun hb39 => ?_
    ·rw [if_neg (fun x => Bool.noConfusion (hb39.symm.trans x.2.1))]; try rfl
    rw [if_pos ⟨full_TableEntry _, hb39, trivial⟩]
    conv => lhs; cbv
    rw [rapp_TableEntry, addn_TableEntry]
    conv => lhs; cbv
    rw [frz_TableEntry]
    conv => lhs; cbv
    have hc := fSValidTable ((x33 ++ [(⟨r27, a2⟩ : DTableEntry)]) ++ x37)
    try dsimp only at hc
    rw [hc]
    clear hc
    refine cO (fun hx41 => ?_) ?_
    ·rw [hx41]; try rfl
    rintro r40 hx41
    rw [hx41]
    conv => lhs; cbv
    refine cD (fun hb42 => ?_) fun hb42 => ?_
    ·rw [hb42]
     conv => lhs; cbv
     rw [if_pos (full_TableEntry _)]
     conv => lhs; cbv
     rw [own_TableEntry]
     conv => lhs; cbv
     try rfl
    rw [hb42]
    conv => lhs; cbv
    rw [fSl6Copy a0]
    rw [hx2]
    conv => lhs; cbv
    rw [if_pos (full_TableEntry _)]
    conv => lhs; cbv
    rw [own_TableEntry]
    conv => lhs; cbv
    try rfl
   ·conv => lhs; cbv
    rw [rmovs_TableEntry]
    refine cO (fun hx45 => ?_) ?_
    ·rw [hx45]; try rfl
    rintro x44 hx45
    rw [hx45]
    conv => lhs; cbv
    refine cD (fun hb46 => ?_) fun hb46 => ?_
    ·rw [if_neg (fun x => Bool.noConfusion (hb46.symm.trans x.1))]; try rfl
    rw [if_pos ⟨hb46, trivial⟩]
    conv => lhs; cbv
    rw [rapp0_TableEntry, addn0_TableEntry]
    conv => lhs; cbv
    rw [if_pos (full_string _)]
    conv => lhs; cbv
    rw [own_string]
    conv => lhs; cbv
    rw [lit_TableEntry]
    refine cD (fun hb47 => ?_) fun hb47 => ?_
    ·rw [if_neg (fun x => Bool.noConfusion (hb47.symm.trans x.2.1))]; try rfl
    rw [if_pos ⟨full_TableEntry _, hb47, trivial⟩]
    conv => lhs; cbv
    rw [rapp_TableEntry, addn_TableEntry]
    conv => lhs; cbv
    rw [rmovr_TableEntry _ _ _ _ _ _ hx45]
    refine cO (fun hx49 => ?_) ?_
    ·rw [hx49]; try rfl
    rintro x48 hx49
    rw [hx49]
    conv => lhs; cbv
    refine cD (fun hb50 => ?_) fun hb50 => ?_
    ·rw [if_neg (fun x => Bool.noConfusion (hb50.symm.trans x.2.1))]; try rfl
    rw [if_pos ⟨full_TableEntry _, hb50, trivial⟩]
    conv => lhs; cbv
    rw [rapp_TableEntry, addn_TableEntry]
    conv => lhs; cbv
    rw [frz_TableEntry]
    conv => lhs; cbv
    have hc := fSValidTable ((x44 ++ [(⟨r27, a2⟩ : DTableEntry)]) ++ x48)
    try dsimp only at hc
    rw [hc]
    clear hc
    refine cO (fun hx52 => ?_) ?_
    ·rw [hx52]; try rfl
    rintro r51 hx52
    rw [hx52]
    conv => lhs; cbv
    refine cD (fun hb53 => ?_) fun hb53 => ?_
    ·rw [hb53]
     conv => lhs; cbv
     rw [if_pos (full_TableEntry _)]
     conv => lhs; cbv
     rw [own_TableEntry]
     conv => lhs; cbv
     try rfl
    rw [hb53]
    conv => lhs; cbv
    rw [fSl6Copy a0]
    rw [hx2]
    conv => lhs; cbv
    rw [if_pos (full_TableEntry _)]
    conv => lhs; cbv
    rw [own_TableEntry]
    conv => lhs; cbv
    try rfl
  ·conv => lhs; cbv
   rw [rmovs_TableEntry]
   refine cO (fun hx56 => ?_) ?_
   ·rw [hx56]; try rfl
   rintro x55 hx56
   rw [hx56]
   conv => lhs; cbv
   refine cD (fun hb57 => ?_) fun hb57 => ?_
   ·rw [if_neg (fun x => Bool.noConfusion (hb57.symm.trans x.1))]; try rfl
   rw [if_pos ⟨hb57, trivial⟩]
   conv => lhs; cbv
   rw [rapp0_TableEntry, addn0_TableEntry]
   conv => lhs; cbv
   rw [if_pos (full_string _)]
   conv => lhs; cbv
   rw [own_string]
   conv => lhs; cbv
   rw [lit_TableEntry]
   refine cD (fun hb58 => ?_) fun hb58 => ?_
   ·rw [if_neg (fun x => Bool.noConfusion (hb58.symm.trans x.2.1))]; try rfl
   rw [if_pos ⟨full_TableEntry _, hb58, trivial⟩]
   conv => lhs; cbv
   rw [rapp_TableEntry, addn_TableEntry]
   conv => lhs; cbv
   rw [rmovr_TableEntry _ _ _ _ _ _ hx56]
   refine cO (fun hx60 => ?_) ?_
   ·rw [hx60]; try rfl
   rintro x59 hx60
   rw [hx60]
   conv => lhs; cbv
   refine cD (fun hb61 => ?_) fun hb61 => ?_
   ·rw [if_neg (fun x => Bool.noConfusion (hb61.symm.trans x.2.1))]; try rfl
   rw [if_pos ⟨full_TableEntry _, hb61, trivial⟩]
   conv => lhs; cbv
   rw [rapp_TableEntry, addn_TableEntry]
   conv => lhs; cbv
   rw [frz_TableEntry]
   conv => lhs; cbv
   have hc := fSValidTable ((x55 ++ [(⟨r27, a2⟩ : DTableEntry)]) ++ x59)
   try dsimp only at hc
   rw [hc]
   clear hc
   refine cO (fun hx63 => ?_) ?_
   ·rw [hx63]; try rfl
   rintro r62 hx63
   rw [hx63]
   conv => lhs; cbv
   refine cD (fun hb64 => ?_) fun hb64 => ?_
   ·rw [hb64]
    conv => lhs; cbv
    rw [if_pos (full_TableEntry _)]
    conv => lhs; cbv
    rw [own_TableEntry]
    conv => lhs; cbv
    try rfl
   rw [hb64]
   conv => lhs; cbv
   rw [fSl6Copy a0]
   rw [hx2]
   conv => lhs; cbv
   rw [if_pos (full_TableEntry _)]
   conv => lhs; cbv
   rw [own_TableEntry]
   conv => lhs; cbv
   try rfl
 conv => lhs; cbv
 rw [fSl4Copy a1]
 refine cO (fun hx68 => ?_) ?_
 ·rw [hx68]; try rfl
 rintro r67 hx68
 rw [hx68]
 conv => lhs; cbv
 refine cO (fun hx70 => ?_) ?_
 ·rw [hx70]; try rfl
 rintro ⟨x69a, x69b⟩ hx70
 rw [hx70]
 conv => lhs; cbv
 refine cO (fun hx72 => ?_) ?_
 ·rw [hx72]; try rfl
 rintro ⟨x71a, x71b⟩ hx72
 rw [hx72]
 conv => lhs; cbv
 refine cFk h_both ?_ ?_
 ·conv => lhs; cbv
  refine cFk h_both ?_ ?_
  ·conv => lhs; cbv
   rw [rmovs_TableEntry]
   refine cO (fun hx74 => ?_) ?_
   ·rw [hx74]; try rfl
   rintro x73 hx74
   rw [hx74]
   conv => lhs; cbv
   refine cD (fun hb75 => ?_) fun hb75 => ?_
   ·rw [if_neg (fun x => Bool.noConfusion (hb75.symm.trans x.1))]; try rfl
   rw [if_pos ⟨hb75, trivial⟩]
   conv => lhs; cbv
   rw [rapp0_TableEntry, addn0_TableEntry]
   conv => lhs; cbv
   rw [if_pos (full_string _)]
   conv => lhs; cbv
   rw [own_string]
   conv => lhs; cbv
   rw [lit_TableEntry]
   refine cD (fun hb76 => ?_) fun hb76 => ?_
   ·rw [if_neg (fun x => Bool.noConfusion (hb76.symm.trans x.2.1))]; try rfl
   rw [if_pos ⟨full_TableEntry _, hb76, trivial⟩]
   conv => lhs; cbv
   rw [rapp_TableEntry, addn_TableEntry]
   conv => lhs; cbv
   rw [rmovr_TableEntry _ _ _ _ _ _ hx74]
   refine cO (fun hx78 => ?_) ?_
   ·rw [hx78]; try rfl
   rintro x77 hx78
   rw [hx78]
   conv => lhs; cbv
   refine cD (fun hb79 => ?_) fun hb79 => ?_
   ·rw [if_neg (fun x => Bool.noConfusion (hb79.symm.trans x.2.1))]; try rfl
   rw [if_pos ⟨full_TableEntry _, hb79, trivial⟩]
   conv => lhs; cbv
   rw [rapp_TableEntry, addn_TableEntry]
   conv => lhs; cbv
   rw [frz_TableEntry]
   conv => lhs; cbv
   have hc := fSValidTable ((x73 ++ [(⟨r67, a2⟩ : DTableEntry)]) ++ x77)
   try dsimp only at hc
   rw [hc]
   clear hc
   refine cO (fun hx81 => ?_) ?_
   ·rw [hx81]; try rfl
   rintro r80 hx81
   rw [hx81]
   conv => lhs; cbv
   refine cD (fun hb82 => ?_) fun hb82 => ?_
   ·rw [hb82]
    conv => lhs; cbv
    rw [if_pos (full_TableEntry _)]
    conv => lhs; cbv
    rw [own_TableEntry]
    conv => lhs; cbv
    try rfl
   rw [hb82]
   conv => lhs; cbv
   rw [fSl6Copy a0]
   rw [hx2]
   conv => lhs; cbv
   rw [if_pos (full_TableEntry _)]
   conv => lhs; cbv
   rw [own_TableEntry]
   conv => lhs; cbv
   try rfl
  ·conv => lhs; cbv
   rw [rmovs_TableEntry]
   refine cO (fun hx85 => ?_) ?_
   ·rw [hx85]; try rfl
   rintro x84 hx85
   rw [hx85]
   conv => lhs; cbv
   refine cD (fun hb86 => ?_) fun hb86 => ?_
   ·rw [if_neg (fun x => Bool.noConfusion (hb86.symm.trans x.1))]; try rfl
   rw [if_pos ⟨hb86, trivial⟩]
   conv => lhs; cbv
   rw [rapp0_TableEntry, addn0_TableEntry]
   conv => lhs; cbv
   rw [if_pos (full_string _)]
   conv => lhs; cbv
   rw [own_string]
   conv => lhs; cbv
   rw [lit_TableEntry]
   refine cD (fun hb87 => ?_) fun hb87 => ?_
   ·rw [if_neg (fun x => Bool.noConfusion (hb87.symm.trans x.2.1))]; try rfl
   rw [if_pos ⟨full_TableEntry _, hb87, trivial⟩]
   conv => lhs; cbv
   rw [rapp_TableEntry, addn_TableEntry]
   conv => lhs; cbv
   rw [rmovr_TableEntry _ _ _ _ _ _ hx85]
   refine cO (fun hx89 => ?_) ?_
   ·rw [hx89]; try rfl
   rintro x88 hx89
   rw [hx89]
   conv => lhs; cbv
   refine cD (fun hb90 => ?_) fun hb90 => ?_
   ·rw [if_neg (fun x => Bool.noConfusion (hb90.symm.trans x.2.1))]; try rfl
   rw [if_pos ⟨full_TableEntry _, hb90, trivial⟩]
   conv => lhs; cbv
   rw [rapp_TableEntry, addn_TableEntry]
   conv => lhs; cbv
   rw [frz_TableEntry]
   conv => lhs; cbv
   have hc := fSValidTable ((x84 ++ [(⟨r67, a2⟩ : DTableEntry)]) ++ x88)
   try dsimp only at hc
   rw [hc]
   clear hc
   refine cO (fun hx92 => ?_) ?_
   ·rw [hx92]; try rfl
   rintro r91 hx92
   rw [hx92]
   conv => lhs; cbv
   refine cD (fun hb93 => ?_) fun hb93 => ?_
   ·rw [hb93]
    conv => lhs; cbv
    rw [if_pos (full_TableEntry _)]
    conv => lhs; cbv
    rw [own_TableEntry]
    conv => lhs; cbv
    try rfl
   rw [hb93]
   conv => lhs; cbv
   rw [fSl6Copy a0]
   rw [hx2]
   conv => lhs; cbv
   rw [if_pos (full_TableEntry _)]
   conv => lhs; cbv
   rw [own_TableEntry]
   conv => lhs; cbv
   try rfl
 ·conv => lhs; cbv
  rw [rmovs_TableEntry]
  refine cO (fun hx96 => ?_) ?_
  ·rw [hx96]; try rfl
  rintro x95 hx96
  rw [hx96]
  conv => lhs; cbv
  refine cD (fun hb97 => ?_) fun hb97 => ?_
  ·rw [if_neg (fun x => Bool.noConfusion (hb97.symm.trans x.1))]; try rfl
  rw [if_pos ⟨hb97, trivial⟩]
  conv => lhs; cbv
  rw [rapp0_TableEntry, addn0_TableEntry]
  conv => lhs; cbv
  rw [if_pos (full_string _)]
  conv => lhs; cbv
  rw [own_string]
  conv => lhs; cbv
  rw [lit_TableEntry]
  refine cD (fun hb98 => ?_) fun hb98 => ?_
  ·rw [if_neg (fun x => Bool.noConfusion (hb98.symm.trans x.2.1))]; try rfl
  rw [if_pos ⟨full_TableEntry _, hb98, trivial⟩]
  conv => lhs; cbv
  rw [rapp_TableEntry, addn_TableEntry]
  conv => lhs; cbv
  rw [rmovr_TableEntry _ _ _ _ _ _ hx96]
  refine cO (fun hx100 => ?_) ?_
  ·rw [hx100]; try rfl
  rintro x99 hx100
  rw [hx100]
  conv => lhs; cbv
  refine cD (fun hb101 => ?_) fun hb101 => ?_
  ·rw [if_neg (fun x => Bool.noConfusion (hb101.symm.trans x.2.1))]; try rfl
  rw [if_pos ⟨full_TableEntry _, hb101, trivial⟩]
  conv => lhs; cbv
  rw [rapp_TableEntry, addn_TableEntry]
  conv => lhs; cbv
  rw [frz_TableEntry]
  conv => lhs; cbv
  have hc := fSValidTable ((x95 ++ [(⟨r67, a2⟩ : DTableEntry)]) ++ x99)
  try dsimp only at hc
  rw [hc]
  clear hc
  refine cO (fun hx103 => ?_) ?_
  ·rw [hx103]; try rfl
  rintro r102 hx103
  rw [hx103]
  conv => lhs; cbv
  refine cD (fun hb104 => ?_) fun hb104 => ?_
  ·rw [hb104]
   conv => lhs; cbv
   rw [if_pos (full_TableEntry _)]
   conv => lhs; cbv
   rw [own_TableEntry]
   conv => lhs; cbv
   try rfl
  rw [hb104]
  conv => lhs; cbv
  rw [fSl6Copy a0]
  rw [hx2]
  conv => lhs; cbv
  rw [if_pos (full_TableEntry _)]
  conv => lhs; cbv
  rw [own_TableEntry]
  conv => lhs; cbv
  try rfl
theorem eSAcceptPublication (F : Fns) (fSl28Copy : HSl28Copy (F 38)) (fSSeqOf : HSSeqOf (F 78)) (fSPutEntry : HSPutEntry (F 83)) (fSl4Copy : HSl4Copy (F 71)) (fSValidMember : HSValidMember (F 40)) : HSAcceptPublication (EvF F Tryz.f45 (fun _ => [])) := by
 intro a0 a1
 unfold EvF
 obtain ⟨p, hp⟩ := gn prims
 obtain ⟨m_Publication, hm_Publication⟩ := gn (List.map ePublication)
 obtain ⟨m_TableEntry, hm_TableEntry⟩ := gn (List.map eTableEntry)
 obtain ⟨m_byte, hm_byte⟩ := gn (List.map eY)
 obtain ⟨m_string, hm_string⟩ := gn (List.map eS)
 rw [← hp, ← hm_Publication, ← hm_TableEntry, ← hm_byte, ← hm_string]
 obtain ⟨p_arith, p_cmp, _, _, _, _, _, _, _, _, _, p_bnot, _, _, _, p_len, _, _, _, _, _, _, _, p_rapp, p_rlen, p_addN, p_full, p_fits, p_frz, p_own, p_opn, p_lend, _⟩ := p
 have addn_Publication := addn_gen ePublication
 have addn0_byte := @addn0F_byte
 have frz_Publication := frz_gen ePublication (fun _ => rfl)
 have frz_TableEntry := frz_gen eTableEntry (fun _ => rfl)
 have frz_string := frz_gen eS (fun _ => rfl)
 have full_Publication := full_gen ePublication
 have full_TableEntry := full_gen eTableEntry
 have full_byte := full_gen eY
 have full_string := full_gen eS
 have lend_byte := @lendF_byte
 have lit_Publication := @litF_Publication
 have own_Publication := own_gen ePublication (fun _ => rfl)
 have own_TableEntry := own_gen eTableEntry (fun _ => rfl)
 have own_byte := own_gen eY (fun _ => rfl)
 have own_string := own_gen eS (fun _ => rfl)
 have rapp_Publication := rapp_gen ePublication
 have rapp0_byte := @rapp0F_byte
 simp only [HSl28Copy, HSSeqOf, HSPutEntry, HSl4Copy, HSValidMember, ← hp, ← hm_Publication, ← hm_byte, ← hm_TableEntry, ← hm_string] at addn_Publication addn0_byte frz_Publication frz_TableEntry frz_string full_Publication full_TableEntry full_byte full_string lend_byte lit_Publication own_Publication own_TableEntry own_byte own_string rapp_Publication rapp0_byte fSl28Copy fSSeqOf fSPutEntry fSl4Copy fSValidMember
 rw [sSAcceptPublication, ← hp, ← hm_Publication, ← hm_byte]
 dsimp only
 conv => lhs; cbv
 rw [fSl28Copy a0]
 refine cO (fun hx2 => ?_) ?_
 ·rw [hx2]; try rfl
 rintro r1 hx2
 rw [hx2]
 conv => lhs; cbv
 rw [fSSeqOf a0.vector a1.publisher]
 refine cO (fun hx4 => ?_) ?_
 ·rw [hx4]; try rfl
 rintro r3 hx4
 rw [hx4]
 conv => lhs; cbv
 refine cC (fun hb5 => ?_) fun hb5 => ?_
 ·rw [hb5]
  conv => lhs; cbv
  rw [if_pos (full_string _)]
  conv => lhs; cbv
  rw [own_string]
  conv => lhs; cbv
  rw [if_pos (full_TableEntry _)]
  conv => lhs; cbv
  rw [own_TableEntry]
  conv => lhs; cbv
  rw [if_pos (full_Publication _)]
  conv => lhs; cbv
  rw [own_Publication]
  conv => lhs; cbv
  try rfl
 rw [hb5]
 conv => lhs; cbv
 rw [fSPutEntry a0.vector a1.publisher a1.seq]
 refine cO (fun hx7 => ?_) ?_
 ·rw [hx7]; try rfl
 rintro ⟨r6_0, r6_1⟩ hx7
 rw [hx7]
 conv => lhs; cbv
 rw [fSl4Copy a1.publisher]
 refine cO (fun hx9 => ?_) ?_
 ·rw [hx9]; try rfl
 rintro r8 hx9
 rw [hx9]
 conv => lhs; cbv
 rw [lend_byte]
 conv => lhs; cbv
 refine cD (fun hb10 => ?_) fun hb10 => ?_
 ·rw [if_neg (fun x => Bool.noConfusion (hb10.symm.trans x.1))]; try rfl
 rw [if_pos ⟨hb10, trivial⟩]
 conv => lhs; cbv
 rw [rapp0_byte, addn0_byte]
 conv => lhs; cbv
 rw [if_pos (full_string _)]
 conv => lhs; cbv
 rw [own_string]
 conv => lhs; cbv
 rw [if_pos (full_byte _)]
 conv => lhs; cbv
 rw [own_byte]
 conv => lhs; cbv
 rw [lit_Publication]
 refine cD (fun hb11 => ?_) fun hb11 => ?_
 ·rw [if_neg (fun x => Bool.noConfusion (hb11.symm.trans x.2.1))]; try rfl
 rw [if_pos ⟨full_Publication _, hb11, trivial⟩]
 conv => lhs; cbv
 rw [rapp_Publication, addn_Publication]
 conv => lhs; cbv
 refine cC (fun hb12 => ?_) fun hb12 => ?_
 ·rw [hb12]
  conv => lhs; cbv
  rw [fSl28Copy a0]
  rw [hx2]
  conv => lhs; cbv
  rw [if_pos (full_string _)]
  conv => lhs; cbv
  rw [own_string]
  conv => lhs; cbv
  rw [if_pos (full_TableEntry _)]
  conv => lhs; cbv
  rw [own_TableEntry]
  conv => lhs; cbv
  rw [if_pos (full_Publication _)]
  conv => lhs; cbv
  rw [own_Publication]
  conv => lhs; cbv
  try rfl
 rw [hb12]
 conv => lhs; cbv
 rw [frz_string]
 conv => lhs; cbv
 rw [frz_TableEntry]
 conv => lhs; cbv
 rw [frz_Publication]
 conv => lhs; cbv
 have hc := fSValidMember (⟨r1.name, r6_0, r1.publications ++ [(⟨r8, a1.seq, a1.content⟩ : DPublication)]⟩ : DMember)
 try dsimp only at hc
 rw [hc]
 clear hc
 refine cO (fun hx15 => ?_) ?_
 ·rw [hx15]; try rfl
 rintro r14 hx15
 rw [hx15]
 conv => lhs; cbv
 refine cD (fun hb16 => ?_) fun hb16 => ?_
 ·rw [hb16]
  conv => lhs; cbv
  rw [if_pos (full_string _)]
  conv => lhs; cbv
  rw [own_string]
  conv => lhs; cbv
  rw [if_pos (full_TableEntry _)]
  conv => lhs; cbv
  rw [own_TableEntry]
  conv => lhs; cbv
  rw [if_pos (full_Publication _)]
  conv => lhs; cbv
  rw [own_Publication]
  conv => lhs; cbv
  try rfl
 rw [hb16]
 conv => lhs; cbv
 rw [fSl28Copy a0]
 rw [hx2]
 conv => lhs; cbv
 rw [if_pos (full_string _)]
 conv => lhs; cbv
 rw [own_string]
 conv => lhs; cbv
 rw [if_pos (full_TableEntry _)]
 conv => lhs; cbv
 rw [own_TableEntry]
 conv => lhs; cbv
 rw [if_pos (full_Publication _)]
 conv => lhs; cbv
 rw [own_Publication]
 conv => lhs; cbv
 try rfl
theorem eSCatchUp (F : Fns) (fSl28Copy : HSl28Copy (F 38)) (fSMissingFrom : HSMissingFrom (F 43)) (fSFindPublication : HSFindPublication (F 44)) (fSAcceptPublication : HSAcceptPublication (F 45)) : HSCatchUp (EvF F Tryz.f22 (fun id => if id = 4 then [3, 4, 5, 6, 7] else [])) := by
 intro a0 a1
 unfold EvF
 obtain ⟨p, hp⟩ := gn prims
 obtain ⟨m_Publication, hm_Publication⟩ := gn (List.map ePublication)
 obtain ⟨m_TableEntry, hm_TableEntry⟩ := gn (List.map eTableEntry)
 obtain ⟨m_byte, hm_byte⟩ := gn (List.map eY)
 obtain ⟨m_string, hm_string⟩ := gn (List.map eS)
 rw [← hp, ← hm_Publication, ← hm_TableEntry, ← hm_string]
 obtain ⟨p_arith, p_cmp, _, _, _, _, _, _, _, _, _, _, _, _, _, p_len, p_int, _, _, _, p_ridx, p_rnth, _, _, _, _, p_full, _, p_frz, p_own, p_opn, _⟩ := p
 have frz_Publication := frz_gen ePublication (fun _ => rfl)
 have frz_TableEntry := frz_gen eTableEntry (fun _ => rfl)
 have frz_byte := frz_gen eY (fun _ => rfl)
 have frz_string := frz_gen eS (fun _ => rfl)
 have full_Publication := full_gen ePublication
 have full_TableEntry := full_gen eTableEntry
 have full_string := full_gen eS
 have len0_Publication := @len0F_Publication
 have len0_TableEntry := @len0F_TableEntry
 have len0_string := @len0F_string
 have opn0_Publication := @opn0F_Publication
 have opn0_TableEntry := @opn0F_TableEntry
 have opn0_string := @opn0F_string
 have own_Publication := own_gen ePublication (fun _ => rfl)
 have own_TableEntry := own_gen eTableEntry (fun _ => rfl)
 have own_string := own_gen eS (fun _ => rfl)
 have rnth_TableEntry := @rnthF_TableEntry
 simp only [HSl28Copy, HSMissingFrom, HSFindPublication, HSAcceptPublication, ← hp, ← hm_Publication, ← hm_TableEntry, ← hm_byte, ← hm_string] at frz_Publication frz_TableEntry frz_byte frz_string full_Publication full_TableEntry full_string len0_Publication len0_TableEntry len0_string opn0_Publication opn0_TableEntry opn0_string own_Publication own_TableEntry own_string rnth_TableEntry fSl28Copy fSMissingFrom fSFindPublication fSAcceptPublication
 generalize hal : alp = al
 rw [sSCatchUp]
 conv => lhs; cbv
 rw [fSl28Copy a0]
 refine cO (fun hx2 => ?_) ?_
 ·rw [hx2]; try rfl
 rintro r1 hx2
 rw [hx2]
 conv => lhs; cbv
 rw [fSMissingFrom a0 a1.vector]
 refine cO (fun hx4 => ?_) ?_
 ·rw [hx4]; try rfl
 rintro r3 hx4
 rw [hx4]
 conv => lhs; cbv
 refine (loop_al hal (fun x => match x with | (v5, v6, v7, v8) => ⟨[dd, dd, dd, .c (.ptr (0, 0, 0) 3 0 0), .c (.ptr (0, 0, 1) 3 0 0), .c (.ptr (0, 0, 5) 3 0 0), .c (.row (0, 0, 9) 89 2 0 (p_len (m_TableEntry r3))), .c (.at (.int .i64 v5)), dd, dd, dd, dd, dd, dd, dd, dd, dd, dd, dd, dd, dd, dd, dd, dd, dd, dd, dd, dd, dd, dd, dd, dd, dd, dd, dd, dd, dd, dd, dd, dd, dd, dd, dd, dd, dd, dd, dd, dd, dd, dd, dd, dd, dd, dd, dd, dd, dd, dd, dd], [((0, 0, 5), ⟨false, true, 61, 3, [[.row (0, 0, 6) 9 1 0 (p_len (m_string v6)), .row (0, 0, 7) 89 2 0 (p_len (m_TableEntry v7)), .row (0, 0, 8) 93 3 0 (p_len (m_Publication v8))]]⟩), ((0, 0, 1), ⟨false, true, 61, 3, [[.row (0, 0, 2) 9 1 0 (p_len (m_string [])), .row (0, 0, 3) 89 2 0 (p_len (m_TableEntry [])), .row (0, 0, 4) 93 3 0 (p_len (m_Publication []))]]⟩), ((0, 0, 0), ⟨false, true, 61, 3, [[.rd true 9 1 (m_string a1.name), .rd true 89 2 (m_TableEntry a1.vector), .rd true 93 3 (m_Publication a1.publications)]]⟩), ((0, 0, 2), ⟨true, false, 9, 1, p_opn (m_string [])⟩), ((0, 0, 3), ⟨true, false, 89, 2, p_opn (m_TableEntry [])⟩), ((0, 0, 4), ⟨true, false, 93, 3, p_opn (m_Publication [])⟩), ((0, 0, 6), ⟨true, false, 9, 1, p_opn (m_string v6)⟩), ((0, 0, 7), ⟨true, false, 89, 2, p_opn (m_TableEntry v7)⟩), ((0, 0, 8), ⟨true, false, 93, 3, p_opn (m_Publication v8)⟩), ((0, 0, 9), ⟨true, false, 89, 2, p_opn (m_TableEntry r3)⟩)], 1⟩) (sSCatchUp_l1 a1 r3) (fun K g => match g with | (v5, v6, v7, v8) => K (.exit 0) ⟨[dd, dd, dd, .c (.ptr (0, 0, 0) 3 0 0), .c (.ptr (0, 0, 1) 3 0 0), .c (.ptr (0, 0, 5) 3 0 0), .c (.row (0, 0, 9) 89 2 0 (p_len (m_TableEntry r3))), .c (.at (.int .i64 v5)), dd, dd, dd, dd, dd, dd, dd, dd, dd, dd, .c (.at (.int .i64 v5)), .c (.row (0, 0, 9) 89 2 0 (p_len (m_TableEntry r3))), .c (.at (.int .i64 (p_int (p_len (m_TableEntry r3))))), .c (.at (.bool false)), dd, dd, dd, dd, dd, dd, dd, dd, dd, dd, dd, dd, dd, dd, dd, dd, dd, dd, dd, dd, dd, dd, dd, dd, dd, dd, dd, dd, dd, dd, dd, dd, dd, dd, dd, dd, dd], [((0, 0, 5), ⟨false, true, 61, 3, [[.row (0, 0, 6) 9 1 0 (p_len (m_string v6)), .row (0, 0, 7) 89 2 0 (p_len (m_TableEntry v7)), .row (0, 0, 8) 93 3 0 (p_len (m_Publication v8))]]⟩), ((0, 0, 1), ⟨false, true, 61, 3, [[.row (0, 0, 2) 9 1 0 (p_len (m_string [])), .row (0, 0, 3) 89 2 0 (p_len (m_TableEntry [])), .row (0, 0, 4) 93 3 0 (p_len (m_Publication []))]]⟩), ((0, 0, 0), ⟨false, true, 61, 3, [[.rd true 9 1 (m_string a1.name), .rd true 89 2 (m_TableEntry a1.vector), .rd true 93 3 (m_Publication a1.publications)]]⟩), ((0, 0, 2), ⟨true, false, 9, 1, p_opn (m_string [])⟩), ((0, 0, 3), ⟨true, false, 89, 2, p_opn (m_TableEntry [])⟩), ((0, 0, 4), ⟨true, false, 93, 3, p_opn (m_Publication [])⟩), ((0, 0, 6), ⟨true, false, 9, 1, p_opn (m_string v6)⟩), ((0, 0, 7), ⟨true, false, 89, 2, p_opn (m_TableEntry v7)⟩), ((0, 0, 8), ⟨true, false, 93, 3, p_opn (m_Publication v8)⟩), ((0, 0, 9), ⟨true, false, 89, 2, p_opn (m_TableEntry r3)⟩)], 2⟩) ?_ (0, r1.name, r1.vector, r1.publications) _ (by simp only [opn0_Publication, len0_Publication, opn0_TableEntry, len0_TableEntry, opn0_string, len0_string]; rfl)).trans (cL ?_)
 ·rintro K1 hr1 ⟨v5, v6, v7, v8⟩ R1
  rw [sSCatchUp_l1, ← hp, ← hm_TableEntry]
  dsimp only
  conv => lhs; cbv
  refine cD (fun hb9 => ?_) fun hb9 => ?_
  ·rw [hb9]
   conv => lhs; cbv
   try rfl
  rw [hb9]
  conv => lhs; cbv
  refine cO (fun hx11 => ?_) ?_
  ·rw [hx11]; try rfl
  rintro x10 hx11
  rw [hx11]
  conv => lhs; cbv
  rw [rnth_TableEntry]
  refine cO (fun hx13 => ?_) ?_
  ·rw [hx13]; try rfl
  rintro x12 hx13
  rw [hx13]
  conv => lhs; cbv
  rw [hx11]
  conv => lhs; cbv
  rw [rnth_TableEntry]
  rw [hx13]
  conv => lhs; cbv
  rw [fSFindPublication a1 x12.name x12.value]
  refine cO (fun hx17 => ?_) ?_
  ·rw [hx17]; try rfl
  rintro ⟨r16_0, r16_1⟩ hx17
  rw [hx17]
  conv => lhs; cbv
  refine cD (fun hb18 => ?_) fun hb18 => ?_
  ·try dsimp only at hb18
   rw [hb18]
   conv => lhs; cbv
   try rfl
  try dsimp only at hb18
  rw [hb18]
  conv => lhs; cbv
  rw [hx11]
  conv => lhs; cbv
  rw [rnth_TableEntry]
  rw [hx13]
  conv => lhs; cbv
  rw [hx11]
  conv => lhs; cbv
  rw [rnth_TableEntry]
  rw [hx13]
  conv => lhs; cbv
  rw [frz_string]
  conv => lhs; cbv
  rw [frz_TableEntry]
  conv => lhs; cbv
  rw [frz_Publication]
  conv => lhs; cbv
  rw [frz_byte]
  conv => lhs; cbv
  have hc := fSAcceptPublication (⟨v6, v7, v8⟩ : DMember) (⟨x12.name, x12.value, r16_0⟩ : DPublication)
  try dsimp only at hc
  rw [hc]
  clear hc
  refine cO (fun hx24 => ?_) ?_
  ·rw [hx24]; try rfl
  rintro ⟨r23_0, r23_1⟩ hx24
  rw [hx24]
  conv => lhs; cbv
  try rfl
 rintro ⟨w25, w26, w27, w28⟩
 conv => lhs; cbv
 rw [if_pos (full_string _)]
 conv => lhs; cbv
 rw [own_string]
 conv => lhs; cbv
 rw [if_pos (full_TableEntry _)]
 conv => lhs; cbv
 rw [own_TableEntry]
 conv => lhs; cbv
 rw [if_pos (full_Publication _)]
 conv => lhs; cbv
 rw [own_Publication]
 conv => lhs; cbv
 try rfl
theorem eSSyncRound (F : Fns) (fSl37Copy : HSl37Copy (F 19)) (fSValidSyncGroup : HSValidSyncGroup (F 20)) (fSl19Has : HSl19Has (F 21)) (fSCatchUp : HSCatchUp (F 22)) : HSSyncRound (EvF F Tryz.f6 (fun id => if id = 3 then [1, 2, 4, 5, 6] else [])) := by
 intro a0 a1
 unfold EvF
 obtain ⟨p, hp⟩ := gn prims
 obtain ⟨m_Link, hm_Link⟩ := gn (List.map eLink)
 obtain ⟨m_Member, hm_Member⟩ := gn (List.map eMember)
 obtain ⟨m_Publication, hm_Publication⟩ := gn (List.map ePublication)
 obtain ⟨m_TableEntry, hm_TableEntry⟩ := gn (List.map eTableEntry)
 obtain ⟨m_int, hm_int⟩ := gn (List.map eI)
 obtain ⟨m_string, hm_string⟩ := gn (List.map eS)
 rw [← hp, ← hm_Link, ← hm_Member, ← hm_int]
 obtain ⟨p_arith, p_cmp, _, _, _, _, _, _, _, _, _, _, _, _, _, p_len, p_int, p_nth, _, _, p_ridx, p_rnth, p_rset, _, _, _, p_full, _, _, p_own, p_opn, _⟩ := p
 have full_Link := full_gen eLink
 have full_Member := full_gen eMember
 have full_Publication := full_gen ePublication
 have full_TableEntry := full_gen eTableEntry
 have full_string := full_gen eS
 have len0_Link := @len0F_Link
 have len0_Member := @len0F_Member
 have lset_Member := lset_gen eMember
 have nth_Link := @nthF_Link
 have opn0_Link := @opn0F_Link
 have opn0_Member := @opn0F_Member
 have own_Link := own_gen eLink (fun _ => rfl)
 have own_Member := own_gen eMember (fun _ => rfl)
 have own_Publication := own_gen ePublication (fun _ => rfl)
 have own_TableEntry := own_gen eTableEntry (fun _ => rfl)
 have own_string := own_gen eS (fun _ => rfl)
 have rnth_Member := @rnthF_Member
 have rset_Member := @rsetF_Member
 simp only [HSl37Copy, HSValidSyncGroup, HSl19Has, HSCatchUp, ← hp, ← hm_Link, ← hm_Member, ← hm_Publication, ← hm_TableEntry, ← hm_string, ← hm_int] at full_Link full_Member full_Publication full_TableEntry full_string len0_Link len0_Member lset_Member nth_Link opn0_Link opn0_Member own_Link own_Member own_Publication own_TableEntry own_string rnth_Member rset_Member fSl37Copy fSValidSyncGroup fSl19Has fSCatchUp
 generalize hal : alp = al
 rw [sSSyncRound]
 conv => lhs; cbv
 rw [fSl37Copy a0]
 refine cO (fun hx2 => ?_) ?_
 ·rw [hx2]; try rfl
 rintro r1 hx2
 rw [hx2]
 conv => lhs; cbv
 refine (loop_al hal (fun x => match x with | (v3, v4) => ⟨[dd, .c (.rd true 3 1 (m_int a1)), .c (.ptr (0, 0, 0) 3 0 0), dd, .c (.ptr (0, 0, 1) 3 0 0), .c (.ptr (0, 0, 4) 3 0 0), .c (.at (.int .i64 v3)), dd, dd, dd, dd, dd, dd, dd, dd, dd, dd, dd, dd, dd, dd, dd, dd, dd, dd, dd, dd, dd, dd, dd, dd, dd, dd, dd, dd, dd, dd, dd, dd, dd, dd, dd, dd, dd, dd, dd, dd, dd, dd, dd, dd, dd, dd, dd, dd, dd, dd, dd, dd, dd, dd, dd, dd, dd, dd, dd, dd], [((0, 0, 4), ⟨false, true, 35, 3, [[.at (.int .i64 r1.topology.size), .row (0, 0, 5) 52 2 0 (p_len (m_Link r1.topology.links)), .row (0, 0, 6) 61 3 0 (p_len (m_Member v4))]]⟩), ((0, 0, 1), ⟨false, true, 35, 3, [[.at (.int .i64 0), .row (0, 0, 2) 52 2 0 (p_len (m_Link [])), .row (0, 0, 3) 61 3 0 (p_len (m_Member []))]]⟩), ((0, 0, 0), ⟨false, true, 35, 3, [[.at (.int .i64 a0.topology.size), .rd true 52 2 (m_Link a0.topology.links), .rd true 61 3 (m_Member a0.members)]]⟩), ((0, 0, 2), ⟨true, false, 52, 2, p_opn (m_Link [])⟩), ((0, 0, 3), ⟨true, false, 61, 3, p_opn (m_Member [])⟩), ((0, 0, 5), ⟨true, false, 52, 2, p_opn (m_Link r1.topology.links)⟩), ((0, 0, 6), ⟨true, false, 61, 3, p_opn (m_Member v4)⟩)], 1⟩) (sSSyncRound_l1 a0 a1) (fun K g => match g with | .inl (v3, v4) => K (.exit 0) ⟨[dd, .c (.rd true 3 1 (m_int a1)), .c (.ptr (0, 0, 0) 3 0 0), dd, .c (.ptr (0, 0, 1) 3 0 0), .c (.ptr (0, 0, 4) 3 0 0), .c (.at (.int .i64 v3)), dd, dd, dd, dd, dd, .c (.at (.int .i64 v3)), .c (.ptr (0, 0, 0) 3 0 0), .c (.ptr (0, 0, 0) 3 0 1), .c (.rd true 52 2 (m_Link a0.topology.links)), .c (.at (.int .i64 (p_int (p_len (m_Link a0.topology.links))))), .c (.at (.bool true)), .c (.at (.bool true)), .agg [.at (.int .i64 a0.topology.size), .rd true 52 2 (m_Link a0.topology.links), .rd true 61 3 (m_Member a0.members)], .c (.at (.bool false)), .c (.at (.bool false)), dd, dd, dd, dd, dd, dd, dd, dd, dd, dd, dd, dd, dd, dd, dd, dd, dd, dd, dd, dd, dd, dd, dd, dd, dd, dd, dd, dd, dd, dd, dd, dd, dd, dd, dd, dd, dd, dd, dd, dd, dd, dd, dd, dd, dd], [((0, 0, 4), ⟨false, true, 35, 3, [[.at (.int .i64 r1.topology.size), .row (0, 0, 5) 52 2 0 (p_len (m_Link r1.topology.links)), .row (0, 0, 6) 61 3 0 (p_len (m_Member v4))]]⟩), ((0, 0, 1), ⟨false, true, 35, 3, [[.at (.int .i64 0), .row (0, 0, 2) 52 2 0 (p_len (m_Link [])), .row (0, 0, 3) 61 3 0 (p_len (m_Member []))]]⟩), ((0, 0, 0), ⟨false, true, 35, 3, [[.at (.int .i64 a0.topology.size), .rd true 52 2 (m_Link a0.topology.links), .rd true 61 3 (m_Member a0.members)]]⟩), ((0, 0, 2), ⟨true, false, 52, 2, p_opn (m_Link [])⟩), ((0, 0, 3), ⟨true, false, 61, 3, p_opn (m_Member [])⟩), ((0, 0, 5), ⟨true, false, 52, 2, p_opn (m_Link r1.topology.links)⟩), ((0, 0, 6), ⟨true, false, 61, 3, p_opn (m_Member v4)⟩)], 2⟩ | .inr ((v3, v4)) => K (.exit 0) ⟨[dd, .c (.rd true 3 1 (m_int a1)), .c (.ptr (0, 0, 0) 3 0 0), dd, .c (.ptr (0, 0, 1) 3 0 0), .c (.ptr (0, 0, 4) 3 0 0), .c (.at (.int .i64 v3)), dd, dd, dd, dd, dd, .c (.at (.int .i64 v3)), .c (.ptr (0, 0, 0) 3 0 0), .c (.ptr (0, 0, 0) 3 0 1), .c (.rd true 52 2 (m_Link a0.topology.links)), .c (.at (.int .i64 (p_int (p_len (m_Link a0.topology.links))))), .c (.at (.bool false)), .c (.at (.bool false)), .c (.at undef), .c (.at undef), .c (.at (.bool false)), dd, dd, dd, dd, dd, dd, dd, dd, dd, dd, dd, dd, dd, dd, dd, dd, dd, dd, dd, dd, dd, dd, dd, dd, dd, dd, dd, dd, dd, dd, dd, dd, dd, dd, dd, dd, dd, dd, dd, dd, dd, dd, dd, dd, dd], [((0, 0, 4), ⟨false, true, 35, 3, [[.at (.int .i64 r1.topology.size), .row (0, 0, 5) 52 2 0 (p_len (m_Link r1.topology.links)), .row (0, 0, 6) 61 3 0 (p_len (m_Member v4))]]⟩), ((0, 0, 1), ⟨false, true, 35, 3, [[.at (.int .i64 0), .row (0, 0, 2) 52 2 0 (p_len (m_Link [])), .row (0, 0, 3) 61 3 0 (p_len (m_Member []))]]⟩), ((0, 0, 0), ⟨false, true, 35, 3, [[.at (.int .i64 a0.topology.size), .rd true 52 2 (m_Link a0.topology.links), .rd true 61 3 (m_Member a0.members)]]⟩), ((0, 0, 2), ⟨true, false, 52, 2, p_opn (m_Link [])⟩), ((0, 0, 3), ⟨true, false, 61, 3, p_opn (m_Member [])⟩), ((0, 0, 5), ⟨true, false, 52, 2, p_opn (m_Link r1.topology.links)⟩), ((0, 0, 6), ⟨true, false, 61, 3, p_opn (m_Member v4)⟩)], 2⟩) ?_ (0, r1.members) _ (by simp only [opn0_Link, len0_Link, opn0_Member, len0_Member]; rfl)).trans (cL ?_)
 ·rintro K1 hr1 ⟨v3, v4⟩ R1
  rw [sSSyncRound_l1, ← hp, ← hm_Link, ← hm_Member]
  dsimp only
  conv => lhs; cbv
  refine cD (fun hb5 => ?_) fun hb5 => ?_
  ·rw [hb5]
   conv => lhs; cbv
   try rfl
  rw [hb5]
  conv => lhs; cbv
  rw [fSValidSyncGroup a0]
  refine cO (fun hx7 => ?_) ?_
  ·rw [hx7]; try rfl
  rintro r6 hx7
  rw [hx7]
  conv => lhs; cbv
  refine cD (fun hb8 => ?_) fun hb8 => ?_
  ·rw [hb8]
   conv => lhs; cbv
   try rfl
  rw [hb8]
  conv => lhs; cbv
  rw [fSl19Has a1 v3]
  refine cO (fun hx10 => ?_) ?_
  ·rw [hx10]; try rfl
  rintro r9 hx10
  rw [hx10]
  conv => lhs; cbv
  refine cC (fun hb11 => ?_) fun hb11 => ?_
  ·rw [hb11]
   conv => lhs; cbv
   try rfl
  rw [hb11]
  conv => lhs; cbv
  rw [nth_Link]
  refine cO (fun hx13 => ?_) ?_
  ·rw [hx13]; try rfl
  rintro x12 hx13
  rw [hx13]
  conv => lhs; cbv
  refine cO (fun hx15 => ?_) ?_
  ·rw [hx15]; try rfl
  rintro x14 hx15
  rw [hx15]
  conv => lhs; cbv
  rw [rnth_Member]
  refine cO (fun hx17 => ?_) ?_
  ·rw [hx17]; try rfl
  rintro x16 hx17
  rw [hx17]
  conv => lhs; cbv
  refine cO (fun hx19 => ?_) ?_
  ·rw [hx19]; try rfl
  rintro x18 hx19
  rw [hx19]
  conv => lhs; cbv
  rw [rnth_Member]
  refine cO (fun hx21 => ?_) ?_
  ·rw [hx21]; try rfl
  rintro x20 hx21
  rw [hx21]
  conv => lhs; cbv
  rw [fSCatchUp x16 x20]
  refine cO (fun hx23 => ?_) ?_
  ·rw [hx23]; try rfl
  rintro r22 hx23
  rw [hx23]
  conv => lhs; cbv
  rw [hx15]
  conv => lhs; cbv
  rw [rnth_Member]
  rw [hx17]
  conv => lhs; cbv
  rw [if_pos (full_string _)]
  conv => lhs; cbv
  rw [own_string]
  conv => lhs; cbv
  rw [if_pos (full_TableEntry _)]
  conv => lhs; cbv
  rw [own_TableEntry]
  conv => lhs; cbv
  rw [if_pos (full_Publication _)]
  conv => lhs; cbv
  rw [own_Publication]
  conv => lhs; cbv
  rw [rset_Member]
  try conv => lhs; rw [← lset_Member v4 x14 r22]
  rw [if_pos (full_string _)]
  rw [if_pos (full_TableEntry _)]
  rw [if_pos (full_Publication _)]
  conv => lhs; cbv
  refine cO (fun hx27 => ?_) ?_
  ·rw [hx27]; try rfl
  rintro x26 hx27
  rw [hx27]
  conv => lhs; cbv
  rw [rnth_Member]
  refine cO (fun hx29 => ?_) ?_
  ·rw [hx29]; try rfl
  rintro x28 hx29
  rw [hx29]
  conv => lhs; cbv
  rw [fSCatchUp x28 r22]
  refine cO (fun hx31 => ?_) ?_
  ·rw [hx31]; try rfl
  rintro r30 hx31
  rw [hx31]
  conv => lhs; cbv
  rw [hx27]
  conv => lhs; cbv
  rw [rnth_Member]
  rw [hx29]
  conv => lhs; cbv
  rw [if_pos (full_string _)]
  conv => lhs; cbv
  rw [own_string]
  conv => lhs; cbv
  rw [if_pos (full_TableEntry _)]
  conv => lhs; cbv
  rw [own_TableEntry]
  conv => lhs; cbv
  rw [if_pos (full_Publication _)]
  conv => lhs; cbv
  rw [own_Publication]
  conv => lhs; cbv
  rw [rset_Member]
  try conv => lhs; rw [← lset_Member (v4.set x14 r22) x26 r30]
  rw [if_pos (full_string _)]
  rw [if_pos (full_TableEntry _)]
  rw [if_pos (full_Publication _)]
  conv => lhs; cbv
  try rfl
 rintro (⟨w34, w35⟩ | ⟨w36, w37⟩)
 ·conv => lhs; cbv
  rw [if_pos (full_Link _)]
  conv => lhs; cbv
  rw [own_Link]
  conv => lhs; cbv
  rw [if_pos (full_Member _)]
  conv => lhs; cbv
  rw [own_Member]
  conv => lhs; cbv
  try rfl
 conv => lhs; cbv
 rw [if_pos (full_Link _)]
 conv => lhs; cbv
 rw [own_Link]
 conv => lhs; cbv
 rw [if_pos (full_Member _)]
 conv => lhs; cbv
 rw [own_Member]
 conv => lhs; cbv
 try rfl
theorem eSSyncRounds (F : Fns) (fSl37Copy : HSl37Copy (F 19)) (fSSyncRound : HSSyncRound (F 6)) : HSSyncRounds (EvF F Tryz.f15 (fun id => if id = 3 then [1, 2, 6, 7, 8] else [])) := by
 intro a0 a1 a2
 unfold EvF
 obtain ⟨p, hp⟩ := gn prims
 obtain ⟨m_Link, hm_Link⟩ := gn (List.map eLink)
 obtain ⟨m_Member, hm_Member⟩ := gn (List.map eMember)
 obtain ⟨m_int, hm_int⟩ := gn (List.map eI)
 rw [← hp, ← hm_Link, ← hm_Member, ← hm_int]
 obtain ⟨p_arith, p_cmp, _, _, _, _, _, _, _, _, _, _, _, _, _, p_len, _, _, _, _, _, _, _, _, _, _, p_full, _, p_frz, p_own, p_opn, _⟩ := p
 have frz_Link := frz_gen eLink (fun _ => rfl)
 have frz_Member := frz_gen eMember (fun _ => rfl)
 have full_Link := full_gen eLink
 have full_Member := full_gen eMember
 have len0_Link := @len0F_Link
 have len0_Member := @len0F_Member
 have opn0_Link := @opn0F_Link
 have opn0_Member := @opn0F_Member
 have own_Link := own_gen eLink (fun _ => rfl)
 have own_Member := own_gen eMember (fun _ => rfl)
 simp only [HSl37Copy, HSSyncRound, ← hp, ← hm_Link, ← hm_Member, ← hm_int] at frz_Link frz_Member full_Link full_Member len0_Link len0_Member opn0_Link opn0_Member own_Link own_Member fSl37Copy fSSyncRound
 generalize hal : alp = al
 rw [sSSyncRounds]
 conv => lhs; cbv
 rw [fSl37Copy a0]
 refine cO (fun hx2 => ?_) ?_
 ·rw [hx2]; try rfl
 rintro r1 hx2
 rw [hx2]
 conv => lhs; cbv
 refine (loop_al hal (fun x => match x with | (v3, v4, v5, v6) => ⟨[dd, .c (.rd true 3 1 (m_int a1)), .c (.at (.int .i64 a2)), dd, dd, dd, .c (.ptr (0, 0, 0) 3 0 0), .c (.ptr (0, 0, 3) 3 0 0), .c (.at (.int .i64 v3)), dd, dd, dd, dd, dd, dd, dd, dd, dd, dd, dd, dd, dd, dd, dd, dd, dd], [((0, 0, 3), ⟨false, true, 35, 3, [[.at (.int .i64 v4), .row (0, 0, 4) 52 2 0 (p_len (m_Link v5)), .row (0, 0, 5) 61 3 0 (p_len (m_Member v6))]]⟩), ((0, 0, 0), ⟨false, true, 35, 3, [[.at (.int .i64 0), .row (0, 0, 1) 52 2 0 (p_len (m_Link [])), .row (0, 0, 2) 61 3 0 (p_len (m_Member []))]]⟩), ((0, 0, 1), ⟨true, false, 52, 2, p_opn (m_Link [])⟩), ((0, 0, 2), ⟨true, false, 61, 3, p_opn (m_Member [])⟩), ((0, 0, 4), ⟨true, false, 52, 2, p_opn (m_Link v5)⟩), ((0, 0, 5), ⟨true, false, 61, 3, p_opn (m_Member v6)⟩)], 1⟩) (sSSyncRounds_l1 a1 a2) (fun K g => match g with | .inl (v3, v4, v5, v6) => K (.exit 0) ⟨[dd, .c (.rd true 3 1 (m_int a1)), .c (.at (.int .i64 a2)), dd, dd, dd, .c (.ptr (0, 0, 0) 3 0 0), .c (.ptr (0, 0, 3) 3 0 0), .c (.at (.int .i64 v3)), dd, dd, dd, .c (.at (.int .i64 v3)), .c (.at (.int .i64 a2)), .c (.at (.bool true)), .c (.at (.bool true)), .c (.at (.int .i64 a2)), .c (.at (.bool false)), .c (.at (.bool false)), dd, dd, dd, dd, dd, dd, dd], [((0, 0, 3), ⟨false, true, 35, 3, [[.at (.int .i64 v4), .row (0, 0, 4) 52 2 0 (p_len (m_Link v5)), .row (0, 0, 5) 61 3 0 (p_len (m_Member v6))]]⟩), ((0, 0, 0), ⟨false, true, 35, 3, [[.at (.int .i64 0), .row (0, 0, 1) 52 2 0 (p_len (m_Link [])), .row (0, 0, 2) 61 3 0 (p_len (m_Member []))]]⟩), ((0, 0, 1), ⟨true, false, 52, 2, p_opn (m_Link [])⟩), ((0, 0, 2), ⟨true, false, 61, 3, p_opn (m_Member [])⟩), ((0, 0, 4), ⟨true, false, 52, 2, p_opn (m_Link v5)⟩), ((0, 0, 5), ⟨true, false, 61, 3, p_opn (m_Member v6)⟩)], 2⟩ | .inr ((v3, v4, v5, v6)) => K (.exit 0) ⟨[dd, .c (.rd true 3 1 (m_int a1)), .c (.at (.int .i64 a2)), dd, dd, dd, .c (.ptr (0, 0, 0) 3 0 0), .c (.ptr (0, 0, 3) 3 0 0), .c (.at (.int .i64 v3)), dd, dd, dd, .c (.at (.int .i64 v3)), .c (.at (.int .i64 a2)), .c (.at (.bool false)), .c (.at (.bool false)), .c (.at undef), .c (.at undef), .c (.at (.bool false)), dd, dd, dd, dd, dd, dd, dd], [((0, 0, 3), ⟨false, true, 35, 3, [[.at (.int .i64 v4), .row (0, 0, 4) 52 2 0 (p_len (m_Link v5)), .row (0, 0, 5) 61 3 0 (p_len (m_Member v6))]]⟩), ((0, 0, 0), ⟨false, true, 35, 3, [[.at (.int .i64 0), .row (0, 0, 1) 52 2 0 (p_len (m_Link [])), .row (0, 0, 2) 61 3 0 (p_len (m_Member []))]]⟩), ((0, 0, 1), ⟨true, false, 52, 2, p_opn (m_Link [])⟩), ((0, 0, 2), ⟨true, false, 61, 3, p_opn (m_Member [])⟩), ((0, 0, 4), ⟨true, false, 52, 2, p_opn (m_Link v5)⟩), ((0, 0, 5), ⟨true, false, 61, 3, p_opn (m_Member v6)⟩)], 2⟩) ?_ (0, r1.topology.size, r1.topology.links, r1.members) _ (by simp only [opn0_Link, len0_Link, opn0_Member, len0_Member]; rfl)).trans (cL ?_)
 ·rintro K1 hr1 ⟨v3, v4, v5, v6⟩ R1
  rw [sSSyncRounds_l1, ← hp]
  dsimp only
  conv => lhs; cbv
  refine cD (fun hb7 => ?_) fun hb7 => ?_
  ·rw [hb7]
   conv => lhs; cbv
   try rfl
  rw [hb7]
  conv => lhs; cbv
  refine cD (fun hb8 => ?_) fun hb8 => ?_
  ·rw [hb8]
   conv => lhs; cbv
   try rfl
  rw [hb8]
  conv => lhs; cbv
  rw [frz_Link]
  conv => lhs; cbv
  rw [frz_Member]
  conv => lhs; cbv
  have hc := fSSyncRound (⟨(⟨v4, v5⟩ : DTopology), v6⟩ : DSyncGroup) a1
  try dsimp only at hc
  rw [hc]
  clear hc
  refine cO (fun hx10 => ?_) ?_
  ·rw [hx10]; try rfl
  rintro r9 hx10
  rw [hx10]
  conv => lhs; cbv
  try rfl
 rintro (⟨w11, w12, w13, w14⟩ | ⟨w15, w16, w17, w18⟩)
 ·conv => lhs; cbv
  rw [if_pos (full_Link _)]
  conv => lhs; cbv
  rw [own_Link]
  conv => lhs; cbv
  rw [if_pos (full_Member _)]
  conv => lhs; cbv
  rw [own_Member]
  conv => lhs; cbv
  try rfl
 conv => lhs; cbv
 rw [if_pos (full_Link _)]
 conv => lhs; cbv
 rw [own_Link]
 conv => lhs; cbv
 rw [if_pos (full_Member _)]
 conv => lhs; cbv
 rw [own_Member]
 conv => lhs; cbv
 try rfl
theorem eCClone_Link (F : Fns) : HCClone_Link (EvF F Tryz.f88 (fun _ => [])) := by
 intro a0
 unfold EvF
 obtain ⟨p, hp⟩ := gn prims
 obtain ⟨m_Link, hm_Link⟩ := gn (List.map eLink)
 rw [← hp, ← hm_Link]
 obtain ⟨_, _, _, _, _, _, _, _, _, _, _, _, _, _, _, p_len, _, _, _, _, _, _, _, p_rapp, p_rlen, p_addN, p_full, p_fits, _, p_own, p_opn, p_lend, _, _, p_both, _⟩ := p
 have h_both : @p_both = @Prims.both prims := congrArg (fun q : Prims => @Prims.both q) hp
 have addn0_Link := @addn0F_Link
 have fits0_Link := @fits0F_Link
 have full_Link := full_gen eLink
 have lend_Link := @lendF_Link
 have leni_Link := @leniF_Link
 have nild_Link := @nildF_Link
 have own_Link := own_gen eLink (fun _ => rfl)
 have rapp0_Link := @rapp0F_Link
 simp only [← hp, ← hm_Link] at addn0_Link fits0_Link full_Link lend_Link nild_Link own_Link rapp0_Link
 simp only [← hp, ← hm_Link] at leni_Link
 rw [sCClone_Link, ← hp, ← hm_Link]
 dsimp only
 conv => lhs; cbv
 rw [h_both]
 refine bothO_eq ?_ (fun h0 => ?_)
 ·conv => lhs; cbv
  rw [lend_Link]
  conv => lhs; cbv
  refine cD (fun hb1 => ?_) fun hb1 => ?_
  ·rw [if_neg (fun x => Bool.noConfusion (hb1.symm.trans x.1))]; try rfl
  rw [if_pos ⟨hb1, trivial⟩]
  conv => lhs; cbv
  rw [rapp0_Link, addn0_Link]
  conv => lhs; cbv
  rw [if_pos (full_Link _)]
  conv => lhs; cbv
  rw [own_Link]
  conv => lhs; cbv
  try rfl
 ·obtain rfl := leni_Link _ h0
  rw [fits0_Link]
  simp only [cond_true, Option.bind_some, nild_Link]
theorem eIcopyTopology (F : Fns) (fCClone_Link : HCClone_Link (F 88)) : HIcopyTopology (EvF F Tryz.f48 (fun _ => [])) := by
 intro a0
 unfold EvF
 obtain ⟨p, hp⟩ := gn prims
 obtain ⟨m_Link, hm_Link⟩ := gn (List.map eLink)
 rw [← hp, ← hm_Link]
 obtain ⟨_, _, _, _, _, _, _, _, _, _, _, _, _, _, _, p_len, _, _, _, _, _, _, _, _, _, _, p_full, _, _, p_own, p_opn, _⟩ := p
 have full_Link := full_gen eLink
 have own_Link := own_gen eLink (fun _ => rfl)
 simp only [HCClone_Link, ← hp, ← hm_Link] at full_Link own_Link fCClone_Link
 rw [sIcopyTopology]
 conv => lhs; cbv
 rw [fCClone_Link a0.links]
 refine cO (fun hx2 => ?_) ?_
 ·rw [hx2]; try rfl
 rintro r1 hx2
 rw [hx2]
 conv => lhs; cbv
 rw [if_pos (full_Link _)]
 conv => lhs; cbv
 rw [own_Link]
 conv => lhs; cbv
 try rfl
theorem eCClone_string (F : Fns) : HCClone_string (EvF F Tryz.f120 (fun _ => [])) := by
 intro a0
 unfold EvF
 obtain ⟨p, hp⟩ := gn prims
 obtain ⟨m_string, hm_string⟩ := gn (List.map eS)
 rw [← hp, ← hm_string]
 obtain ⟨_, _, _, _, _, _, _, _, _, _, _, _, _, _, _, p_len, _, _, _, _, _, _, _, p_rapp, p_rlen, p_addN, p_full, p_fits, _, p_own, p_opn, p_lend, _, _, p_both, _⟩ := p
 have h_both : @p_both = @Prims.both prims := congrArg (fun q : Prims => @Prims.both q) hp
 have addn0_string := @addn0F_string
 have fits0_string := @fits0F_string
 have full_string := full_gen eS
 have lend_string := @lendF_string
 have leni_string := @leniF_string
 have nild_string := @nildF_string
 have own_string := own_gen eS (fun _ => rfl)
 have rapp0_string := @rapp0F_string
 simp only [← hp, ← hm_string] at addn0_string fits0_string full_string lend_string nild_string own_string rapp0_string
 simp only [← hp, ← hm_string] at leni_string
 rw [sCClone_string, ← hp, ← hm_string]
 dsimp only
 conv => lhs; cbv
 rw [h_both]
 refine bothO_eq ?_ (fun h0 => ?_)
 ·conv => lhs; cbv
  rw [lend_string]
  conv => lhs; cbv
  refine cD (fun hb1 => ?_) fun hb1 => ?_
  ·rw [if_neg (fun x => Bool.noConfusion (hb1.symm.trans x.1))]; try rfl
  rw [if_pos ⟨hb1, trivial⟩]
  conv => lhs; cbv
  rw [rapp0_string, addn0_string]
  conv => lhs; cbv
  rw [if_pos (full_string _)]
  conv => lhs; cbv
  rw [own_string]
  conv => lhs; cbv
  try rfl
 ·obtain rfl := leni_string _ h0
  rw [fits0_string]
  simp only [cond_true, Option.bind_some, nild_string]
theorem eIcopyName (F : Fns) (fCClone_string : HCClone_string (F 120)) : HIcopyName (EvF F Tryz.f89 (fun _ => [])) := by
 intro a0
 unfold EvF
 obtain ⟨p, hp⟩ := gn prims
 obtain ⟨m_string, hm_string⟩ := gn (List.map eS)
 rw [← hp, ← hm_string]
 obtain ⟨_, _, _, _, _, _, _, _, _, _, _, _, _, _, _, p_len, _, _, _, _, _, _, _, _, _, _, p_full, _, _, p_own, p_opn, _⟩ := p
 have full_string := full_gen eS
 have own_string := own_gen eS (fun _ => rfl)
 simp only [HCClone_string, ← hp, ← hm_string] at full_string own_string fCClone_string
 rw [sIcopyName]
 conv => lhs; cbv
 rw [fCClone_string a0]
 refine cO (fun hx2 => ?_) ?_
 ·rw [hx2]; try rfl
 rintro r1 hx2
 rw [hx2]
 conv => lhs; cbv
 rw [if_pos (full_string _)]
 conv => lhs; cbv
 rw [own_string]
 conv => lhs; cbv
 try rfl
theorem eIcopyTable_1 (F : Fns) : HIcopyTable_1 (EvF F Tryz.f122 (fun _ => [])) := by
 intro a0
 unfold EvF
 obtain ⟨p, hp⟩ := gn prims
 obtain ⟨m_string, hm_string⟩ := gn (List.map eS)
 rw [← hp, ← hm_string]
 rw [sIcopyTable_1]
 conv => lhs; cbv
 try rfl
theorem eIkeepTable__copyTable_1 (F : Fns) (fIcopyTable_1 : HIcopyTable_1 (F 122)) (fIcopyName : HIcopyName (F 89)) : HIkeepTable__copyTable_1 (EvF F Tryz.f121 (fun id => if id = 3 then [1, 5, 9, 10, 11] else [])) := by
 intro a0
 unfold EvF
 obtain ⟨p, hp⟩ := gn prims
 obtain ⟨m_TableEntry, hm_TableEntry⟩ := gn (List.map eTableEntry)
 obtain ⟨m_string, hm_string⟩ := gn (List.map eS)
 rw [← hp, ← hm_TableEntry]
 obtain ⟨p_arith, p_cmp, _, _, _, _, _, _, _, _, _, _, _, _, _, p_len, p_int, p_nth, _, _, _, _, _, p_rapp, p_rlen, p_addN, p_full, p_fits, _, p_own, p_opn, _⟩ := p
 have addn_TableEntry := addn_gen eTableEntry
 have full_TableEntry := full_gen eTableEntry
 have full_string := full_gen eS
 have len0_TableEntry := @len0F_TableEntry
 have lit_TableEntry := @litF_TableEntry
 have nth_TableEntry := @nthF_TableEntry
 have opn0_TableEntry := @opn0F_TableEntry
 have own_TableEntry := own_gen eTableEntry (fun _ => rfl)
 have own_string := own_gen eS (fun _ => rfl)
 have rapp_TableEntry := rapp_gen eTableEntry
 simp only [HIcopyTable_1, HIcopyName, ← hp, ← hm_TableEntry, ← hm_string] at addn_TableEntry full_TableEntry full_string len0_TableEntry lit_TableEntry nth_TableEntry opn0_TableEntry own_TableEntry own_string rapp_TableEntry fIcopyTable_1 fIcopyName
 generalize hal : alp = al
 rw [sIkeepTable__copyTable_1]
 conv => lhs; cbv
 refine (loop_al hal (fun x => match x with | (v1, v2) => ⟨[dd, .c (.fn 122 []), dd, dd, dd, .c (.row (0, 0, 0) 89 2 0 (p_len (m_TableEntry v2))), dd, dd, dd, .c (.rd true 89 2 (m_TableEntry a0)), .c (.at (.int .i64 (p_int (p_len (m_TableEntry a0))))), .c (.at (.int .i64 v1)), dd, dd, dd, dd, dd, dd, dd, dd, dd, dd, dd, dd, dd, dd, dd, dd, dd], [((0, 0, 0), ⟨true, false, 89, 2, p_opn (m_TableEntry v2)⟩)], 1⟩) (sIkeepTable__copyTable_1_l1 a0) (fun K g => match g with | (v1, v2) => K (.exit 0) ⟨[dd, .c (.fn 122 []), dd, dd, dd, .c (.row (0, 0, 0) 89 2 0 (p_len (m_TableEntry v2))), dd, dd, dd, .c (.rd true 89 2 (m_TableEntry a0)), .c (.at (.int .i64 (p_int (p_len (m_TableEntry a0))))), .c (.at (.int .i64 v1)), .c (.at (.bool false)), dd, dd, dd, dd, dd, dd, dd, dd, dd, dd, dd, dd, dd, dd, dd, dd], [((0, 0, 0), ⟨true, false, 89, 2, p_opn (m_TableEntry v2)⟩)], 2⟩) ?_ (0, []) _ (by simp only [opn0_TableEntry, len0_TableEntry]; rfl)).trans (cL ?_)
 ·rintro K1 hr1 ⟨v1, v2⟩ R1
  rw [sIkeepTable__copyTable_1_l1, ← hp, ← hm_TableEntry]
  dsimp only
  conv => lhs; cbv
  refine cD (fun hb3 => ?_) fun hb3 => ?_
  ·rw [hb3]
   conv => lhs; cbv
   try rfl
  rw [hb3]
  conv => lhs; cbv
  rw [nth_TableEntry]
  refine cO (fun hx5 => ?_) ?_
  ·rw [hx5]; try rfl
  rintro x4 hx5
  rw [hx5]
  conv => lhs; cbv
  rw [fIcopyTable_1 x4]
  refine cO (fun hx7 => ?_) ?_
  ·rw [hx7]; try rfl
  rintro r6 hx7
  rw [hx7]
  conv => lhs; cbv
  refine cD (fun hb8 => ?_) fun hb8 => ?_
  ·rw [hb8]
   conv => lhs; cbv
   try rfl
  rw [hb8]
  conv => lhs; cbv
  rw [fIcopyName x4.name]
  refine cO (fun hx10 => ?_) ?_
  ·rw [hx10]; try rfl
  rintro r9 hx10
  rw [hx10]
  conv => lhs; cbv
  rw [if_pos (full_string _)]
  conv => lhs; cbv
  rw [own_string]
  conv => lhs; cbv
  rw [lit_TableEntry]
  refine cD (fun hb11 => ?_) fun hb11 => ?_
  ·rw [if_neg (fun x => Bool.noConfusion (hb11.symm.trans x.2.1))]; try rfl
  rw [if_pos ⟨full_TableEntry _, hb11, trivial⟩]
  conv => lhs; cbv
  rw [rapp_TableEntry, addn_TableEntry]
  conv => lhs; cbv
  try rfl
 rintro ⟨w12, w13⟩
 conv => lhs; cbv
 rw [if_pos (full_TableEntry _)]
 conv => lhs; cbv
 rw [own_TableEntry]
 conv => lhs; cbv
 try rfl
theorem eIcopyTable (F : Fns) (fIkeepTable__copyTable_1 : HIkeepTable__copyTable_1 (F 121)) : HIcopyTable (EvF F Tryz.f90 (fun _ => [])) := by
 intro a0
 unfold EvF
 obtain ⟨p, hp⟩ := gn prims
 obtain ⟨m_TableEntry, hm_TableEntry⟩ := gn (List.map eTableEntry)
 rw [← hp, ← hm_TableEntry]
 obtain ⟨_, _, _, _, _, _, _, _, _, _, _, _, _, _, _, p_len, _, _, _, _, _, _, _, _, _, _, p_full, _, _, p_own, p_opn, _⟩ := p
 have full_TableEntry := full_gen eTableEntry
 have own_TableEntry := own_gen eTableEntry (fun _ => rfl)
 simp only [HIkeepTable__copyTable_1, ← hp, ← hm_TableEntry] at full_TableEntry own_TableEntry fIkeepTable__copyTable_1
 rw [sIcopyTable]
 conv => lhs; cbv
 rw [fIkeepTable__copyTable_1 a0]
 refine cO (fun hx2 => ?_) ?_
 ·rw [hx2]; try rfl
 rintro r1 hx2
 rw [hx2]
 conv => lhs; cbv
 rw [if_pos (full_TableEntry _)]
 conv => lhs; cbv
 rw [own_TableEntry]
 conv => lhs; cbv
 try rfl
theorem eCClone_byte (F : Fns) : HCClone_byte (EvF F Tryz.f91 (fun _ => [])) := by
 intro a0
 unfold EvF
 obtain ⟨p, hp⟩ := gn prims
 obtain ⟨m_byte, hm_byte⟩ := gn (List.map eY)
 rw [← hp, ← hm_byte]
 obtain ⟨_, _, _, _, _, _, _, _, _, _, _, _, _, _, _, p_len, _, _, _, _, _, _, _, p_rapp, p_rlen, p_addN, p_full, p_fits, _, p_own, p_opn, p_lend, _, _, p_both, _⟩ := p
 have h_both : @p_both = @Prims.both prims := congrArg (fun q : Prims => @Prims.both q) hp
 have addn0_byte := @addn0F_byte
 have fits0_byte := @fits0F_byte
 have full_byte := full_gen eY
 have lend_byte := @lendF_byte
 have leni_byte := @leniF_byte
 have nild_byte := @nildF_byte
 have own_byte := own_gen eY (fun _ => rfl)
 have rapp0_byte := @rapp0F_byte
 simp only [← hp, ← hm_byte] at addn0_byte fits0_byte full_byte lend_byte nild_byte own_byte rapp0_byte
 simp only [← hp, ← hm_byte] at leni_byte
 rw [sCClone_byte, ← hp, ← hm_byte]
 dsimp only
 conv => lhs; cbv
 rw [h_both]
 refine bothO_eq ?_ (fun h0 => ?_)
 ·conv => lhs; cbv
  rw [lend_byte]
  conv => lhs; cbv
  refine cD (fun hb1 => ?_) fun hb1 => ?_
  ·rw [if_neg (fun x => Bool.noConfusion (hb1.symm.trans x.1))]; try rfl
  rw [if_pos ⟨hb1, trivial⟩]
  conv => lhs; cbv
  rw [rapp0_byte, addn0_byte]
  conv => lhs; cbv
  rw [if_pos (full_byte _)]
  conv => lhs; cbv
  rw [own_byte]
  conv => lhs; cbv
  try rfl
 ·obtain rfl := leni_byte _ h0
  rw [fits0_byte]
  simp only [cond_true, Option.bind_some, nild_byte]
theorem eIcopyMember (F : Fns) (fIcopyName : HIcopyName (F 89)) (fIcopyTable : HIcopyTable (F 90)) (fCClone_byte : HCClone_byte (F 91)) : HIcopyMember (EvF F Tryz.f49 (fun id => if id = 3 then [2, 3, 16, 17, 18] else [])) := by
 intro a0
 unfold EvF
 obtain ⟨p, hp⟩ := gn prims
 obtain ⟨m_Publication, hm_Publication⟩ := gn (List.map ePublication)
 obtain ⟨m_TableEntry, hm_TableEntry⟩ := gn (List.map eTableEntry)
 obtain ⟨m_byte, hm_byte⟩ := gn (List.map eY)
 obtain ⟨m_string, hm_string⟩ := gn (List.map eS)
 rw [← hp, ← hm_Publication, ← hm_TableEntry, ← hm_string]
 obtain ⟨p_arith, p_cmp, _, _, _, _, _, _, _, _, _, _, _, _, _, p_len, p_int, p_nth, _, _, _, _, _, p_rapp, p_rlen, p_addN, p_full, p_fits, _, p_own, p_opn, _⟩ := p
 have addn_Publication := addn_gen ePublication
 have full_Publication := full_gen ePublication
 have full_TableEntry := full_gen eTableEntry
 have full_byte := full_gen eY
 have full_string := full_gen eS
 have len0_Publication := @len0F_Publication
 have len0_TableEntry := @len0F_TableEntry
 have len0_string := @len0F_string
 have lit_Publication := @litF_Publication
 have nth_Publication := @nthF_Publication
 have opn0_Publication := @opn0F_Publication
 have opn0_TableEntry := @opn0F_TableEntry
 have opn0_string := @opn0F_string
 have own_Publication := own_gen ePublication (fun _ => rfl)
 have own_TableEntry := own_gen eTableEntry (fun _ => rfl)
 have own_byte := own_gen eY (fun _ => rfl)
 have own_string := own_gen eS (fun _ => rfl)
 have rapp_Publication := rapp_gen ePublication
 simp only [HIcopyName, HIcopyTable, HCClone_byte, ← hp, ← hm_Publication, ← hm_TableEntry, ← hm_byte, ← hm_string] at addn_Publication full_Publication full_TableEntry full_byte full_string len0_Publication len0_TableEntry len0_string lit_Publication nth_Publication opn0_Publication opn0_TableEntry opn0_string own_Publication own_TableEntry own_byte own_string rapp_Publication fIcopyName fIcopyTable fCClone_byte
 generalize hal : alp = al
 rw [sIcopyMember]
 conv => lhs; cbv
 rw [fIcopyName a0.name]
 refine cO (fun hx2 => ?_) ?_
 ·rw [hx2]; try rfl
 rintro r1 hx2
 rw [hx2]
 conv => lhs; cbv
 rw [fIcopyTable a0.vector]
 refine cO (fun hx4 => ?_) ?_
 ·rw [hx4]; try rfl
 rintro r3 hx4
 rw [hx4]
 conv => lhs; cbv
 refine (loop_al hal (fun x => match x with | (v5, v6) => ⟨[dd, dd, .c (.ptr (0, 0, 0) 3 0 0), .c (.ptr (0, 0, 4) 3 0 0), dd, dd, dd, dd, dd, dd, dd, dd, dd, dd, dd, dd, .c (.rd true 93 3 (m_Publication a0.publications)), .c (.at (.int .i64 (p_int (p_len (m_Publication a0.publications))))), .c (.at (.int .i64 v5)), dd, dd, dd, dd, dd, dd, dd, dd, dd, dd, dd, dd, dd, dd, dd, dd, dd, dd, dd], [((0, 0, 4), ⟨false, true, 61, 3, [[.row (0, 0, 5) 9 1 0 (p_len (m_string r1)), .row (0, 0, 6) 89 2 0 (p_len (m_TableEntry r3)), .row (0, 0, 7) 93 3 0 (p_len (m_Publication v6))]]⟩), ((0, 0, 0), ⟨false, true, 61, 3, [[.row (0, 0, 1) 9 1 0 (p_len (m_string [])), .row (0, 0, 2) 89 2 0 (p_len (m_TableEntry [])), .row (0, 0, 3) 93 3 0 (p_len (m_Publication []))]]⟩), ((0, 0, 1), ⟨true, false, 9, 1, p_opn (m_string [])⟩), ((0, 0, 2), ⟨true, false, 89, 2, p_opn (m_TableEntry [])⟩), ((0, 0, 3), ⟨true, false, 93, 3, p_opn (m_Publication [])⟩), ((0, 0, 5), ⟨true, false, 9, 1, p_opn (m_string r1)⟩), ((0, 0, 6), ⟨true, false, 89, 2, p_opn (m_TableEntry r3)⟩), ((0, 0, 7), ⟨true, false, 93, 3, p_opn (m_Publication v6)⟩)], 1⟩) (sIcopyMember_l1 a0) (fun K g => match g with | (v5, v6) => K (.exit 0) ⟨[dd, dd, .c (.ptr (0, 0, 0) 3 0 0), .c (.ptr (0, 0, 4) 3 0 0), dd, dd, dd, dd, dd, dd, dd, dd, dd, dd, dd, dd, .c (.rd true 93 3 (m_Publication a0.publications)), .c (.at (.int .i64 (p_int (p_len (m_Publication a0.publications))))), .c (.at (.int .i64 v5)), .c (.at (.bool false)), dd, dd, dd, dd, dd, dd, dd, dd, dd, dd, dd, dd, dd, dd, dd, dd, dd, dd], [((0, 0, 4), ⟨false, true, 61, 3, [[.row (0, 0, 5) 9 1 0 (p_len (m_string r1)), .row (0, 0, 6) 89 2 0 (p_len (m_TableEntry r3)), .row (0, 0, 7) 93 3 0 (p_len (m_Publication v6))]]⟩), ((0, 0, 0), ⟨false, true, 61, 3, [[.row (0, 0, 1) 9 1 0 (p_len (m_string [])), .row (0, 0, 2) 89 2 0 (p_len (m_TableEntry [])), .row (0, 0, 3) 93 3 0 (p_len (m_Publication []))]]⟩), ((0, 0, 1), ⟨true, false, 9, 1, p_opn (m_string [])⟩), ((0, 0, 2), ⟨true, false, 89, 2, p_opn (m_TableEntry [])⟩), ((0, 0, 3), ⟨true, false, 93, 3, p_opn (m_Publication [])⟩), ((0, 0, 5), ⟨true, false, 9, 1, p_opn (m_string r1)⟩), ((0, 0, 6), ⟨true, false, 89, 2, p_opn (m_TableEntry r3)⟩), ((0, 0, 7), ⟨true, false, 93, 3, p_opn (m_Publication v6)⟩)], 2⟩) ?_ (0, []) _ (by simp only [opn0_Publication, len0_Publication, opn0_TableEntry, len0_TableEntry, opn0_string, len0_string]; rfl)).trans (cL ?_)
 ·rintro K1 hr1 ⟨v5, v6⟩ R1
  rw [sIcopyMember_l1, ← hp, ← hm_Publication]
  dsimp only
  conv => lhs; cbv
  refine cD (fun hb7 => ?_) fun hb7 => ?_
  ·rw [hb7]
   conv => lhs; cbv
   try rfl
  rw [hb7]
  conv => lhs; cbv
  rw [nth_Publication]
  refine cO (fun hx9 => ?_) ?_
  ·rw [hx9]; try rfl
  rintro x8 hx9
  rw [hx9]
  conv => lhs; cbv
  rw [fIcopyName x8.publisher]
  refine cO (fun hx11 => ?_) ?_
  ·rw [hx11]; try rfl
  rintro r10 hx11
  rw [hx11]
  conv => lhs; cbv
  rw [fCClone_byte x8.content]
  refine cO (fun hx13 => ?_) ?_
  ·rw [hx13]; try rfl
  rintro r12 hx13
  rw [hx13]
  conv => lhs; cbv
  rw [if_pos (full_string _)]
  conv => lhs; cbv
  rw [own_string]
  conv => lhs; cbv
  rw [if_pos (full_byte _)]
  conv => lhs; cbv
  rw [own_byte]
  conv => lhs; cbv
  rw [lit_Publication]
  refine cD (fun hb14 => ?_) fun hb14 => ?_
  ·rw [if_neg (fun x => Bool.noConfusion (hb14.symm.trans x.2.1))]; try rfl
  rw [if_pos ⟨full_Publication _, hb14, trivial⟩]
  conv => lhs; cbv
  rw [rapp_Publication, addn_Publication]
  conv => lhs; cbv
  try rfl
 rintro ⟨w15, w16⟩
 conv => lhs; cbv
 rw [if_pos (full_string _)]
 conv => lhs; cbv
 rw [own_string]
 conv => lhs; cbv
 rw [if_pos (full_TableEntry _)]
 conv => lhs; cbv
 rw [own_TableEntry]
 conv => lhs; cbv
 rw [if_pos (full_Publication _)]
 conv => lhs; cbv
 rw [own_Publication]
 conv => lhs; cbv
 try rfl
theorem eIcopyGroup (F : Fns) (fIcopyTopology : HIcopyTopology (F 48)) (fIcopyMember : HIcopyMember (F 49)) : HIcopyGroup (EvF F Tryz.f25 (fun id => if id = 3 then [2, 3, 11, 12, 13] else [])) := by
 intro a0
 unfold EvF
 obtain ⟨p, hp⟩ := gn prims
 obtain ⟨m_Link, hm_Link⟩ := gn (List.map eLink)
 obtain ⟨m_Member, hm_Member⟩ := gn (List.map eMember)
 obtain ⟨m_Publication, hm_Publication⟩ := gn (List.map ePublication)
 obtain ⟨m_TableEntry, hm_TableEntry⟩ := gn (List.map eTableEntry)
 obtain ⟨m_string, hm_string⟩ := gn (List.map eS)
 rw [← hp, ← hm_Link, ← hm_Member]
 obtain ⟨p_arith, p_cmp, _, _, _, _, _, _, _, _, _, _, _, _, _, p_len, p_int, p_nth, _, _, _, _, _, p_rapp, p_rlen, p_addN, p_full, p_fits, _, p_own, p_opn, _⟩ := p
 have addn_Member := addn_gen eMember
 have full_Link := full_gen eLink
 have full_Member := full_gen eMember
 have full_Publication := full_gen ePublication
 have full_TableEntry := full_gen eTableEntry
 have full_string := full_gen eS
 have len0_Link := @len0F_Link
 have len0_Member := @len0F_Member
 have lit_Member := @litF_Member
 have nth_Member := @nthF_Member
 have opn0_Link := @opn0F_Link
 have opn0_Member := @opn0F_Member
 have own_Link := own_gen eLink (fun _ => rfl)
 have own_Member := own_gen eMember (fun _ => rfl)
 have own_Publication := own_gen ePublication (fun _ => rfl)
 have own_TableEntry := own_gen eTableEntry (fun _ => rfl)
 have own_string := own_gen eS (fun _ => rfl)
 have rapp_Member := rapp_gen eMember
 simp only [HIcopyTopology, HIcopyMember, ← hp, ← hm_Member, ← hm_Link, ← hm_Publication, ← hm_TableEntry, ← hm_string] at addn_Member full_Link full_Member full_Publication full_TableEntry full_string len0_Link len0_Member lit_Member nth_Member opn0_Link opn0_Member own_Link own_Member own_Publication own_TableEntry own_string rapp_Member fIcopyTopology fIcopyMember
 generalize hal : alp = al
 rw [sIcopyGroup]
 conv => lhs; cbv
 rw [fIcopyTopology a0.topology]
 refine cO (fun hx2 => ?_) ?_
 ·rw [hx2]; try rfl
 rintro r1 hx2
 rw [hx2]
 conv => lhs; cbv
 refine (loop_al hal (fun x => match x with | (v3, v4) => ⟨[dd, dd, .c (.ptr (0, 0, 0) 3 0 0), .c (.ptr (0, 0, 3) 3 0 0), dd, dd, dd, dd, dd, dd, dd, .c (.rd true 61 3 (m_Member a0.members)), .c (.at (.int .i64 (p_int (p_len (m_Member a0.members))))), .c (.at (.int .i64 v3)), dd, dd, dd, dd, dd, dd, dd, dd, dd, dd, dd, dd], [((0, 0, 3), ⟨false, true, 35, 3, [[.at (.int .i64 r1.size), .row (0, 0, 4) 52 2 0 (p_len (m_Link r1.links)), .row (0, 0, 5) 61 3 0 (p_len (m_Member v4))]]⟩), ((0, 0, 0), ⟨false, true, 35, 3, [[.at (.int .i64 0), .row (0, 0, 1) 52 2 0 (p_len (m_Link [])), .row (0, 0, 2) 61 3 0 (p_len (m_Member []))]]⟩), ((0, 0, 1), ⟨true, false, 52, 2, p_opn (m_Link [])⟩), ((0, 0, 2), ⟨true, false, 61, 3, p_opn (m_Member [])⟩), ((0, 0, 4), ⟨true, false, 52, 2, p_opn (m_Link r1.links)⟩), ((0, 0, 5), ⟨true, false, 61, 3, p_opn (m_Member v4)⟩)], 1⟩) (sIcopyGroup_l1 a0) (fun K g => match g with | (v3, v4) => K (.exit 0) ⟨[dd, dd, .c (.ptr (0, 0, 0) 3 0 0), .c (.ptr (0, 0, 3) 3 0 0), dd, dd, dd, dd, dd, dd, dd, .c (.rd true 61 3 (m_Member a0.members)), .c (.at (.int .i64 (p_int (p_len (m_Member a0.members))))), .c (.at (.int .i64 v3)), .c (.at (.bool false)), dd, dd, dd, dd, dd, dd, dd, dd, dd, dd, dd], [((0, 0, 3), ⟨false, true, 35, 3, [[.at (.int .i64 r1.size), .row (0, 0, 4) 52 2 0 (p_len (m_Link r1.links)), .row (0, 0, 5) 61 3 0 (p_len (m_Member v4))]]⟩), ((0, 0, 0), ⟨false, true, 35, 3, [[.at (.int .i64 0), .row (0, 0, 1) 52 2 0 (p_len (m_Link [])), .row (0, 0, 2) 61 3 0 (p_len (m_Member []))]]⟩), ((0, 0, 1), ⟨true, false, 52, 2, p_opn (m_Link [])⟩), ((0, 0, 2), ⟨true, false, 61, 3, p_opn (m_Member [])⟩), ((0, 0, 4), ⟨true, false, 52, 2, p_opn (m_Link r1.links)⟩), ((0, 0, 5), ⟨true, false, 61, 3, p_opn (m_Member v4)⟩)], 2⟩) ?_ (0, []) _ (by simp only [opn0_Link, len0_Link, opn0_Member, len0_Member]; rfl)).trans (cL ?_)
 ·rintro K1 hr1 ⟨v3, v4⟩ R1
  rw [sIcopyGroup_l1, ← hp, ← hm_Member]
  dsimp only
  conv => lhs; cbv
  refine cD (fun hb5 => ?_) fun hb5 => ?_
  ·rw [hb5]
   conv => lhs; cbv
   try rfl
  rw [hb5]
  conv => lhs; cbv
  rw [nth_Member]
  refine cO (fun hx7 => ?_) ?_
  ·rw [hx7]; try rfl
  rintro x6 hx7
  rw [hx7]
  conv => lhs; cbv
  rw [fIcopyMember x6]
  refine cO (fun hx9 => ?_) ?_
  ·rw [hx9]; try rfl
  rintro r8 hx9
  rw [hx9]
  conv => lhs; cbv
  rw [if_pos (full_string _)]
  conv => lhs; cbv
  rw [own_string]
  conv => lhs; cbv
  rw [if_pos (full_TableEntry _)]
  conv => lhs; cbv
  rw [own_TableEntry]
  conv => lhs; cbv
  rw [if_pos (full_Publication _)]
  conv => lhs; cbv
  rw [own_Publication]
  conv => lhs; cbv
  rw [lit_Member]
  refine cD (fun hb10 => ?_) fun hb10 => ?_
  ·rw [if_neg (fun x => Bool.noConfusion (hb10.symm.trans x.2.1))]; try rfl
  rw [if_pos ⟨full_Member _, hb10, trivial⟩]
  conv => lhs; cbv
  rw [rapp_Member, addn_Member]
  conv => lhs; cbv
  try rfl
 rintro ⟨w11, w12⟩
 conv => lhs; cbv
 rw [if_pos (full_Link _)]
 conv => lhs; cbv
 rw [own_Link]
 conv => lhs; cbv
 rw [if_pos (full_Member _)]
 conv => lhs; cbv
 rw [own_Member]
 conv => lhs; cbv
 try rfl
theorem eIInRange (F : Fns) : HIInRange (EvF F Tryz.f35 (fun _ => [])) := by
 intro a0 a1 a2
 unfold EvF
 obtain ⟨p, hp⟩ := gn prims
 rw [← hp]
 obtain ⟨_, p_cmp, _⟩ := p
 rw [sIInRange, ← hp]
 dsimp only
 conv => lhs; cbv
 refine cC (fun hb1 => ?_) fun hb1 => ?_
 ·rw [hb1]
  conv => lhs; cbv
  try rfl
 rw [hb1]
 conv => lhs; cbv
 try rfl
theorem e_s_cmp_isNaN_int (F : Fns) : Hs_s_cmp_isNaN_int (EvF F Tryz.f147 (fun _ => [])) := by
 intro a0
 unfold EvF
 obtain ⟨p, hp⟩ := gn prims
 rw [← hp]
 obtain ⟨_, p_cmp, _⟩ := p
 rw [s_cmp_isNaN_int, ← hp]
 dsimp only
 conv => lhs; cbv
 try rfl
theorem e_s_cmp_Compare_int (F : Fns) (f_cmp_isNaN_int : Hs_s_cmp_isNaN_int (F 147)) : Hs_s_cmp_Compare_int (EvF F Tryz.f124 (fun _ => [])) := by
 intro a0 a1
 unfold EvF
 obtain ⟨p, hp⟩ := gn prims
 rw [← hp]
 obtain ⟨_, p_cmp, _⟩ := p
 simp only [Hs_s_cmp_isNaN_int] at f_cmp_isNaN_int
 rw [s_cmp_Compare_int, ← hp]
 dsimp only
 conv => lhs; cbv
 rw [f_cmp_isNaN_int a0]
 refine cO (fun hx2 => ?_) ?_
 ·rw [hx2]; try rfl
 rintro r1 hx2
 rw [hx2]
 conv => lhs; cbv
 rw [f_cmp_isNaN_int a1]
 refine cO (fun hx4 => ?_) ?_
 ·rw [hx4]; try rfl
 rintro r3 hx4
 rw [hx4]
 conv => lhs; cbv
 refine cC (fun hb5 => ?_) fun hb5 => ?_
 ·rw [hb5]
  conv => lhs; cbv
  refine cC (fun hb6 => ?_) fun hb6 => ?_
  ·rw [hb6]
   conv => lhs; cbv
   try rfl
  rw [hb6]
  conv => lhs; cbv
  try rfl
 rw [hb5]
 conv => lhs; cbv
 refine cC (fun hb7 => ?_) fun hb7 => ?_
 ·rw [hb7]
  conv => lhs; cbv
  try rfl
 rw [hb7]
 conv => lhs; cbv
 refine cC (fun hb8 => ?_) fun hb8 => ?_
 ·rw [hb8]
  conv => lhs; cbv
  try rfl
 rw [hb8]
 conv => lhs; cbv
 refine cC (fun hb9 => ?_) fun hb9 => ?_
 ·rw [hb9]
  conv => lhs; cbv
  try rfl
 rw [hb9]
 conv => lhs; cbv
 try rfl
theorem e_s_cmp_Or_int (F : Fns) : Hs_s_cmp_Or_int (EvF F Tryz.f123 (fun id => if id = 3 then [3, 6, 7, 8] else [])) := by
 intro a0
 unfold EvF
 obtain ⟨p, hp⟩ := gn prims
 obtain ⟨m_int, hm_int⟩ := gn (List.map eI)
 rw [← hp, ← hm_int]
 obtain ⟨p_arith, p_cmp, _, _, _, _, _, _, _, _, _, _, _, _, _, p_len, p_int, p_nth, _⟩ := p
 have nth_int := @nthF_int
 simp only [← hp, ← hm_int] at nth_int
 generalize hal : alp = al
 rw [s_cmp_Or_int]
 conv => lhs; cbv
 refine (loop_al hal (fun v1 => ⟨[dd, dd, dd, .c (.at (.int .i64 0)), dd, dd, .c (.rd true 3 1 (m_int a0)), .c (.at (.int .i64 (p_int (p_len (m_int a0))))), .c (.at (.int .i64 v1)), dd, dd, dd, dd, dd, dd, dd, dd, dd], [], 1⟩) (s_cmp_Or_int_l1 a0) (fun K g => match g with | .inl v1 => K (.exit 0) ⟨[dd, dd, dd, .c (.at (.int .i64 0)), dd, dd, .c (.rd true 3 1 (m_int a0)), .c (.at (.int .i64 (p_int (p_len (m_int a0))))), .c (.at (.int .i64 v1)), .c (.at (.bool false)), dd, dd, dd, dd, dd, dd, dd, dd], [], 2⟩ | .inr (r) => some [.v (.at (.int .i64 r))]) ?_ 0 _ (rfl)).trans (cL ?_)
 ·rintro K1 hr1 v1 R1
  rw [s_cmp_Or_int_l1, ← hp, ← hm_int]
  dsimp only
  conv => lhs; cbv
  refine cD (fun hb2 => ?_) fun hb2 => ?_
  ·rw [hb2]
   conv => lhs; cbv
   try rfl
  rw [hb2]
  conv => lhs; cbv
  rw [nth_int]
  refine cO (fun hx4 => ?_) ?_
  ·rw [hx4]; try rfl
  rintro x3 hx4
  rw [hx4]
  conv => lhs; cbv
  refine cD (fun hb5 => ?_) fun hb5 => ?_
  ·rw [hb5]
   conv => lhs; cbv
   try rfl
  rw [hb5]
  conv => lhs; cbv
  rw [hr1]
  conv => lhs; cbv
  try rfl
 rintro (w6 | w7)
 ·conv => lhs; cbv
  try rfl
 rfl
theorem eIcompareLinks (F : Fns) (f_cmp_Compare_int : Hs_s_cmp_Compare_int (F 124)) (f_cmp_Or_int : Hs_s_cmp_Or_int (F 123)) : HIcompareLinks (EvF F Tryz.f92 (fun _ => [])) := by
 intro a0 a1
 unfold EvF
 obtain ⟨p, hp⟩ := gn prims
 obtain ⟨m_int, hm_int⟩ := gn (List.map eI)
 rw [← hp]
 have mcons_int := @mconsF_int
 have nild_int := @nildF_int
 simp only [Hs_s_cmp_Compare_int, Hs_s_cmp_Or_int, ← hm_int] at mcons_int nild_int f_cmp_Compare_int f_cmp_Or_int
 rw [sIcompareLinks]
 conv => lhs; cbv
 rw [f_cmp_Compare_int a0.a a1.a]
 refine cO (fun hx2 => ?_) ?_
 ·rw [hx2]; try rfl
 rintro r1 hx2
 rw [hx2]
 conv => lhs; cbv
 rw [f_cmp_Compare_int a0.b a1.b]
 refine cO (fun hx4 => ?_) ?_
 ·rw [hx4]; try rfl
 rintro r3 hx4
 rw [hx4]
 conv => lhs; cbv
 have hc := f_cmp_Or_int [r1, r3]
 simp only [mcons_int, nild_int] at hc
 rw [hc]
 clear hc
 refine cO (fun hx6 => ?_) ?_
 ·rw [hx6]; try rfl
 rintro r5 hx6
 rw [hx6]
 conv => lhs; cbv
 try rfl
theorem eIValidTopology (F : Fns) (fIInRange : HIInRange (F 35)) (fIcompareLinks : HIcompareLinks (F 92)) : HIValidTopology (EvF F Tryz.f50 (fun id => if id = 2 then [1, 6, 7, 8] else [])) := by
 intro a0
 unfold EvF
 obtain ⟨p, hp⟩ := gn prims
 obtain ⟨m_Link, hm_Link⟩ := gn (List.map eLink)
 rw [← hp, ← hm_Link]
 obtain ⟨p_arith, p_cmp, _, _, _, _, _, _, _, _, _, p_bnot, _, _, _, p_len, p_int, p_nth, _⟩ := p
 have nth_Link := @nthF_Link
 simp only [HIInRange, HIcompareLinks, ← hp, ← hm_Link] at nth_Link fIInRange fIcompareLinks
 generalize hal : alp = al
 rw [sIValidTopology]
 conv => lhs; cbv
 refine (loop_al hal (fun v1 => ⟨[dd, .c (.ptr (0, 0, 0) 2 0 0), dd, dd, dd, dd, .c (.rd true 52 2 (m_Link a0.links)), .c (.at (.int .i64 (p_int (p_len (m_Link a0.links))))), .c (.at (.int .i64 v1)), dd, dd, dd, dd, dd, dd, dd, dd, dd, dd, dd, dd, dd, dd, dd, dd, dd, dd, dd, dd, dd, dd, dd, dd, dd, dd, dd, dd, dd, dd, dd, dd, dd, dd, dd, dd, dd, dd, dd, dd, dd, dd], [((0, 0, 0), ⟨false, true, 32, 2, [[.at (.int .i64 a0.size), .rd true 52 2 (m_Link a0.links)]]⟩)], 1⟩) (sIValidTopology_l1 a0) (fun K g => match g with | .inl v1 => K (.exit 0) ⟨[dd, .c (.ptr (0, 0, 0) 2 0 0), dd, dd, dd, dd, .c (.rd true 52 2 (m_Link a0.links)), .c (.at (.int .i64 (p_int (p_len (m_Link a0.links))))), .c (.at (.int .i64 v1)), .c (.at (.bool false)), dd, dd, dd, dd, dd, dd, dd, dd, dd, dd, dd, dd, dd, dd, dd, dd, dd, dd, dd, dd, dd, dd, dd, dd, dd, dd, dd, dd, dd, dd, dd, dd, dd, dd, dd, dd, dd, dd, dd, dd, dd], [((0, 0, 0), ⟨false, true, 32, 2, [[.at (.int .i64 a0.size), .rd true 52 2 (m_Link a0.links)]]⟩)], 2⟩ | .inr (r) => some [.v (.at (.bool r))]) ?_ 0 _ (rfl)).trans (cL ?_)
 ·rintro K1 hr1 v1 R1
  rw [sIValidTopology_l1, ← hp, ← hm_Link]
  dsimp only
  conv => lhs; cbv
  refine cD (fun hb2 => ?_) fun hb2 => ?_
  ·rw [hb2]
   conv => lhs; cbv
   try rfl
  rw [hb2]
  conv => lhs; cbv
  rw [nth_Link]
  refine cO (fun hx4 => ?_) ?_
  ·rw [hx4]; try rfl
  rintro x3 hx4
  rw [hx4]
  conv => lhs; cbv
  rw [fIInRange x3.a 0 (p_arith .sub .i64 a0.size 1)]
  refine cO (fun hx6 => ?_) ?_
  ·rw [hx6]; try rfl
  rintro r5 hx6
  rw [hx6]
  conv => lhs; cbv
  refine cC (fun hb7 => ?_) fun hb7 => ?_
  ·rw [hb7]
   conv => lhs; cbv
   rw [hr1]
   conv => lhs; cbv
   try rfl
  rw [hb7]
  conv => lhs; cbv
  rw [fIInRange x3.b (p_arith .add .i64 x3.a 1) (p_arith .sub .i64 a0.size 1)]
  refine cO (fun hx9 => ?_) ?_
  ·rw [hx9]; try rfl
  rintro r8 hx9
  rw [hx9]
  conv => lhs; cbv
  refine cC (fun hb10 => ?_) fun hb10 => ?_
  ·rw [hb10]
   conv => lhs; cbv
   rw [hr1]
   conv => lhs; cbv
   try rfl
  rw [hb10]
  conv => lhs; cbv
  refine cD (fun hb11 => ?_) fun hb11 => ?_
  ·rw [hb11]
   conv => lhs; cbv
   try rfl
  rw [hb11]
  conv => lhs; cbv
  rw [nth_Link]
  refine cO (fun hx13 => ?_) ?_
  ·rw [hx13]; try rfl
  rintro x12 hx13
  rw [hx13]
  conv => lhs; cbv
  rw [fIcompareLinks x12 x3]
  refine cO (fun hx15 => ?_) ?_
  ·rw [hx15]; try rfl
  rintro r14 hx15
  rw [hx15]
  conv => lhs; cbv
  refine cD (fun hb16 => ?_) fun hb16 => ?_
  ·rw [hb16]
   conv => lhs; cbv
   try rfl
  rw [hb16]
  conv => lhs; cbv
  rw [hr1]
  conv => lhs; cbv
  try rfl
 rintro (w17 | w20)
 ·conv => lhs; cbv
  rw [fIInRange a0.size 1 6]
  refine cO (fun hx19 => ?_) ?_
  ·rw [hx19]; try rfl
  rintro r18 hx19
  rw [hx19]
  conv => lhs; cbv
  try rfl
 rfl
theorem eIValidPart (F : Fns) (fIInRange : HIInRange (F 35)) : HIValidPart (EvF F Tryz.f127 (fun id => if id = 2 then [0, 6, 7] else [])) := by
 intro a0
 unfold EvF
 obtain ⟨p, hp⟩ := gn prims
 rw [← hp]
 obtain ⟨p_arith, p_cmp, _, _, _, _, p_ssize, p_sat, _, _, _, p_bnot, _⟩ := p
 simp only [HIInRange] at fIInRange
 generalize hal : alp = al
 rw [sIValidPart, ← hp]
 dsimp only
 conv => lhs; cbv
 refine (loop_al hal (fun v1 => ⟨[.c (.at (.string a0)), dd, dd, dd, dd, dd, .c (.at (.int .i64 (p_ssize a0))), .c (.at (.int .i64 v1)), dd, dd, dd, dd, dd, dd, dd, dd, dd, dd, dd, dd, dd, dd, dd, dd, dd, dd, dd, dd, dd, dd, dd, dd, dd, dd, dd, dd], [], 1⟩) (sIValidPart_l1 a0) (fun K g => match g with | .inl v1 => K (.exit 0) ⟨[.c (.at (.string a0)), dd, dd, dd, dd, dd, .c (.at (.int .i64 (p_ssize a0))), .c (.at (.int .i64 v1)), .c (.at (.bool false)), dd, dd, dd, dd, dd, dd, dd, dd, dd, dd, dd, dd, dd, dd, dd, dd, dd, dd, dd, dd, dd, dd, dd, dd, dd, dd, dd], [], 2⟩ | .inr (r) => some [.v (.at (.bool r))]) ?_ 0 _ (rfl)).trans (cL ?_)
 ·rintro K1 hr1 v1 R1
  rw [sIValidPart_l1, ← hp]
  dsimp only
  conv => lhs; cbv
  refine cD (fun hb2 => ?_) fun hb2 => ?_
  ·rw [hb2]
   conv => lhs; cbv
   try rfl
  rw [hb2]
  conv => lhs; cbv
  refine cO (fun hx4 => ?_) ?_
  ·rw [hx4]; try rfl
  rintro x3 hx4
  rw [hx4]
  conv => lhs; cbv
  refine cD (fun hb5 => ?_) fun hb5 => ?_
  ·rw [hb5]
   conv => lhs; cbv
   refine cD (fun hb13 => ?_) fun hb13 => ?_
   ·rw [hb13]
    conv => lhs; cbv
    refine cD (fun hb17 => ?_) fun hb17 => ?_
    ·rw [hb17]
     conv => lhs; cbv
     try rfl
    rw [hb17]
    conv => lhs; cbv
    rw [hr1]
    conv => lhs; cbv
    try rfl
   rw [hb13]
   conv => lhs; cbv
   refine cC (fun hb14 => ?_) fun hb14 => ?_
   ·rw [hb14]
    conv => lhs; cbv
    refine cD (fun hb15 => ?_) fun hb15 => ?_
    ·rw [hb15]
     conv => lhs; cbv
     try rfl
    rw [hb15]
    conv => lhs; cbv
    rw [hr1]
    conv => lhs; cbv
    try rfl
   rw [hb14]
   conv => lhs; cbv
   refine cD (fun hb16 => ?_) fun hb16 => ?_
   ·rw [hb16]
    conv => lhs; cbv
    try rfl
   rw [hb16]
   conv => lhs; cbv
   rw [hr1]
   conv => lhs; cbv
   try rfl
  rw [hb5]
  conv => lhs; cbv
  refine cC (fun hb6 => ?_) fun hb6 => ?_
  ·rw [hb6]
   conv => lhs; cbv
   refine cD (fun hb7 => ?_) fun hb7 => ?_
   ·rw [hb7]
    conv => lhs; cbv
    try rfl
   rw [hb7]
   conv => lhs; cbv
   rw [hr1]
   conv => lhs; cbv
   try rfl
  rw [hb6]
  conv => lhs; cbv
  refine cD (fun hb8 => ?_) fun hb8 => ?_
  ·rw [hb8]
   conv => lhs; cbv
   refine cD (fun hb12 => ?_) fun hb12 => ?_
   ·rw [hb12]
    conv => lhs; cbv
    try rfl
   rw [hb12]
   conv => lhs; cbv
   rw [hr1]
   conv => lhs; cbv
   try rfl
  rw [hb8]
  conv => lhs; cbv
  refine cC (fun hb9 => ?_) fun hb9 => ?_
  ·rw [hb9]
   conv => lhs; cbv
   refine cD (fun hb10 => ?_) fun hb10 => ?_
   ·rw [hb10]
    conv => lhs; cbv
    try rfl
   rw [hb10]
   conv => lhs; cbv
   rw [hr1]
   conv => lhs; cbv
   try rfl
  rw [hb9]
  conv => lhs; cbv
  refine cD (fun hb11 => ?_) fun hb11 => ?_
  ·rw [hb11]
   conv => lhs; cbv
   try rfl
  rw [hb11]
  conv => lhs; cbv
  rw [hr1]
  conv => lhs; cbv
  try rfl
 rintro (w18 | w21)
 ·conv => lhs; cbv
  rw [fIInRange (p_ssize a0) 1 8]
  refine cO (fun hx20 => ?_) ?_
  ·rw [hx20]; try rfl
  rintro r19 hx20
  rw [hx20]
  conv => lhs; cbv
  try rfl
 rfl
theorem eIValidName_1 (F : Fns) (fIValidPart : HIValidPart (F 127)) : HIValidName_1 (EvF F Tryz.f126 (fun _ => [])) := by
 intro a0
 unfold EvF
 obtain ⟨p, hp⟩ := gn prims
 rw [← hp]
 obtain ⟨_, _, _, _, _, _, _, _, _, _, _, p_bnot, _⟩ := p
 simp only [HIValidPart] at fIValidPart
 rw [sIValidName_1, ← hp]
 dsimp only
 conv => lhs; cbv
 rw [fIValidPart a0]
 refine cO (fun hx2 => ?_) ?_
 ·rw [hx2]; try rfl
 rintro r1 hx2
 rw [hx2]
 conv => lhs; cbv
 try rfl
theorem eCIndexFunc_string__ValidName_1 (F : Fns) (fIValidName_1 : HIValidName_1 (F 126)) : HCIndexFunc_string__ValidName_1 (EvF F Tryz.f148 (fun id => if id = 2 then [0, 1, 7, 8] else [])) := by
 intro a0
 unfold EvF
 obtain ⟨p, hp⟩ := gn prims
 obtain ⟨m_string, hm_string⟩ := gn (List.map eS)
 rw [← hp, ← hm_string]
 obtain ⟨p_arith, p_cmp, _, _, _, _, _, _, _, _, _, _, _, _, _, p_len, p_int, p_nth, _⟩ := p
 have nth_string := @nthF_string
 simp only [HIValidName_1, ← hp, ← hm_string] at nth_string fIValidName_1
 generalize hal : alp = al
 rw [sCIndexFunc_string__ValidName_1]
 conv => lhs; cbv
 refine (loop_al hal (fun v1 => ⟨[.c (.rd true 9 1 (m_string a0)), .c (.fn 126 []), dd, dd, dd, dd, dd, .c (.at (.int .i64 (p_int (p_len (m_string a0))))), .c (.at (.int .i64 v1)), dd, dd, dd, dd, dd, dd, dd, dd, dd, dd], [], 1⟩) (sCIndexFunc_string__ValidName_1_l1 a0) (fun K g => match g with | .inl v1 => K (.exit 0) ⟨[.c (.rd true 9 1 (m_string a0)), .c (.fn 126 []), dd, dd, dd, dd, dd, .c (.at (.int .i64 (p_int (p_len (m_string a0))))), .c (.at (.int .i64 v1)), .c (.at (.bool false)), dd, dd, dd, dd, dd, dd, dd, dd, dd], [], 2⟩ | .inr (r) => some [.v (.at (.int .i64 r))]) ?_ 0 _ (rfl)).trans (cL ?_)
 ·rintro K1 hr1 v1 R1
  rw [sCIndexFunc_string__ValidName_1_l1, ← hp, ← hm_string]
  dsimp only
  conv => lhs; cbv
  refine cD (fun hb2 => ?_) fun hb2 => ?_
  ·rw [hb2]
   conv => lhs; cbv
   try rfl
  rw [hb2]
  conv => lhs; cbv
  rw [nth_string]
  refine cO (fun hx4 => ?_) ?_
  ·rw [hx4]; try rfl
  rintro x3 hx4
  rw [hx4]
  conv => lhs; cbv
  rw [fIValidName_1 x3]
  refine cO (fun hx6 => ?_) ?_
  ·rw [hx6]; try rfl
  rintro r5 hx6
  rw [hx6]
  conv => lhs; cbv
  refine cD (fun hb7 => ?_) fun hb7 => ?_
  ·rw [hb7]
   conv => lhs; cbv
   try rfl
  rw [hb7]
  conv => lhs; cbv
  rw [hr1]
  conv => lhs; cbv
  try rfl
 rintro (w8 | w9)
 ·conv => lhs; cbv
  try rfl
 rfl
theorem eCContainsFunc_string__ValidName_1 (F : Fns) (fCIndexFunc_string__ValidName_1 : HCIndexFunc_string__ValidName_1 (F 148)) : HCContainsFunc_string__ValidName_1 (EvF F Tryz.f125 (fun _ => [])) := by
 intro a0
 unfold EvF
 obtain ⟨p, hp⟩ := gn prims
 obtain ⟨m_string, hm_string⟩ := gn (List.map eS)
 rw [← hp, ← hm_string]
 obtain ⟨_, p_cmp, _⟩ := p
 simp only [HCIndexFunc_string__ValidName_1, ← hm_string] at fCIndexFunc_string__ValidName_1
 rw [sCContainsFunc_string__ValidName_1, ← hp]
 dsimp only
 conv => lhs; cbv
 rw [fCIndexFunc_string__ValidName_1 a0]
 refine cO (fun hx2 => ?_) ?_
 ·rw [hx2]; try rfl
 rintro r1 hx2
 rw [hx2]
 conv => lhs; cbv
 try rfl
theorem eIValidName (F : Fns) (fCContainsFunc_string__ValidName_1 : HCContainsFunc_string__ValidName_1 (F 125)) : HIValidName (EvF F Tryz.f93 (fun _ => [])) := by
 intro a0
 unfold EvF
 obtain ⟨p, hp⟩ := gn prims
 obtain ⟨m_string, hm_string⟩ := gn (List.map eS)
 rw [← hp, ← hm_string]
 obtain ⟨_, p_cmp, _, _, _, _, _, _, _, _, _, p_bnot, _, _, _, p_len, p_int, _⟩ := p
 simp only [HCContainsFunc_string__ValidName_1, ← hm_string] at fCContainsFunc_string__ValidName_1
 rw [sIValidName, ← hp, ← hm_string]
 dsimp only
 conv => lhs; cbv
 refine cD (fun hb1 => ?_) fun hb1 => ?_
 ·rw [hb1]
  conv => lhs; cbv
  try rfl
 rw [hb1]
 conv => lhs; cbv
 rw [fCContainsFunc_string__ValidName_1 a0]
 refine cO (fun hx3 => ?_) ?_
 ·rw [hx3]; try rfl
 rintro r2 hx3
 rw [hx3]
 conv => lhs; cbv
 try rfl
theorem e_s_cmp_isNaN_string (F : Fns) : Hs_s_cmp_isNaN_string (EvF F Tryz.f163 (fun _ => [])) := by
 intro a0
 unfold EvF
 obtain ⟨p, hp⟩ := gn prims
 rw [← hp]
 obtain ⟨_, _, _, p_scmp, _⟩ := p
 rw [s_cmp_isNaN_string, ← hp]
 dsimp only
 conv => lhs; cbv
 try rfl
theorem e_s_cmp_Compare_string (F : Fns) (f_cmp_isNaN_string : Hs_s_cmp_isNaN_string (F 163)) : Hs_s_cmp_Compare_string (EvF F Tryz.f157 (fun _ => [])) := by
 intro a0 a1
 unfold EvF
 obtain ⟨p, hp⟩ := gn prims
 rw [← hp]
 obtain ⟨_, _, _, p_scmp, _⟩ := p
 simp only [Hs_s_cmp_isNaN_string] at f_cmp_isNaN_string
 rw [s_cmp_Compare_string, ← hp]
 dsimp only
 conv => lhs; cbv
 rw [f_cmp_isNaN_string a0]
 refine cO (fun hx2 => ?_) ?_
 ·rw [hx2]; try rfl
 rintro r1 hx2
 rw [hx2]
 conv => lhs; cbv
 rw [f_cmp_isNaN_string a1]
 refine cO (fun hx4 => ?_) ?_
 ·rw [hx4]; try rfl
 rintro r3 hx4
 rw [hx4]
 conv => lhs; cbv
 refine cC (fun hb5 => ?_) fun hb5 => ?_
 ·rw [hb5]
  conv => lhs; cbv
  refine cC (fun hb6 => ?_) fun hb6 => ?_
  ·rw [hb6]
   conv => lhs; cbv
   try rfl
  rw [hb6]
  conv => lhs; cbv
  try rfl
 rw [hb5]
 conv => lhs; cbv
 refine cC (fun hb7 => ?_) fun hb7 => ?_
 ·rw [hb7]
  conv => lhs; cbv
  try rfl
 rw [hb7]
 conv => lhs; cbv
 refine cC (fun hb8 => ?_) fun hb8 => ?_
 ·rw [hb8]
  conv => lhs; cbv
  try rfl
 rw [hb8]
 conv => lhs; cbv
 refine cC (fun hb9 => ?_) fun hb9 => ?_
 ·rw [hb9]
  conv => lhs; cbv
  try rfl
 rw [hb9]
 conv => lhs; cbv
 try rfl
theorem eCCompare_string (F : Fns) (f_cmp_Compare_string : Hs_s_cmp_Compare_string (F 157)) : HCCompare_string (EvF F Tryz.f151 (fun id => if id = 2 then [0, 1, 9, 10, 11] else [])) := by
 intro a0 a1
 unfold EvF
 obtain ⟨p, hp⟩ := gn prims
 obtain ⟨m_string, hm_string⟩ := gn (List.map eS)
 rw [← hp, ← hm_string]
 obtain ⟨p_arith, p_cmp, _, _, _, _, _, _, _, _, _, _, _, _, _, p_len, p_int, p_nth, _⟩ := p
 have nth_string := @nthF_string
 simp only [Hs_s_cmp_Compare_string, ← hp, ← hm_string] at nth_string f_cmp_Compare_string
 generalize hal : alp = al
 rw [sCCompare_string, ← hp, ← hm_string]
 dsimp only
 conv => lhs; cbv
 refine (loop_al hal (fun v1 => ⟨[.c (.rd true 9 1 (m_string a0)), .c (.rd true 9 1 (m_string a1)), dd, dd, dd, dd, dd, dd, dd, .c (.rd true 9 1 (m_string a0)), .c (.at (.int .i64 (p_int (p_len (m_string a0))))), .c (.at (.int .i64 v1)), dd, dd, dd, dd, dd, dd, dd, dd, dd, dd, dd, dd, dd, dd, dd, dd, dd, dd, dd, dd, dd, dd, dd, dd], [], 1⟩) (sCCompare_string_l1 a0 a1) (fun K g => match g with | .inl v1 => K (.exit 0) ⟨[.c (.rd true 9 1 (m_string a0)), .c (.rd true 9 1 (m_string a1)), dd, dd, dd, dd, dd, dd, dd, .c (.rd true 9 1 (m_string a0)), .c (.at (.int .i64 (p_int (p_len (m_string a0))))), .c (.at (.int .i64 v1)), .c (.at (.bool false)), dd, dd, dd, dd, dd, dd, dd, dd, dd, dd, dd, dd, dd, dd, dd, dd, dd, dd, dd, dd, dd, dd, dd], [], 2⟩ | .inr (r) => some [.v (.at (.int .i64 r))]) ?_ 0 _ (rfl)).trans (cL ?_)
 ·rintro K1 hr1 v1 R1
  rw [sCCompare_string_l1, ← hp, ← hm_string]
  dsimp only
  conv => lhs; cbv
  refine cD (fun hb2 => ?_) fun hb2 => ?_
  ·rw [hb2]
   conv => lhs; cbv
   try rfl
  rw [hb2]
  conv => lhs; cbv
  rw [nth_string]
  refine cO (fun hx4 => ?_) ?_
  ·rw [hx4]; try rfl
  rintro x3 hx4
  rw [hx4]
  conv => lhs; cbv
  refine cC (fun hb5 => ?_) fun hb5 => ?_
  ·rw [hb5]
   conv => lhs; cbv
   rw [hr1]
   conv => lhs; cbv
   try rfl
  rw [hb5]
  conv => lhs; cbv
  rw [nth_string]
  refine cO (fun hx7 => ?_) ?_
  ·rw [hx7]; try rfl
  rintro x6 hx7
  rw [hx7]
  conv => lhs; cbv
  rw [f_cmp_Compare_string x3 x6]
  refine cO (fun hx9 => ?_) ?_
  ·rw [hx9]; try rfl
  rintro r8 hx9
  rw [hx9]
  conv => lhs; cbv
  refine cD (fun hb10 => ?_) fun hb10 => ?_
  ·rw [hb10]
   conv => lhs; cbv
   try rfl
  rw [hb10]
  conv => lhs; cbv
  rw [hr1]
  conv => lhs; cbv
  try rfl
 rintro (w11 | w13)
 ·conv => lhs; cbv
  refine cC (fun hb12 => ?_) fun hb12 => ?_
  ·rw [hb12]
   conv => lhs; cbv
   try rfl
  rw [hb12]
  conv => lhs; cbv
  try rfl
 rfl
theorem eICompareNames (F : Fns) (fCCompare_string : HCCompare_string (F 151)) : HICompareNames (EvF F Tryz.f138 (fun _ => [])) := by
 intro a0 a1
 unfold EvF
 obtain ⟨p, hp⟩ := gn prims
 obtain ⟨m_string, hm_string⟩ := gn (List.map eS)
 rw [← hp, ← hm_string]
 simp only [HCCompare_string, ← hm_string] at fCCompare_string
 rw [sICompareNames]
 conv => lhs; cbv
 rw [fCCompare_string a0 a1]
 refine cO (fun hx2 => ?_) ?_
 ·rw [hx2]; try rfl
 rintro r1 hx2
 rw [hx2]
 conv => lhs; cbv
 try rfl
theorem eIValidTable (F : Fns) (fIValidName : HIValidName (F 93)) (fICompareNames : HICompareNames (F 138)) : HIValidTable (EvF F Tryz.f128 (fun id => if id = 2 then [0, 5, 6, 7] else [])) := by
 intro a0
 unfold EvF
 obtain ⟨p, hp⟩ := gn prims
 obtain ⟨m_TableEntry, hm_TableEntry⟩ := gn (List.map eTableEntry)
 obtain ⟨m_string, hm_string⟩ := gn (List.map eS)
 rw [← hp, ← hm_TableEntry]
 obtain ⟨p_arith, p_cmp, _, _, _, _, _, _, _, _, _, p_bnot, _, _, _, p_len, p_int, p_nth, _⟩ := p
 have nth_TableEntry := @nthF_TableEntry
 simp only [HIValidName, HICompareNames, ← hp, ← hm_TableEntry, ← hm_string] at nth_TableEntry fIValidName fICompareNames
 generalize hal : alp = al
 rw [sIValidTable, ← hp, ← hm_TableEntry]
 dsimp only
 conv => lhs; cbv
 refine (loop_al hal (fun v1 => ⟨[.c (.rd true 89 2 (m_TableEntry a0)), dd, dd, dd, dd, .c (.rd true 89 2 (m_TableEntry a0)), .c (.at (.int .i64 (p_int (p_len (m_TableEntry a0))))), .c (.at (.int .i64 v1)), dd, dd, dd, dd, dd, dd, dd, dd, dd, dd, dd, dd, dd, dd, dd, dd, dd, dd, dd, dd, dd, dd, dd, dd, dd, dd, dd, dd], [], 1⟩) (sIValidTable_l1 a0) (fun K g => match g with | .inl v1 => K (.exit 0) ⟨[.c (.rd true 89 2 (m_TableEntry a0)), dd, dd, dd, dd, .c (.rd true 89 2 (m_TableEntry a0)), .c (.at (.int .i64 (p_int (p_len (m_TableEntry a0))))), .c (.at (.int .i64 v1)), .c (.at (.bool false)), dd, dd, dd, dd, dd, dd, dd, dd, dd, dd, dd, dd, dd, dd, dd, dd, dd, dd, dd, dd, dd, dd, dd, dd, dd, dd, dd], [], 2⟩ | .inr (r) => some [.v (.at (.bool r))]) ?_ 0 _ (rfl)).trans (cL ?_)
 ·rintro K1 hr1 v1 R1
  rw [sIValidTable_l1, ← hp, ← hm_TableEntry]
  dsimp only
  conv => lhs; cbv
  refine cD (fun hb2 => ?_) fun hb2 => ?_
  ·rw [hb2]
   conv => lhs; cbv
   try rfl
  rw [hb2]
  conv => lhs; cbv
  rw [nth_TableEntry]
  refine cO (fun hx4 => ?_) ?_
  ·rw [hx4]; try rfl
  rintro x3 hx4
  rw [hx4]
  conv => lhs; cbv
  rw [fIValidName x3.name]
  refine cO (fun hx6 => ?_) ?_
  ·rw [hx6]; try rfl
  rintro r5 hx6
  rw [hx6]
  conv => lhs; cbv
  refine cC (fun hb7 => ?_) fun hb7 => ?_
  ·rw [hb7]
   conv => lhs; cbv
   rw [hr1]
   conv => lhs; cbv
   try rfl
  rw [hb7]
  conv => lhs; cbv
  refine cD (fun hb8 => ?_) fun hb8 => ?_
  ·rw [hb8]
   conv => lhs; cbv
   try rfl
  rw [hb8]
  conv => lhs; cbv
  rw [nth_TableEntry]
  refine cO (fun hx10 => ?_) ?_
  ·rw [hx10]; try rfl
  rintro x9 hx10
  rw [hx10]
  conv => lhs; cbv
  rw [fICompareNames x9.name x3.name]
  refine cO (fun hx12 => ?_) ?_
  ·rw [hx12]; try rfl
  rintro r11 hx12
  rw [hx12]
  conv => lhs; cbv
  refine cD (fun hb13 => ?_) fun hb13 => ?_
  ·rw [hb13]
   conv => lhs; cbv
   try rfl
  rw [hb13]
  conv => lhs; cbv
  rw [hr1]
  conv => lhs; cbv
  try rfl
 rintro (w14 | w15)
 ·conv => lhs; cbv
  try rfl
 rfl
theorem eIValidVector_1 (F : Fns) (fIInRange : HIInRange (F 35)) : HIValidVector_1 (EvF F Tryz.f130 (fun _ => [])) := by
 intro a0
 unfold EvF
 obtain ⟨p, hp⟩ := gn prims
 obtain ⟨m_string, hm_string⟩ := gn (List.map eS)
 rw [← hp, ← hm_string]
 obtain ⟨_, _, _, _, _, _, _, _, _, _, _, p_bnot, _⟩ := p
 simp only [HIInRange] at fIInRange
 rw [sIValidVector_1, ← hp]
 dsimp only
 conv => lhs; cbv
 rw [fIInRange a0.value 1 1000]
 refine cO (fun hx2 => ?_) ?_
 ·rw [hx2]; try rfl
 rintro r1 hx2
 rw [hx2]
 conv => lhs; cbv
 try rfl
theorem eCIndexFunc_TableEntry__ValidVector_1 (F : Fns) (fIValidVector_1 : HIValidVector_1 (F 130)) : HCIndexFunc_TableEntry__ValidVector_1 (EvF F Tryz.f136 (fun id => if id = 2 then [0, 1, 7, 8] else [])) := by
 intro a0
 unfold EvF
 obtain ⟨p, hp⟩ := gn prims
 obtain ⟨m_TableEntry, hm_TableEntry⟩ := gn (List.map eTableEntry)
 obtain ⟨m_string, hm_string⟩ := gn (List.map eS)
 rw [← hp, ← hm_TableEntry]
 obtain ⟨p_arith, p_cmp, _, _, _, _, _, _, _, _, _, _, _, _, _, p_len, p_int, p_nth, _⟩ := p
 have nth_TableEntry := @nthF_TableEntry
 simp only [HIValidVector_1, ← hp, ← hm_TableEntry, ← hm_string] at nth_TableEntry fIValidVector_1
 generalize hal : alp = al
 rw [sCIndexFunc_TableEntry__ValidVector_1]
 conv => lhs; cbv
 refine (loop_al hal (fun v1 => ⟨[.c (.rd true 89 2 (m_TableEntry a0)), .c (.fn 130 []), dd, dd, dd, dd, dd, .c (.at (.int .i64 (p_int (p_len (m_TableEntry a0))))), .c (.at (.int .i64 v1)), dd, dd, dd, dd, dd, dd, dd, dd, dd, dd], [], 1⟩) (sCIndexFunc_TableEntry__ValidVector_1_l1 a0) (fun K g => match g with | .inl v1 => K (.exit 0) ⟨[.c (.rd true 89 2 (m_TableEntry a0)), .c (.fn 130 []), dd, dd, dd, dd, dd, .c (.at (.int .i64 (p_int (p_len (m_TableEntry a0))))), .c (.at (.int .i64 v1)), .c (.at (.bool false)), dd, dd, dd, dd, dd, dd, dd, dd, dd], [], 2⟩ | .inr (r) => some [.v (.at (.int .i64 r))]) ?_ 0 _ (rfl)).trans (cL ?_)
 ·rintro K1 hr1 v1 R1
  rw [sCIndexFunc_TableEntry__ValidVector_1_l1, ← hp, ← hm_TableEntry]
  dsimp only
  conv => lhs; cbv
  refine cD (fun hb2 => ?_) fun hb2 => ?_
  ·rw [hb2]
   conv => lhs; cbv
   try rfl
  rw [hb2]
  conv => lhs; cbv
  rw [nth_TableEntry]
  refine cO (fun hx4 => ?_) ?_
  ·rw [hx4]; try rfl
  rintro x3 hx4
  rw [hx4]
  conv => lhs; cbv
  rw [fIValidVector_1 x3]
  refine cO (fun hx6 => ?_) ?_
  ·rw [hx6]; try rfl
  rintro r5 hx6
  rw [hx6]
  conv => lhs; cbv
  refine cD (fun hb7 => ?_) fun hb7 => ?_
  ·rw [hb7]
   conv => lhs; cbv
   try rfl
  rw [hb7]
  conv => lhs; cbv
  rw [hr1]
  conv => lhs; cbv
  try rfl
 rintro (w8 | w9)
 ·conv => lhs; cbv
  try rfl
 rfl
theorem eCContainsFunc_TableEntry__ValidVector_1 (F : Fns) (fCIndexFunc_TableEntry__ValidVector_1 : HCIndexFunc_TableEntry__ValidVector_1 (F 136)) : HCContainsFunc_TableEntry__ValidVector_1 (EvF F Tryz.f129 (fun _ => [])) := by
 intro a0
 unfold EvF
 obtain ⟨p, hp⟩ := gn prims
 obtain ⟨m_TableEntry, hm_TableEntry⟩ := gn (List.map eTableEntry)
 rw [← hp, ← hm_TableEntry]
 obtain ⟨_, p_cmp, _⟩ := p
 simp only [HCIndexFunc_TableEntry__ValidVector_1, ← hm_TableEntry] at fCIndexFunc_TableEntry__ValidVector_1
 rw [sCContainsFunc_TableEntry__ValidVector_1, ← hp]
 dsimp only
 conv => lhs; cbv
 rw [fCIndexFunc_TableEntry__ValidVector_1 a0]
 refine cO (fun hx2 => ?_) ?_
 ·rw [hx2]; try rfl
 rintro r1 hx2
 rw [hx2]
 conv => lhs; cbv
 try rfl
theorem eIValidVector (F : Fns) (fIValidTable : HIValidTable (F 128)) (fCContainsFunc_TableEntry__ValidVector_1 : HCContainsFunc_TableEntry__ValidVector_1 (F 129)) : HIValidVector (EvF F Tryz.f94 (fun _ => [])) := by
 intro a0
 unfold EvF
 obtain ⟨p, hp⟩ := gn prims
 obtain ⟨m_TableEntry, hm_TableEntry⟩ := gn (List.map eTableEntry)
 rw [← hp, ← hm_TableEntry]
 obtain ⟨_, _, _, _, _, _, _, _, _, _, _, p_bnot, _⟩ := p
 simp only [HIValidTable, HCContainsFunc_TableEntry__ValidVector_1, ← hm_TableEntry] at fIValidTable fCContainsFunc_TableEntry__ValidVector_1
 rw [sIValidVector, ← hp]
 dsimp only
 conv => lhs; cbv
 rw [fIValidTable a0]
 refine cO (fun hx2 => ?_) ?_
 ·rw [hx2]; try rfl
 rintro r1 hx2
 rw [hx2]
 conv => lhs; cbv
 refine cD (fun hb3 => ?_) fun hb3 => ?_
 ·rw [hb3]
  conv => lhs; cbv
  try rfl
 rw [hb3]
 conv => lhs; cbv
 rw [fCContainsFunc_TableEntry__ValidVector_1 a0]
 refine cO (fun hx5 => ?_) ?_
 ·rw [hx5]; try rfl
 rintro r4 hx5
 rw [hx5]
 conv => lhs; cbv
 try rfl
theorem eCEqual_string (F : Fns) : HCEqual_string (EvF F Tryz.f98 (fun id => if id = 4 then [0, 1, 12, 13] else [])) := by
 intro a0 a1
 unfold EvF
 obtain ⟨p, hp⟩ := gn prims
 obtain ⟨m_string, hm_string⟩ := gn (List.map eS)
 rw [← hp, ← hm_string]
 obtain ⟨p_arith, p_cmp, _, p_scmp, _, _, _, _, _, _, _, _, _, _, _, p_len, p_int, p_nth, _⟩ := p
 have nth_string := @nthF_string
 simp only [← hp, ← hm_string] at nth_string
 generalize hal : alp = al
 rw [sCEqual_string, ← hp, ← hm_string]
 dsimp only
 conv => lhs; cbv
 refine cC (fun hb1 => ?_) fun hb1 => ?_
 ·rw [hb1]
  conv => lhs; cbv
  try rfl
 rw [hb1]
 conv => lhs; cbv
 refine (loop_al hal (fun v2 => ⟨[.c (.rd true 9 1 (m_string a0)), .c (.rd true 9 1 (m_string a1)), dd, dd, dd, dd, dd, dd, dd, dd, dd, dd, .c (.at (.int .i64 (p_int (p_len (m_string a0))))), .c (.at (.int .i64 v2)), dd, dd, dd, dd, dd, dd, dd, dd, dd, dd, dd, dd], [], 1⟩) (sCEqual_string_l1 a0 a1) (fun K g => match g with | .inl v2 => K (.exit 0) ⟨[.c (.rd true 9 1 (m_string a0)), .c (.rd true 9 1 (m_string a1)), dd, dd, dd, dd, dd, dd, dd, dd, dd, dd, .c (.at (.int .i64 (p_int (p_len (m_string a0))))), .c (.at (.int .i64 v2)), .c (.at (.bool false)), dd, dd, dd, dd, dd, dd, dd, dd, dd, dd, dd], [], 2⟩ | .inr (r) => some [.v (.at (.bool r))]) ?_ 0 _ (rfl)).trans (cL ?_)
 ·rintro K1 hr1 v2 R1
  rw [sCEqual_string_l1, ← hp, ← hm_string]
  dsimp only
  conv => lhs; cbv
  refine cD (fun hb3 => ?_) fun hb3 => ?_
  ·rw [hb3]
   conv => lhs; cbv
   try rfl
  rw [hb3]
  conv => lhs; cbv
  rw [nth_string]
  refine cO (fun hx5 => ?_) ?_
  ·rw [hx5]; try rfl
  rintro x4 hx5
  rw [hx5]
  conv => lhs; cbv
  rw [nth_string]
  refine cO (fun hx7 => ?_) ?_
  ·rw [hx7]; try rfl
  rintro x6 hx7
  rw [hx7]
  conv => lhs; cbv
  refine cD (fun hb8 => ?_) fun hb8 => ?_
  ·rw [hb8]
   conv => lhs; cbv
   try rfl
  rw [hb8]
  conv => lhs; cbv
  rw [hr1]
  conv => lhs; cbv
  try rfl
 rintro (w9 | w10)
 ·conv => lhs; cbv
  try rfl
 rfl
theorem eIEqualNames (F : Fns) (fCEqual_string : HCEqual_string (F 98)) : HIEqualNames (EvF F Tryz.f52 (fun _ => [])) := by
 intro a0 a1
 unfold EvF
 obtain ⟨p, hp⟩ := gn prims
 obtain ⟨m_string, hm_string⟩ := gn (List.map eS)
 rw [← hp, ← hm_string]
 simp only [HCEqual_string, ← hm_string] at fCEqual_string
 rw [sIEqualNames]
 conv => lhs; cbv
 rw [fCEqual_string a0 a1]
 refine cO (fun hx2 => ?_) ?_
 ·rw [hx2]; try rfl
 rintro r1 hx2
 rw [hx2]
 conv => lhs; cbv
 try rfl
theorem eIindexOfName_1 (F : Fns) (fIEqualNames : HIEqualNames (F 52)) : HIindexOfName_1 (EvF F Tryz.f150 (fun _ => [])) := by
 intro a0 k0
 unfold EvF
 obtain ⟨p, hp⟩ := gn prims
 obtain ⟨m_string, hm_string⟩ := gn (List.map eS)
 rw [← hp, ← hm_string]
 simp only [HIEqualNames, ← hm_string] at fIEqualNames
 rw [sIindexOfName_1]
 conv => lhs; cbv
 rw [fIEqualNames a0.name k0]
 refine cO (fun hx2 => ?_) ?_
 ·rw [hx2]; try rfl
 rintro r1 hx2
 rw [hx2]
 conv => lhs; cbv
 try rfl
theorem eCIndexFunc_TableEntry__indexOfName_1 (F : Fns) (fIindexOfName_1 : HIindexOfName_1 (F 150)) : HCIndexFunc_TableEntry__indexOfName_1 (EvF F Tryz.f136 (fun id => if id = 2 then [0, 1, 7, 8] else [])) := by
 intro a0 c1_0
 unfold EvF
 obtain ⟨p, hp⟩ := gn prims
 obtain ⟨m_TableEntry, hm_TableEntry⟩ := gn (List.map eTableEntry)
 obtain ⟨m_string, hm_string⟩ := gn (List.map eS)
 rw [← hp, ← hm_TableEntry, ← hm_string]
 obtain ⟨p_arith, p_cmp, _, _, _, _, _, _, _, _, _, _, _, _, _, p_len, p_int, p_nth, _⟩ := p
 have nth_TableEntry := @nthF_TableEntry
 simp only [HIindexOfName_1, ← hp, ← hm_TableEntry, ← hm_string] at nth_TableEntry fIindexOfName_1
 generalize hal : alp = al
 rw [sCIndexFunc_TableEntry__indexOfName_1]
 conv => lhs; cbv
 refine (loop_al hal (fun v1 => ⟨[.c (.rd true 89 2 (m_TableEntry a0)), .c (.fn 150 [.bp true [.sl 9 1 (m_string c1_0)] 0]), dd, dd, dd, dd, dd, .c (.at (.int .i64 (p_int (p_len (m_TableEntry a0))))), .c (.at (.int .i64 v1)), dd, dd, dd, dd, dd, dd, dd, dd, dd, dd], [], 1⟩) (sCIndexFunc_TableEntry__indexOfName_1_l1 a0 c1_0) (fun K g => match g with | .inl v1 => K (.exit 0) ⟨[.c (.rd true 89 2 (m_TableEntry a0)), .c (.fn 150 [.bp true [.sl 9 1 (m_string c1_0)] 0]), dd, dd, dd, dd, dd, .c (.at (.int .i64 (p_int (p_len (m_TableEntry a0))))), .c (.at (.int .i64 v1)), .c (.at (.bool false)), dd, dd, dd, dd, dd, dd, dd, dd, dd], [], 2⟩ | .inr (r) => some [.v (.at (.int .i64 r))]) ?_ 0 _ (rfl)).trans (cL ?_)
 ·rintro K1 hr1 v1 R1
  rw [sCIndexFunc_TableEntry__indexOfName_1_l1, ← hp, ← hm_TableEntry]
  dsimp only
  conv => lhs; cbv
  refine cD (fun hb2 => ?_) fun hb2 => ?_
  ·rw [hb2]
   conv => lhs; cbv
   try rfl
  rw [hb2]
  conv => lhs; cbv
  rw [nth_TableEntry]
  refine cO (fun hx4 => ?_) ?_
  ·rw [hx4]; try rfl
  rintro x3 hx4
  rw [hx4]
  conv => lhs; cbv
  rw [fIindexOfName_1 x3 c1_0]
  refine cO (fun hx6 => ?_) ?_
  ·rw [hx6]; try rfl
  rintro r5 hx6
  rw [hx6]
  conv => lhs; cbv
  refine cD (fun hb7 => ?_) fun hb7 => ?_
  ·rw [hb7]
   conv => lhs; cbv
   try rfl
  rw [hb7]
  conv => lhs; cbv
  rw [hr1]
  conv => lhs; cbv
  try rfl
 rintro (w8 | w9)
 ·conv => lhs; cbv
  try rfl
 rfl
theorem eIindexOfName (F : Fns) (fCIndexFunc_TableEntry__indexOfName_1 : HCIndexFunc_TableEntry__indexOfName_1 (F 136)) : HIindexOfName (EvF F Tryz.f135 (fun _ => [])) := by
 intro a0 a1
 unfold EvF
 obtain ⟨p, hp⟩ := gn prims
 obtain ⟨m_TableEntry, hm_TableEntry⟩ := gn (List.map eTableEntry)
 obtain ⟨m_string, hm_string⟩ := gn (List.map eS)
 rw [← hp, ← hm_TableEntry, ← hm_string]
 simp only [HCIndexFunc_TableEntry__indexOfName_1, ← hm_TableEntry, ← hm_string] at fCIndexFunc_TableEntry__indexOfName_1
 rw [sIindexOfName]
 conv => lhs; cbv
 rw [fCIndexFunc_TableEntry__indexOfName_1 a0 a1]
 refine cO (fun hx2 => ?_) ?_
 ·rw [hx2]; try rfl
 rintro r1 hx2
 rw [hx2]
 conv => lhs; cbv
 try rfl
theorem eILookupEntry (F : Fns) (fIindexOfName : HIindexOfName (F 135)) : HILookupEntry (EvF F Tryz.f131 (fun _ => [])) := by
 intro a0 a1
 unfold EvF
 obtain ⟨p, hp⟩ := gn prims
 obtain ⟨m_TableEntry, hm_TableEntry⟩ := gn (List.map eTableEntry)
 obtain ⟨m_string, hm_string⟩ := gn (List.map eS)
 rw [← hp, ← hm_TableEntry, ← hm_string]
 obtain ⟨_, p_cmp, _, _, _, _, _, _, _, _, _, _, _, _, _, _, _, p_nth, _⟩ := p
 have nth_TableEntry := @nthF_TableEntry
 simp only [HIindexOfName, ← hp, ← hm_TableEntry, ← hm_string] at nth_TableEntry fIindexOfName
 rw [sILookupEntry, ← hp]
 dsimp only
 conv => lhs; cbv
 rw [fIindexOfName a0 a1]
 refine cO (fun hx2 => ?_) ?_
 ·rw [hx2]; try rfl
 rintro r1 hx2
 rw [hx2]
 conv => lhs; cbv
 refine cC (fun hb3 => ?_) fun hb3 => ?_
 ·rw [hb3]
  conv => lhs; cbv
  try rfl
 rw [hb3]
 conv => lhs; cbv
 rw [nth_TableEntry]
 refine cO (fun hx5 => ?_) ?_
 ·rw [hx5]; try rfl
 rintro x4 hx5
 rw [hx5]
 conv => lhs; cbv
 try rfl
theorem eISeqOf (F : Fns) (fILookupEntry : HILookupEntry (F 131)) : HISeqOf (EvF F Tryz.f95 (fun _ => [])) := by
 intro a0 a1
 unfold EvF
 obtain ⟨p, hp⟩ := gn prims
 obtain ⟨m_TableEntry, hm_TableEntry⟩ := gn (List.map eTableEntry)
 obtain ⟨m_string, hm_string⟩ := gn (List.map eS)
 rw [← hp, ← hm_TableEntry, ← hm_string]
 simp only [HILookupEntry, ← hm_TableEntry, ← hm_string] at fILookupEntry
 rw [sISeqOf]
 conv => lhs; cbv
 rw [fILookupEntry a0 a1]
 refine cO (fun hx2 => ?_) ?_
 ·rw [hx2]; try rfl
 rintro ⟨r1_0, r1_1⟩ hx2
 rw [hx2]
 conv => lhs; cbv
 try rfl
theorem eIpublishedAt_1 (F : Fns) (fIEqualNames : HIEqualNames (F 52)) : HIpublishedAt_1 (EvF F Tryz.f133 (fun _ => [])) := by
 intro a0 k0 k1
 unfold EvF
 obtain ⟨p, hp⟩ := gn prims
 obtain ⟨m_byte, hm_byte⟩ := gn (List.map eY)
 obtain ⟨m_string, hm_string⟩ := gn (List.map eS)
 rw [← hp, ← hm_byte, ← hm_string]
 obtain ⟨_, p_cmp, _⟩ := p
 simp only [HIEqualNames, ← hm_string] at fIEqualNames
 rw [sIpublishedAt_1, ← hp]
 dsimp only
 conv => lhs; cbv
 refine cD (fun hb1 => ?_) fun hb1 => ?_
 ·rw [hb1]
  conv => lhs; cbv
  try rfl
 rw [hb1]
 conv => lhs; cbv
 rw [fIEqualNames a0.publisher k1]
 refine cO (fun hx3 => ?_) ?_
 ·rw [hx3]; try rfl
 rintro r2 hx3
 rw [hx3]
 conv => lhs; cbv
 try rfl
theorem eCIndexFunc_Publication__publishedAt_1 (F : Fns) (fIpublishedAt_1 : HIpublishedAt_1 (F 133)) : HCIndexFunc_Publication__publishedAt_1 (EvF F Tryz.f132 (fun id => if id = 2 then [0, 1, 7, 8] else [])) := by
 intro a0 c1_0 c1_1
 unfold EvF
 obtain ⟨p, hp⟩ := gn prims
 obtain ⟨m_Publication, hm_Publication⟩ := gn (List.map ePublication)
 obtain ⟨m_byte, hm_byte⟩ := gn (List.map eY)
 obtain ⟨m_string, hm_string⟩ := gn (List.map eS)
 rw [← hp, ← hm_Publication, ← hm_string]
 obtain ⟨p_arith, p_cmp, _, _, _, _, _, _, _, _, _, _, _, _, _, p_len, p_int, p_nth, _⟩ := p
 have nth_Publication := @nthF_Publication
 simp only [HIpublishedAt_1, ← hp, ← hm_Publication, ← hm_byte, ← hm_string] at nth_Publication fIpublishedAt_1
 generalize hal : alp = al
 rw [sCIndexFunc_Publication__publishedAt_1]
 conv => lhs; cbv
 refine (loop_al hal (fun v1 => ⟨[.c (.rd true 93 3 (m_Publication a0)), .c (.fn 133 [.bp true [.at (.int .i64 c1_0)] 0, .bp true [.sl 9 1 (m_string c1_1)] 0]), dd, dd, dd, dd, dd, .c (.at (.int .i64 (p_int (p_len (m_Publication a0))))), .c (.at (.int .i64 v1)), dd, dd, dd, dd, dd, dd, dd, dd, dd, dd], [], 1⟩) (sCIndexFunc_Publication__publishedAt_1_l1 a0 c1_0 c1_1) (fun K g => match g with | .inl v1 => K (.exit 0) ⟨[.c (.rd true 93 3 (m_Publication a0)), .c (.fn 133 [.bp true [.at (.int .i64 c1_0)] 0, .bp true [.sl 9 1 (m_string c1_1)] 0]), dd, dd, dd, dd, dd, .c (.at (.int .i64 (p_int (p_len (m_Publication a0))))), .c (.at (.int .i64 v1)), .c (.at (.bool false)), dd, dd, dd, dd, dd, dd, dd, dd, dd], [], 2⟩ | .inr (r) => some [.v (.at (.int .i64 r))]) ?_ 0 _ (rfl)).trans (cL ?_)
 ·rintro K1 hr1 v1 R1
  rw [sCIndexFunc_Publication__publishedAt_1_l1, ← hp, ← hm_Publication]
  dsimp only
  conv => lhs; cbv
  refine cD (fun hb2 => ?_) fun hb2 => ?_
  ·rw [hb2]
   conv => lhs; cbv
   try rfl
  rw [hb2]
  conv => lhs; cbv
  rw [nth_Publication]
  refine cO (fun hx4 => ?_) ?_
  ·rw [hx4]; try rfl
  rintro x3 hx4
  rw [hx4]
  conv => lhs; cbv
  rw [fIpublishedAt_1 x3 c1_0 c1_1]
  refine cO (fun hx6 => ?_) ?_
  ·rw [hx6]; try rfl
  rintro r5 hx6
  rw [hx6]
  conv => lhs; cbv
  refine cD (fun hb7 => ?_) fun hb7 => ?_
  ·rw [hb7]
   conv => lhs; cbv
   try rfl
  rw [hb7]
  conv => lhs; cbv
  rw [hr1]
  conv => lhs; cbv
  try rfl
 rintro (w8 | w9)
 ·conv => lhs; cbv
  try rfl
 rfl
end
end Go.Proofs.YteebeeoimghmhaaGreatDoor
