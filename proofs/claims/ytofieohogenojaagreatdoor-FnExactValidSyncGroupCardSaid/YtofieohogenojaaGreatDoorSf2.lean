/- Plain functions that compute what the code computes. Printed by genshal.py. -/
import Derived.Test.YtofieohogenojaaGreatDoorSf1
namespace Go.Proofs.YtofieohogenojaaGreatDoor
open Go.RowKit
set_option linter.unusedVariables false
set_option linter.unusedSimpArgs false
set_option maxRecDepth 100000
noncomputable section

def s_impl_ValidVector (a0 : (List DTableEntry)) : Option (Bool) := (s_impl_ValidTable a0).bind fun r1 => bif r1 then ((s_slices_ContainsFunc_TableEntry__ValidVector_1 a0).bind fun r4 => some (prims.bnot r4)) else (some false)
def Has_s_impl_ValidVector (F : Fns) : Prop := ∀ (a0 : (List DTableEntry)), F 39 [.a [.sl 92 2 (List.map eTableEntry a0)]] = (s_impl_ValidVector a0).bind fun r => some [.v (.at (.bool r))]
set_option maxHeartbeats 40000000 in
theorem e_s_impl_ValidVector (F : Fns) (hF_s_impl_ValidTable : Has_s_impl_ValidTable F) (hF_s_slices_ContainsFunc_TableEntry__ValidVector_1 : Has_s_slices_ContainsFunc_TableEntry__ValidVector_1 F) (a0 : (List DTableEntry)) : evBody prims (fun F lv => aloop F lv fuel) TY F ⟨Tryz.f39, Tryz.f39.body.getD .skip, fun _ => []⟩ [.a [.sl 92 2 (List.map eTableEntry a0)]] = (s_impl_ValidVector a0).bind fun r => some [.v (.at (.bool r))] := by
  obtain ⟨p, hp⟩ : ∃ p : Prims, p = prims := ⟨_, rfl⟩
  obtain ⟨m_TableEntry, hm_TableEntry⟩ : ∃ m, m = List.map eTableEntry := ⟨_, rfl⟩
  rw [← hp]
  rw [← hm_TableEntry]
  obtain ⟨p_arith, p_cmp, p_wrap, p_scmp, p_scat, p_catOk, p_ssize, p_sat, p_ssub, p_bytes, p_str, p_bnot, p_beq, p_min, p_max, p_len, p_int, p_nth, p_sub, p_rsub, p_ridx, p_rnth, p_rset, p_rapp, p_rlen, p_addN, p_full, p_fits, p_frz, p_own, p_opn, p_lend, p_rmov, p_rout, p_both, p_yI, p_ofB, p_byW, p_mkN, p_rep, p_copy⟩ := p
  have h_bnot : p_bnot = prims.bnot := congrArg Prims.bnot hp
  clear hp
  unfold Has_s_impl_ValidTable at hF_s_impl_ValidTable
  rw [← hm_TableEntry] at hF_s_impl_ValidTable
  unfold Has_s_slices_ContainsFunc_TableEntry__ValidVector_1 at hF_s_slices_ContainsFunc_TableEntry__ValidVector_1
  rw [← hm_TableEntry] at hF_s_slices_ContainsFunc_TableEntry__ValidVector_1
  generalize hal : (fun (F : St → (Ex → St → Option (List Arg)) → Option (List Arg)) lv => aloop F lv fuel) = al
  rw [s_impl_ValidVector, ← h_bnot]
  conv => lhs; cbv
  rw [hF_s_impl_ValidTable a0]
  refine cO (fun hx2 => ?_) ?_
  · rw [hx2]
    first | done | rfl
  · rintro r1 hx2
    rw [hx2]
    conv => lhs; cbv
    refine cC (fun hb3 => ?_) (fun hb3 => ?_)
    · rw [hb3]
      conv => lhs; cbv
      rw [hF_s_slices_ContainsFunc_TableEntry__ValidVector_1 a0]
      refine cO (fun hx5 => ?_) ?_
      · rw [hx5]
        first | done | rfl
      · rintro r4 hx5
        rw [hx5]
        conv => lhs; cbv
        first | done | rfl
    · rw [hb3]
      conv => lhs; cbv
      first | done | rfl
def s_slices_Equal_string_l1 (a0 : (List ByteArray)) (a1 : (List ByteArray)) : Int → Option ((Int) ⊕ ((Int) ⊕ (Bool)))
  | v2 => bif prims.cmp .lss v2 (prims.int (prims.len (List.map eS a0))) then ((nthI a0 v2).bind fun x4 => (nthI a1 v2).bind fun x6 => bif prims.scmp .neq x4 x6 then (some (.inr (.inr (false)))) else (some (.inl (prims.arith .add .i64 v2 1)))) else (some (.inr (.inl v2)))
def s_slices_Equal_string (a0 : (List ByteArray)) (a1 : (List ByteArray)) : Option (Bool) := bif prims.cmp .neq (prims.int (prims.len (List.map eS a0))) (prims.int (prims.len (List.map eS a1))) then (some false) else ((whileO (s_slices_Equal_string_l1 a0 a1) fuel 0).bind fun g => match g with | .inl w9 => (some true) | .inr (w10) => (some w10))
def Has_s_slices_Equal_string (F : Fns) : Prop := ∀ (a0 : (List ByteArray)) (a1 : (List ByteArray)), F 43 [.v (.sl 9 1 (List.map eS a0)), .v (.sl 9 1 (List.map eS a1))] = (s_slices_Equal_string a0 a1).bind fun r => some [.v (.at (.bool r))]
set_option maxHeartbeats 40000000 in
theorem e_s_slices_Equal_string (F : Fns) (a0 : (List ByteArray)) (a1 : (List ByteArray)) : evBody prims (fun F lv => aloop F lv fuel) TY F ⟨Tryz.f43, Tryz.f43.body.getD .skip, fun id => if id = 4 then [0, 1, 12, 13] else []⟩ [.v (.sl 9 1 (List.map eS a0)), .v (.sl 9 1 (List.map eS a1))] = (s_slices_Equal_string a0 a1).bind fun r => some [.v (.at (.bool r))] := by
  obtain ⟨p, hp⟩ : ∃ p : Prims, p = prims := ⟨_, rfl⟩
  obtain ⟨m_string, hm_string⟩ : ∃ m, m = List.map eS := ⟨_, rfl⟩
  rw [← hp]
  rw [← hm_string]
  obtain ⟨p_arith, p_cmp, p_wrap, p_scmp, p_scat, p_catOk, p_ssize, p_sat, p_ssub, p_bytes, p_str, p_bnot, p_beq, p_min, p_max, p_len, p_int, p_nth, p_sub, p_rsub, p_ridx, p_rnth, p_rset, p_rapp, p_rlen, p_addN, p_full, p_fits, p_frz, p_own, p_opn, p_lend, p_rmov, p_rout, p_both, p_yI, p_ofB, p_byW, p_mkN, p_rep, p_copy⟩ := p
  have h_arith : p_arith = prims.arith := congrArg Prims.arith hp
  have h_cmp : p_cmp = prims.cmp := congrArg Prims.cmp hp
  have h_int : p_int = prims.int := congrArg Prims.int hp
  have h_len : p_len = prims.len := congrArg Prims.len hp
  have h_nth : p_nth = prims.nth := congrArg Prims.nth hp
  have h_scmp : p_scmp = prims.scmp := congrArg Prims.scmp hp
  clear hp
  have nth_string := @nthF_string
  rw [← h_nth, ← hm_string] at nth_string
  generalize hal : (fun (F : St → (Ex → St → Option (List Arg)) → Option (List Arg)) lv => aloop F lv fuel) = al
  rw [s_slices_Equal_string, ← h_cmp, ← h_int, ← h_len, ← hm_string]
  conv => lhs; cbv
  refine cC (fun hb1 => ?_) (fun hb1 => ?_)
  · rw [hb1]
    conv => lhs; cbv
    first | done | rfl
  · rw [hb1]
    conv => lhs; cbv
    refine (loop_al hal (fun v2 => ⟨[.c (.rd true 9 1 (m_string a0)), .c (.rd true 9 1 (m_string a1)), dd, dd, dd, dd, dd, dd, dd, dd, dd, dd, .c (.at (.int .i64 (p_int (p_len (m_string a0))))), .c (.at (.int .i64 v2)), dd, dd, dd, dd, dd, dd, dd, dd, dd, dd, dd, dd], [], 1⟩) (s_slices_Equal_string_l1 a0 a1) (fun K g => match g with | .inl v2 => K (.exit 0) ⟨[.c (.rd true 9 1 (m_string a0)), .c (.rd true 9 1 (m_string a1)), dd, dd, dd, dd, dd, dd, dd, dd, dd, dd, .c (.at (.int .i64 (p_int (p_len (m_string a0))))), .c (.at (.int .i64 v2)), .c (.at (.bool false)), dd, dd, dd, dd, dd, dd, dd, dd, dd, dd, dd], [], 2⟩ | .inr (r) => some [.v (.at (.bool r))]) ?_ 0 _ (rfl)).trans (cL ?_)
    · rintro K1 hr1 v2 R1
      rw [s_slices_Equal_string_l1, ← h_arith, ← h_cmp, ← h_int, ← h_len, ← h_scmp, ← hm_string]
      conv => lhs; cbv
      refine cC (fun hb3 => ?_) (fun hb3 => ?_)
      · rw [hb3]
        conv => lhs; cbv
        rw [nth_string]
        refine cO (fun hx5 => ?_) ?_
        · rw [hx5]
          first | done | rfl
        · rintro x4 hx5
          rw [hx5]
          conv => lhs; cbv
          rw [nth_string]
          refine cO (fun hx7 => ?_) ?_
          · rw [hx7]
            first | done | rfl
          · rintro x6 hx7
            rw [hx7]
            conv => lhs; cbv
            refine cC (fun hb8 => ?_) (fun hb8 => ?_)
            · rw [hb8]
              conv => lhs; cbv
              rw [hr1]
              conv => lhs; cbv
              first | done | rfl
            · rw [hb8]
              conv => lhs; cbv
              first | done | rfl
      · rw [hb3]
        conv => lhs; cbv
        first | done | rfl
    · rintro (w9 | w10)
      · conv => lhs; cbv
        first | done | rfl
      · rfl
def s_impl_EqualNames (a0 : (List ByteArray)) (a1 : (List ByteArray)) : Option (Bool) := (s_slices_Equal_string a0 a1).bind fun r1 => some r1
def Has_s_impl_EqualNames (F : Fns) : Prop := ∀ (a0 : (List ByteArray)) (a1 : (List ByteArray)), F 19 [.a [.sl 9 1 (List.map eS a0)], .a [.sl 9 1 (List.map eS a1)]] = (s_impl_EqualNames a0 a1).bind fun r => some [.v (.at (.bool r))]
set_option maxHeartbeats 40000000 in
theorem e_s_impl_EqualNames (F : Fns) (hF_s_slices_Equal_string : Has_s_slices_Equal_string F) (a0 : (List ByteArray)) (a1 : (List ByteArray)) : evBody prims (fun F lv => aloop F lv fuel) TY F ⟨Tryz.f19, Tryz.f19.body.getD .skip, fun _ => []⟩ [.a [.sl 9 1 (List.map eS a0)], .a [.sl 9 1 (List.map eS a1)]] = (s_impl_EqualNames a0 a1).bind fun r => some [.v (.at (.bool r))] := by
  obtain ⟨p, hp⟩ : ∃ p : Prims, p = prims := ⟨_, rfl⟩
  obtain ⟨m_string, hm_string⟩ : ∃ m, m = List.map eS := ⟨_, rfl⟩
  rw [← hp]
  rw [← hm_string]
  obtain ⟨p_arith, p_cmp, p_wrap, p_scmp, p_scat, p_catOk, p_ssize, p_sat, p_ssub, p_bytes, p_str, p_bnot, p_beq, p_min, p_max, p_len, p_int, p_nth, p_sub, p_rsub, p_ridx, p_rnth, p_rset, p_rapp, p_rlen, p_addN, p_full, p_fits, p_frz, p_own, p_opn, p_lend, p_rmov, p_rout, p_both, p_yI, p_ofB, p_byW, p_mkN, p_rep, p_copy⟩ := p
  clear hp
  unfold Has_s_slices_Equal_string at hF_s_slices_Equal_string
  rw [← hm_string] at hF_s_slices_Equal_string
  generalize hal : (fun (F : St → (Ex → St → Option (List Arg)) → Option (List Arg)) lv => aloop F lv fuel) = al
  rw [s_impl_EqualNames]
  conv => lhs; cbv
  rw [hF_s_slices_Equal_string a0 a1]
  refine cO (fun hx2 => ?_) ?_
  · rw [hx2]
    first | done | rfl
  · rintro r1 hx2
    rw [hx2]
    conv => lhs; cbv
    first | done | rfl
def s_impl_indexOfName_1 (a0 : DTableEntry) (k0 : (List ByteArray)) : Option (Bool) := (s_impl_EqualNames a0.name k0).bind fun r1 => some r1
def Has_s_impl_indexOfName_1 (F : Fns) : Prop := ∀ (a0 : DTableEntry) (k0 : (List ByteArray)), F 95 [.a [.sl 9 1 (List.map eS a0.name), .at (.int .i64 a0.value)], .v (.ptr [.sl 9 1 (List.map eS k0)])] = (s_impl_indexOfName_1 a0 k0).bind fun r => some [.v (.at (.bool r))]
set_option maxHeartbeats 40000000 in
theorem e_s_impl_indexOfName_1 (F : Fns) (hF_s_impl_EqualNames : Has_s_impl_EqualNames F) (a0 : DTableEntry) (k0 : (List ByteArray)) : evBody prims (fun F lv => aloop F lv fuel) TY F ⟨Tryz.f95, Tryz.f95.body.getD .skip, fun _ => []⟩ [.a [.sl 9 1 (List.map eS a0.name), .at (.int .i64 a0.value)], .v (.ptr [.sl 9 1 (List.map eS k0)])] = (s_impl_indexOfName_1 a0 k0).bind fun r => some [.v (.at (.bool r))] := by
  obtain ⟨p, hp⟩ : ∃ p : Prims, p = prims := ⟨_, rfl⟩
  obtain ⟨m_string, hm_string⟩ : ∃ m, m = List.map eS := ⟨_, rfl⟩
  rw [← hp]
  rw [← hm_string]
  obtain ⟨p_arith, p_cmp, p_wrap, p_scmp, p_scat, p_catOk, p_ssize, p_sat, p_ssub, p_bytes, p_str, p_bnot, p_beq, p_min, p_max, p_len, p_int, p_nth, p_sub, p_rsub, p_ridx, p_rnth, p_rset, p_rapp, p_rlen, p_addN, p_full, p_fits, p_frz, p_own, p_opn, p_lend, p_rmov, p_rout, p_both, p_yI, p_ofB, p_byW, p_mkN, p_rep, p_copy⟩ := p
  clear hp
  unfold Has_s_impl_EqualNames at hF_s_impl_EqualNames
  rw [← hm_string] at hF_s_impl_EqualNames
  generalize hal : (fun (F : St → (Ex → St → Option (List Arg)) → Option (List Arg)) lv => aloop F lv fuel) = al
  rw [s_impl_indexOfName_1]
  conv => lhs; cbv
  rw [hF_s_impl_EqualNames a0.name k0]
  refine cO (fun hx2 => ?_) ?_
  · rw [hx2]
    first | done | rfl
  · rintro r1 hx2
    rw [hx2]
    conv => lhs; cbv
    first | done | rfl
def s_slices_IndexFunc_TableEntry__indexOfName_1_l1 (a0 : (List DTableEntry)) (c1_0 : (List ByteArray)) : Int → Option ((Int) ⊕ ((Int) ⊕ (Int)))
  | v1 => bif prims.cmp .lss v1 (prims.int (prims.len (List.map eTableEntry a0))) then ((nthI a0 v1).bind fun x3 => (s_impl_indexOfName_1 x3 c1_0).bind fun r5 => bif r5 then (some (.inr (.inr (v1)))) else (some (.inl (prims.arith .add .i64 v1 1)))) else (some (.inr (.inl v1)))
def s_slices_IndexFunc_TableEntry__indexOfName_1 (a0 : (List DTableEntry)) (c1_0 : (List ByteArray)) : Option (Int) := (whileO (s_slices_IndexFunc_TableEntry__indexOfName_1_l1 a0 c1_0) fuel 0).bind fun g => match g with | .inl w8 => (some (-1)) | .inr (w9) => (some w9)
def Has_s_slices_IndexFunc_TableEntry__indexOfName_1 (F : Fns) : Prop := ∀ (a0 : (List DTableEntry)) (c1_0 : (List ByteArray)), F 84 [.v (.sl 92 2 (List.map eTableEntry a0)), .v (.fn 95 [.ptr [.sl 9 1 (List.map eS c1_0)]])] = (s_slices_IndexFunc_TableEntry__indexOfName_1 a0 c1_0).bind fun r => some [.v (.at (.int .i64 r))]
set_option maxHeartbeats 40000000 in
theorem e_s_slices_IndexFunc_TableEntry__indexOfName_1 (F : Fns) (hF_s_impl_indexOfName_1 : Has_s_impl_indexOfName_1 F) (a0 : (List DTableEntry)) (c1_0 : (List ByteArray)) : evBody prims (fun F lv => aloop F lv fuel) TY F ⟨Tryz.f84, Tryz.f84.body.getD .skip, fun id => if id = 2 then [0, 1, 7, 8] else []⟩ [.v (.sl 92 2 (List.map eTableEntry a0)), .v (.fn 95 [.ptr [.sl 9 1 (List.map eS c1_0)]])] = (s_slices_IndexFunc_TableEntry__indexOfName_1 a0 c1_0).bind fun r => some [.v (.at (.int .i64 r))] := by
  obtain ⟨p, hp⟩ : ∃ p : Prims, p = prims := ⟨_, rfl⟩
  obtain ⟨m_TableEntry, hm_TableEntry⟩ : ∃ m, m = List.map eTableEntry := ⟨_, rfl⟩
  obtain ⟨m_string, hm_string⟩ : ∃ m, m = List.map eS := ⟨_, rfl⟩
  rw [← hp]
  rw [← hm_TableEntry, ← hm_string]
  obtain ⟨p_arith, p_cmp, p_wrap, p_scmp, p_scat, p_catOk, p_ssize, p_sat, p_ssub, p_bytes, p_str, p_bnot, p_beq, p_min, p_max, p_len, p_int, p_nth, p_sub, p_rsub, p_ridx, p_rnth, p_rset, p_rapp, p_rlen, p_addN, p_full, p_fits, p_frz, p_own, p_opn, p_lend, p_rmov, p_rout, p_both, p_yI, p_ofB, p_byW, p_mkN, p_rep, p_copy⟩ := p
  have h_arith : p_arith = prims.arith := congrArg Prims.arith hp
  have h_cmp : p_cmp = prims.cmp := congrArg Prims.cmp hp
  have h_int : p_int = prims.int := congrArg Prims.int hp
  have h_len : p_len = prims.len := congrArg Prims.len hp
  have h_nth : p_nth = prims.nth := congrArg Prims.nth hp
  clear hp
  have nth_TableEntry := @nthF_TableEntry
  rw [← h_nth, ← hm_TableEntry, ← hm_string] at nth_TableEntry
  unfold Has_s_impl_indexOfName_1 at hF_s_impl_indexOfName_1
  rw [← hm_string] at hF_s_impl_indexOfName_1
  generalize hal : (fun (F : St → (Ex → St → Option (List Arg)) → Option (List Arg)) lv => aloop F lv fuel) = al
  rw [s_slices_IndexFunc_TableEntry__indexOfName_1]
  conv => lhs; cbv
  refine (loop_al hal (fun v1 => ⟨[.c (.rd true 92 2 (m_TableEntry a0)), .c (.fn 95 [.bp true [.sl 9 1 (m_string c1_0)] 0]), dd, dd, dd, dd, dd, .c (.at (.int .i64 (p_int (p_len (m_TableEntry a0))))), .c (.at (.int .i64 v1)), dd, dd, dd, dd, dd, dd, dd, dd, dd, dd], [], 1⟩) (s_slices_IndexFunc_TableEntry__indexOfName_1_l1 a0 c1_0) (fun K g => match g with | .inl v1 => K (.exit 0) ⟨[.c (.rd true 92 2 (m_TableEntry a0)), .c (.fn 95 [.bp true [.sl 9 1 (m_string c1_0)] 0]), dd, dd, dd, dd, dd, .c (.at (.int .i64 (p_int (p_len (m_TableEntry a0))))), .c (.at (.int .i64 v1)), .c (.at (.bool false)), dd, dd, dd, dd, dd, dd, dd, dd, dd], [], 2⟩ | .inr (r) => some [.v (.at (.int .i64 r))]) ?_ 0 _ (rfl)).trans (cL ?_)
  · rintro K1 hr1 v1 R1
    rw [s_slices_IndexFunc_TableEntry__indexOfName_1_l1, ← h_arith, ← h_cmp, ← h_int, ← h_len, ← hm_TableEntry]
    conv => lhs; cbv
    refine cC (fun hb2 => ?_) (fun hb2 => ?_)
    · rw [hb2]
      conv => lhs; cbv
      rw [nth_TableEntry]
      refine cO (fun hx4 => ?_) ?_
      · rw [hx4]
        first | done | rfl
      · rintro x3 hx4
        rw [hx4]
        conv => lhs; cbv
        rw [hF_s_impl_indexOfName_1 x3 c1_0]
        refine cO (fun hx6 => ?_) ?_
        · rw [hx6]
          first | done | rfl
        · rintro r5 hx6
          rw [hx6]
          conv => lhs; cbv
          refine cC (fun hb7 => ?_) (fun hb7 => ?_)
          · rw [hb7]
            conv => lhs; cbv
            rw [hr1]
            conv => lhs; cbv
            first | done | rfl
          · rw [hb7]
            conv => lhs; cbv
            first | done | rfl
    · rw [hb2]
      conv => lhs; cbv
      first | done | rfl
  · rintro (w8 | w9)
    · conv => lhs; cbv
      first | done | rfl
    · rfl
def s_impl_indexOfName (a0 : (List DTableEntry)) (a1 : (List ByteArray)) : Option (Int) := (s_slices_IndexFunc_TableEntry__indexOfName_1 a0 a1).bind fun r1 => some r1
def Has_s_impl_indexOfName (F : Fns) : Prop := ∀ (a0 : (List DTableEntry)) (a1 : (List ByteArray)), F 85 [.v (.sl 92 2 (List.map eTableEntry a0)), .a [.sl 9 1 (List.map eS a1)]] = (s_impl_indexOfName a0 a1).bind fun r => some [.v (.at (.int .i64 r))]
set_option maxHeartbeats 40000000 in
theorem e_s_impl_indexOfName (F : Fns) (hF_s_slices_IndexFunc_TableEntry__indexOfName_1 : Has_s_slices_IndexFunc_TableEntry__indexOfName_1 F) (a0 : (List DTableEntry)) (a1 : (List ByteArray)) : evBody prims (fun F lv => aloop F lv fuel) TY F ⟨Tryz.f85, Tryz.f85.body.getD .skip, fun _ => []⟩ [.v (.sl 92 2 (List.map eTableEntry a0)), .a [.sl 9 1 (List.map eS a1)]] = (s_impl_indexOfName a0 a1).bind fun r => some [.v (.at (.int .i64 r))] := by
  obtain ⟨p, hp⟩ : ∃ p : Prims, p = prims := ⟨_, rfl⟩
  obtain ⟨m_TableEntry, hm_TableEntry⟩ : ∃ m, m = List.map eTableEntry := ⟨_, rfl⟩
  obtain ⟨m_string, hm_string⟩ : ∃ m, m = List.map eS := ⟨_, rfl⟩
  rw [← hp]
  rw [← hm_TableEntry, ← hm_string]
  obtain ⟨p_arith, p_cmp, p_wrap, p_scmp, p_scat, p_catOk, p_ssize, p_sat, p_ssub, p_bytes, p_str, p_bnot, p_beq, p_min, p_max, p_len, p_int, p_nth, p_sub, p_rsub, p_ridx, p_rnth, p_rset, p_rapp, p_rlen, p_addN, p_full, p_fits, p_frz, p_own, p_opn, p_lend, p_rmov, p_rout, p_both, p_yI, p_ofB, p_byW, p_mkN, p_rep, p_copy⟩ := p
  clear hp
  unfold Has_s_slices_IndexFunc_TableEntry__indexOfName_1 at hF_s_slices_IndexFunc_TableEntry__indexOfName_1
  rw [← hm_TableEntry, ← hm_string] at hF_s_slices_IndexFunc_TableEntry__indexOfName_1
  generalize hal : (fun (F : St → (Ex → St → Option (List Arg)) → Option (List Arg)) lv => aloop F lv fuel) = al
  rw [s_impl_indexOfName]
  conv => lhs; cbv
  rw [hF_s_slices_IndexFunc_TableEntry__indexOfName_1 a0 a1]
  refine cO (fun hx2 => ?_) ?_
  · rw [hx2]
    first | done | rfl
  · rintro r1 hx2
    rw [hx2]
    conv => lhs; cbv
    first | done | rfl
def s_impl_LookupEntry (a0 : (List DTableEntry)) (a1 : (List ByteArray)) : Option (Int × Bool) := (s_impl_indexOfName a0 a1).bind fun r1 => bif prims.cmp .lss r1 0 then (some (0, false)) else ((nthI a0 r1).bind fun x4 => some (x4.value, true))
def Has_s_impl_LookupEntry (F : Fns) : Prop := ∀ (a0 : (List DTableEntry)) (a1 : (List ByteArray)), F 66 [.v (.sl 92 2 (List.map eTableEntry a0)), .a [.sl 9 1 (List.map eS a1)]] = (s_impl_LookupEntry a0 a1).bind fun r => some [.v (.at (.int .i64 r.1)), .v (.at (.bool r.2))]
set_option maxHeartbeats 40000000 in
theorem e_s_impl_LookupEntry (F : Fns) (hF_s_impl_indexOfName : Has_s_impl_indexOfName F) (a0 : (List DTableEntry)) (a1 : (List ByteArray)) : evBody prims (fun F lv => aloop F lv fuel) TY F ⟨Tryz.f66, Tryz.f66.body.getD .skip, fun _ => []⟩ [.v (.sl 92 2 (List.map eTableEntry a0)), .a [.sl 9 1 (List.map eS a1)]] = (s_impl_LookupEntry a0 a1).bind fun r => some [.v (.at (.int .i64 r.1)), .v (.at (.bool r.2))] := by
  obtain ⟨p, hp⟩ : ∃ p : Prims, p = prims := ⟨_, rfl⟩
  obtain ⟨m_TableEntry, hm_TableEntry⟩ : ∃ m, m = List.map eTableEntry := ⟨_, rfl⟩
  obtain ⟨m_string, hm_string⟩ : ∃ m, m = List.map eS := ⟨_, rfl⟩
  rw [← hp]
  rw [← hm_TableEntry, ← hm_string]
  obtain ⟨p_arith, p_cmp, p_wrap, p_scmp, p_scat, p_catOk, p_ssize, p_sat, p_ssub, p_bytes, p_str, p_bnot, p_beq, p_min, p_max, p_len, p_int, p_nth, p_sub, p_rsub, p_ridx, p_rnth, p_rset, p_rapp, p_rlen, p_addN, p_full, p_fits, p_frz, p_own, p_opn, p_lend, p_rmov, p_rout, p_both, p_yI, p_ofB, p_byW, p_mkN, p_rep, p_copy⟩ := p
  have h_cmp : p_cmp = prims.cmp := congrArg Prims.cmp hp
  have h_nth : p_nth = prims.nth := congrArg Prims.nth hp
  clear hp
  have nth_TableEntry := @nthF_TableEntry
  rw [← h_nth, ← hm_TableEntry, ← hm_string] at nth_TableEntry
  unfold Has_s_impl_indexOfName at hF_s_impl_indexOfName
  rw [← hm_TableEntry, ← hm_string] at hF_s_impl_indexOfName
  generalize hal : (fun (F : St → (Ex → St → Option (List Arg)) → Option (List Arg)) lv => aloop F lv fuel) = al
  rw [s_impl_LookupEntry, ← h_cmp]
  conv => lhs; cbv
  rw [hF_s_impl_indexOfName a0 a1]
  refine cO (fun hx2 => ?_) ?_
  · rw [hx2]
    first | done | rfl
  · rintro r1 hx2
    rw [hx2]
    conv => lhs; cbv
    refine cC (fun hb3 => ?_) (fun hb3 => ?_)
    · rw [hb3]
      conv => lhs; cbv
      first | done | rfl
    · rw [hb3]
      conv => lhs; cbv
      rw [nth_TableEntry]
      refine cO (fun hx5 => ?_) ?_
      · rw [hx5]
        first | done | rfl
      · rintro x4 hx5
        rw [hx5]
        conv => lhs; cbv
        first | done | rfl
def s_impl_SeqOf (a0 : (List DTableEntry)) (a1 : (List ByteArray)) : Option (Int) := (s_impl_LookupEntry a0 a1).bind fun ⟨r1_0, r1_1⟩ => some r1_0
def Has_s_impl_SeqOf (F : Fns) : Prop := ∀ (a0 : (List DTableEntry)) (a1 : (List ByteArray)), F 40 [.a [.sl 92 2 (List.map eTableEntry a0)], .a [.sl 9 1 (List.map eS a1)]] = (s_impl_SeqOf a0 a1).bind fun r => some [.v (.at (.int .i64 r))]
set_option maxHeartbeats 40000000 in
theorem e_s_impl_SeqOf (F : Fns) (hF_s_impl_LookupEntry : Has_s_impl_LookupEntry F) (a0 : (List DTableEntry)) (a1 : (List ByteArray)) : evBody prims (fun F lv => aloop F lv fuel) TY F ⟨Tryz.f40, Tryz.f40.body.getD .skip, fun _ => []⟩ [.a [.sl 92 2 (List.map eTableEntry a0)], .a [.sl 9 1 (List.map eS a1)]] = (s_impl_SeqOf a0 a1).bind fun r => some [.v (.at (.int .i64 r))] := by
  obtain ⟨p, hp⟩ : ∃ p : Prims, p = prims := ⟨_, rfl⟩
  obtain ⟨m_TableEntry, hm_TableEntry⟩ : ∃ m, m = List.map eTableEntry := ⟨_, rfl⟩
  obtain ⟨m_string, hm_string⟩ : ∃ m, m = List.map eS := ⟨_, rfl⟩
  rw [← hp]
  rw [← hm_TableEntry, ← hm_string]
  obtain ⟨p_arith, p_cmp, p_wrap, p_scmp, p_scat, p_catOk, p_ssize, p_sat, p_ssub, p_bytes, p_str, p_bnot, p_beq, p_min, p_max, p_len, p_int, p_nth, p_sub, p_rsub, p_ridx, p_rnth, p_rset, p_rapp, p_rlen, p_addN, p_full, p_fits, p_frz, p_own, p_opn, p_lend, p_rmov, p_rout, p_both, p_yI, p_ofB, p_byW, p_mkN, p_rep, p_copy⟩ := p
  clear hp
  unfold Has_s_impl_LookupEntry at hF_s_impl_LookupEntry
  rw [← hm_TableEntry, ← hm_string] at hF_s_impl_LookupEntry
  generalize hal : (fun (F : St → (Ex → St → Option (List Arg)) → Option (List Arg)) lv => aloop F lv fuel) = al
  rw [s_impl_SeqOf]
  conv => lhs; cbv
  rw [hF_s_impl_LookupEntry a0 a1]
  refine cO (fun hx2 => ?_) ?_
  · rw [hx2]
    first | done | rfl
  · rintro ⟨r1_0, r1_1⟩ hx2
    rw [hx2]
    conv => lhs; cbv
    first | done | rfl
def s_impl_publishedAt_1 (a0 : DPublication) (k0 : Int) (k1 : (List ByteArray)) : Option (Bool) := bif prims.cmp .eql a0.seq k0 then ((s_impl_EqualNames a0.publisher k1).bind fun r2 => some r2) else (some false)
def Has_s_impl_publishedAt_1 (F : Fns) : Prop := ∀ (a0 : DPublication) (k0 : Int) (k1 : (List ByteArray)), F 68 [.a [.sl 9 1 (List.map eS a0.publisher), .at (.int .i64 a0.seq), .sl 5 1 (List.map eY a0.content)], .v (.ptr [.at (.int .i64 k0)]), .v (.ptr [.sl 9 1 (List.map eS k1)])] = (s_impl_publishedAt_1 a0 k0 k1).bind fun r => some [.v (.at (.bool r))]
set_option maxHeartbeats 40000000 in
theorem e_s_impl_publishedAt_1 (F : Fns) (hF_s_impl_EqualNames : Has_s_impl_EqualNames F) (a0 : DPublication) (k0 : Int) (k1 : (List ByteArray)) : evBody prims (fun F lv => aloop F lv fuel) TY F ⟨Tryz.f68, Tryz.f68.body.getD .skip, fun _ => []⟩ [.a [.sl 9 1 (List.map eS a0.publisher), .at (.int .i64 a0.seq), .sl 5 1 (List.map eY a0.content)], .v (.ptr [.at (.int .i64 k0)]), .v (.ptr [.sl 9 1 (List.map eS k1)])] = (s_impl_publishedAt_1 a0 k0 k1).bind fun r => some [.v (.at (.bool r))] := by
  obtain ⟨p, hp⟩ : ∃ p : Prims, p = prims := ⟨_, rfl⟩
  obtain ⟨m_byte, hm_byte⟩ : ∃ m, m = List.map eY := ⟨_, rfl⟩
  obtain ⟨m_string, hm_string⟩ : ∃ m, m = List.map eS := ⟨_, rfl⟩
  rw [← hp]
  rw [← hm_byte, ← hm_string]
  obtain ⟨p_arith, p_cmp, p_wrap, p_scmp, p_scat, p_catOk, p_ssize, p_sat, p_ssub, p_bytes, p_str, p_bnot, p_beq, p_min, p_max, p_len, p_int, p_nth, p_sub, p_rsub, p_ridx, p_rnth, p_rset, p_rapp, p_rlen, p_addN, p_full, p_fits, p_frz, p_own, p_opn, p_lend, p_rmov, p_rout, p_both, p_yI, p_ofB, p_byW, p_mkN, p_rep, p_copy⟩ := p
  have h_cmp : p_cmp = prims.cmp := congrArg Prims.cmp hp
  clear hp
  unfold Has_s_impl_EqualNames at hF_s_impl_EqualNames
  rw [← hm_string] at hF_s_impl_EqualNames
  generalize hal : (fun (F : St → (Ex → St → Option (List Arg)) → Option (List Arg)) lv => aloop F lv fuel) = al
  rw [s_impl_publishedAt_1, ← h_cmp]
  conv => lhs; cbv
  refine cC (fun hb1 => ?_) (fun hb1 => ?_)
  · rw [hb1]
    conv => lhs; cbv
    rw [hF_s_impl_EqualNames a0.publisher k1]
    refine cO (fun hx3 => ?_) ?_
    · rw [hx3]
      first | done | rfl
    · rintro r2 hx3
      rw [hx3]
      conv => lhs; cbv
      first | done | rfl
  · rw [hb1]
    conv => lhs; cbv
    first | done | rfl
def s_slices_IndexFunc_Publication__publishedAt_1_l1 (a0 : (List DPublication)) (c1_0 : Int) (c1_1 : (List ByteArray)) : Int → Option ((Int) ⊕ ((Int) ⊕ (Int)))
  | v1 => bif prims.cmp .lss v1 (prims.int (prims.len (List.map ePublication a0))) then ((nthI a0 v1).bind fun x3 => (s_impl_publishedAt_1 x3 c1_0 c1_1).bind fun r5 => bif r5 then (some (.inr (.inr (v1)))) else (some (.inl (prims.arith .add .i64 v1 1)))) else (some (.inr (.inl v1)))
def s_slices_IndexFunc_Publication__publishedAt_1 (a0 : (List DPublication)) (c1_0 : Int) (c1_1 : (List ByteArray)) : Option (Int) := (whileO (s_slices_IndexFunc_Publication__publishedAt_1_l1 a0 c1_0 c1_1) fuel 0).bind fun g => match g with | .inl w8 => (some (-1)) | .inr (w9) => (some w9)
def Has_s_slices_IndexFunc_Publication__publishedAt_1 (F : Fns) : Prop := ∀ (a0 : (List DPublication)) (c1_0 : Int) (c1_1 : (List ByteArray)), F 67 [.v (.sl 76 3 (List.map ePublication a0)), .v (.fn 68 [.ptr [.at (.int .i64 c1_0)], .ptr [.sl 9 1 (List.map eS c1_1)]])] = (s_slices_IndexFunc_Publication__publishedAt_1 a0 c1_0 c1_1).bind fun r => some [.v (.at (.int .i64 r))]
set_option maxHeartbeats 40000000 in
theorem e_s_slices_IndexFunc_Publication__publishedAt_1 (F : Fns) (hF_s_impl_publishedAt_1 : Has_s_impl_publishedAt_1 F) (a0 : (List DPublication)) (c1_0 : Int) (c1_1 : (List ByteArray)) : evBody prims (fun F lv => aloop F lv fuel) TY F ⟨Tryz.f67, Tryz.f67.body.getD .skip, fun id => if id = 2 then [0, 1, 7, 8] else []⟩ [.v (.sl 76 3 (List.map ePublication a0)), .v (.fn 68 [.ptr [.at (.int .i64 c1_0)], .ptr [.sl 9 1 (List.map eS c1_1)]])] = (s_slices_IndexFunc_Publication__publishedAt_1 a0 c1_0 c1_1).bind fun r => some [.v (.at (.int .i64 r))] := by
  obtain ⟨p, hp⟩ : ∃ p : Prims, p = prims := ⟨_, rfl⟩
  obtain ⟨m_Publication, hm_Publication⟩ : ∃ m, m = List.map ePublication := ⟨_, rfl⟩
  obtain ⟨m_byte, hm_byte⟩ : ∃ m, m = List.map eY := ⟨_, rfl⟩
  obtain ⟨m_string, hm_string⟩ : ∃ m, m = List.map eS := ⟨_, rfl⟩
  rw [← hp]
  rw [← hm_Publication, ← hm_string]
  obtain ⟨p_arith, p_cmp, p_wrap, p_scmp, p_scat, p_catOk, p_ssize, p_sat, p_ssub, p_bytes, p_str, p_bnot, p_beq, p_min, p_max, p_len, p_int, p_nth, p_sub, p_rsub, p_ridx, p_rnth, p_rset, p_rapp, p_rlen, p_addN, p_full, p_fits, p_frz, p_own, p_opn, p_lend, p_rmov, p_rout, p_both, p_yI, p_ofB, p_byW, p_mkN, p_rep, p_copy⟩ := p
  have h_arith : p_arith = prims.arith := congrArg Prims.arith hp
  have h_cmp : p_cmp = prims.cmp := congrArg Prims.cmp hp
  have h_int : p_int = prims.int := congrArg Prims.int hp
  have h_len : p_len = prims.len := congrArg Prims.len hp
  have h_nth : p_nth = prims.nth := congrArg Prims.nth hp
  clear hp
  have nth_Publication := @nthF_Publication
  rw [← h_nth, ← hm_Publication, ← hm_byte, ← hm_string] at nth_Publication
  unfold Has_s_impl_publishedAt_1 at hF_s_impl_publishedAt_1
  rw [← hm_byte, ← hm_string] at hF_s_impl_publishedAt_1
  generalize hal : (fun (F : St → (Ex → St → Option (List Arg)) → Option (List Arg)) lv => aloop F lv fuel) = al
  rw [s_slices_IndexFunc_Publication__publishedAt_1]
  conv => lhs; cbv
  refine (loop_al hal (fun v1 => ⟨[.c (.rd true 76 3 (m_Publication a0)), .c (.fn 68 [.bp true [.at (.int .i64 c1_0)] 0, .bp true [.sl 9 1 (m_string c1_1)] 0]), dd, dd, dd, dd, dd, .c (.at (.int .i64 (p_int (p_len (m_Publication a0))))), .c (.at (.int .i64 v1)), dd, dd, dd, dd, dd, dd, dd, dd, dd, dd], [], 1⟩) (s_slices_IndexFunc_Publication__publishedAt_1_l1 a0 c1_0 c1_1) (fun K g => match g with | .inl v1 => K (.exit 0) ⟨[.c (.rd true 76 3 (m_Publication a0)), .c (.fn 68 [.bp true [.at (.int .i64 c1_0)] 0, .bp true [.sl 9 1 (m_string c1_1)] 0]), dd, dd, dd, dd, dd, .c (.at (.int .i64 (p_int (p_len (m_Publication a0))))), .c (.at (.int .i64 v1)), .c (.at (.bool false)), dd, dd, dd, dd, dd, dd, dd, dd, dd], [], 2⟩ | .inr (r) => some [.v (.at (.int .i64 r))]) ?_ 0 _ (rfl)).trans (cL ?_)
  · rintro K1 hr1 v1 R1
    rw [s_slices_IndexFunc_Publication__publishedAt_1_l1, ← h_arith, ← h_cmp, ← h_int, ← h_len, ← hm_Publication]
    conv => lhs; cbv
    refine cC (fun hb2 => ?_) (fun hb2 => ?_)
    · rw [hb2]
      conv => lhs; cbv
      rw [nth_Publication]
      refine cO (fun hx4 => ?_) ?_
      · rw [hx4]
        first | done | rfl
      · rintro x3 hx4
        rw [hx4]
        conv => lhs; cbv
        rw [hF_s_impl_publishedAt_1 x3 c1_0 c1_1]
        refine cO (fun hx6 => ?_) ?_
        · rw [hx6]
          first | done | rfl
        · rintro r5 hx6
          rw [hx6]
          conv => lhs; cbv
          refine cC (fun hb7 => ?_) (fun hb7 => ?_)
          · rw [hb7]
            conv => lhs; cbv
            rw [hr1]
            conv => lhs; cbv
            first | done | rfl
          · rw [hb7]
            conv => lhs; cbv
            first | done | rfl
    · rw [hb2]
      conv => lhs; cbv
      first | done | rfl
  · rintro (w8 | w9)
    · conv => lhs; cbv
      first | done | rfl
    · rfl
def s_impl_publishedAt (a0 : (List DPublication)) (a1 : (List ByteArray)) (a2 : Int) : Option (Int) := (s_slices_IndexFunc_Publication__publishedAt_1 a0 a2 a1).bind fun r1 => some r1
def Has_s_impl_publishedAt (F : Fns) : Prop := ∀ (a0 : (List DPublication)) (a1 : (List ByteArray)) (a2 : Int), F 41 [.v (.sl 76 3 (List.map ePublication a0)), .a [.sl 9 1 (List.map eS a1)], .v (.at (.int .i64 a2))] = (s_impl_publishedAt a0 a1 a2).bind fun r => some [.v (.at (.int .i64 r))]
set_option maxHeartbeats 40000000 in
theorem e_s_impl_publishedAt (F : Fns) (hF_s_slices_IndexFunc_Publication__publishedAt_1 : Has_s_slices_IndexFunc_Publication__publishedAt_1 F) (a0 : (List DPublication)) (a1 : (List ByteArray)) (a2 : Int) : evBody prims (fun F lv => aloop F lv fuel) TY F ⟨Tryz.f41, Tryz.f41.body.getD .skip, fun _ => []⟩ [.v (.sl 76 3 (List.map ePublication a0)), .a [.sl 9 1 (List.map eS a1)], .v (.at (.int .i64 a2))] = (s_impl_publishedAt a0 a1 a2).bind fun r => some [.v (.at (.int .i64 r))] := by
  obtain ⟨p, hp⟩ : ∃ p : Prims, p = prims := ⟨_, rfl⟩
  obtain ⟨m_Publication, hm_Publication⟩ : ∃ m, m = List.map ePublication := ⟨_, rfl⟩
  obtain ⟨m_string, hm_string⟩ : ∃ m, m = List.map eS := ⟨_, rfl⟩
  rw [← hp]
  rw [← hm_Publication, ← hm_string]
  obtain ⟨p_arith, p_cmp, p_wrap, p_scmp, p_scat, p_catOk, p_ssize, p_sat, p_ssub, p_bytes, p_str, p_bnot, p_beq, p_min, p_max, p_len, p_int, p_nth, p_sub, p_rsub, p_ridx, p_rnth, p_rset, p_rapp, p_rlen, p_addN, p_full, p_fits, p_frz, p_own, p_opn, p_lend, p_rmov, p_rout, p_both, p_yI, p_ofB, p_byW, p_mkN, p_rep, p_copy⟩ := p
  clear hp
  unfold Has_s_slices_IndexFunc_Publication__publishedAt_1 at hF_s_slices_IndexFunc_Publication__publishedAt_1
  rw [← hm_Publication, ← hm_string] at hF_s_slices_IndexFunc_Publication__publishedAt_1
  generalize hal : (fun (F : St → (Ex → St → Option (List Arg)) → Option (List Arg)) lv => aloop F lv fuel) = al
  rw [s_impl_publishedAt]
  conv => lhs; cbv
  rw [hF_s_slices_IndexFunc_Publication__publishedAt_1 a0 a2 a1]
  refine cO (fun hx2 => ?_) ?_
  · rw [hx2]
    first | done | rfl
  · rintro r1 hx2
    rw [hx2]
    conv => lhs; cbv
    first | done | rfl
def s_impl_VectorSum_l1 (a0 : (List DTableEntry)) : (Int × Int) → Option ((Int × Int) ⊕ ((Int × Int)))
  | (v1, v2) => bif prims.cmp .lss v2 (prims.int (prims.len (List.map eTableEntry a0))) then ((nthI a0 v2).bind fun x4 => some (.inl (prims.arith .add .i64 v1 x4.value, prims.arith .add .i64 v2 1))) else (some (.inr (v1, v2)))
def s_impl_VectorSum (a0 : (List DTableEntry)) : Option (Int) := (whileO (s_impl_VectorSum_l1 a0) fuel (0, 0)).bind fun ⟨w6, w7⟩ => some w6
def Has_s_impl_VectorSum (F : Fns) : Prop := ∀ (a0 : (List DTableEntry)), F 42 [.a [.sl 92 2 (List.map eTableEntry a0)]] = (s_impl_VectorSum a0).bind fun r => some [.v (.at (.int .i64 r))]
set_option maxHeartbeats 40000000 in
theorem e_s_impl_VectorSum (F : Fns) (a0 : (List DTableEntry)) : evBody prims (fun F lv => aloop F lv fuel) TY F ⟨Tryz.f42, Tryz.f42.body.getD .skip, fun id => if id = 3 then [3, 7, 8, 9] else []⟩ [.a [.sl 92 2 (List.map eTableEntry a0)]] = (s_impl_VectorSum a0).bind fun r => some [.v (.at (.int .i64 r))] := by
  obtain ⟨p, hp⟩ : ∃ p : Prims, p = prims := ⟨_, rfl⟩
  obtain ⟨m_TableEntry, hm_TableEntry⟩ : ∃ m, m = List.map eTableEntry := ⟨_, rfl⟩
  obtain ⟨m_string, hm_string⟩ : ∃ m, m = List.map eS := ⟨_, rfl⟩
  rw [← hp]
  rw [← hm_TableEntry]
  obtain ⟨p_arith, p_cmp, p_wrap, p_scmp, p_scat, p_catOk, p_ssize, p_sat, p_ssub, p_bytes, p_str, p_bnot, p_beq, p_min, p_max, p_len, p_int, p_nth, p_sub, p_rsub, p_ridx, p_rnth, p_rset, p_rapp, p_rlen, p_addN, p_full, p_fits, p_frz, p_own, p_opn, p_lend, p_rmov, p_rout, p_both, p_yI, p_ofB, p_byW, p_mkN, p_rep, p_copy⟩ := p
  have h_arith : p_arith = prims.arith := congrArg Prims.arith hp
  have h_cmp : p_cmp = prims.cmp := congrArg Prims.cmp hp
  have h_int : p_int = prims.int := congrArg Prims.int hp
  have h_len : p_len = prims.len := congrArg Prims.len hp
  have h_nth : p_nth = prims.nth := congrArg Prims.nth hp
  clear hp
  have nth_TableEntry := @nthF_TableEntry
  rw [← h_nth, ← hm_TableEntry, ← hm_string] at nth_TableEntry
  generalize hal : (fun (F : St → (Ex → St → Option (List Arg)) → Option (List Arg)) lv => aloop F lv fuel) = al
  rw [s_impl_VectorSum]
  conv => lhs; cbv
  refine (loop_al hal (fun x => match x with | (v1, v2) => ⟨[dd, dd, dd, .c (.at (.int .i64 v1)), dd, dd, dd, .c (.rd true 92 2 (m_TableEntry a0)), .c (.at (.int .i64 (p_int (p_len (m_TableEntry a0))))), .c (.at (.int .i64 v2)), dd, dd, dd, dd, dd, dd, dd, dd, dd], [], 1⟩) (s_impl_VectorSum_l1 a0) (fun K g => match g with | (v1, v2) => K (.exit 0) ⟨[dd, dd, dd, .c (.at (.int .i64 v1)), dd, dd, dd, .c (.rd true 92 2 (m_TableEntry a0)), .c (.at (.int .i64 (p_int (p_len (m_TableEntry a0))))), .c (.at (.int .i64 v2)), .c (.at (.bool false)), dd, dd, dd, dd, dd, dd, dd, dd], [], 2⟩) ?_ (0, 0) _ (rfl)).trans (cL ?_)
  · rintro K1 hr1 ⟨v1, v2⟩ R1
    rw [s_impl_VectorSum_l1, ← h_arith, ← h_cmp, ← h_int, ← h_len, ← hm_TableEntry]
    conv => lhs; cbv
    refine cC (fun hb3 => ?_) (fun hb3 => ?_)
    · rw [hb3]
      conv => lhs; cbv
      rw [nth_TableEntry]
      refine cO (fun hx5 => ?_) ?_
      · rw [hx5]
        first | done | rfl
      · rintro x4 hx5
        rw [hx5]
        conv => lhs; cbv
        first | done | rfl
    · rw [hb3]
      conv => lhs; cbv
      first | done | rfl
  · rintro ⟨w6, w7⟩
    conv => lhs; cbv
    first | done | rfl
def s_impl_ValidMember_l1 (a0 : DMember) : Int → Option ((Int) ⊕ ((Int) ⊕ (Bool)))
  | v9 => bif prims.cmp .lss v9 (prims.int (prims.len (List.map ePublication a0.publications))) then ((nthI a0.publications v9).bind fun x11 => (s_impl_SeqOf a0.vector x11.publisher).bind fun r13 => (s_impl_InRange x11.seq 1 r13).bind fun r15 => bif prims.bnot r15 then (some (.inr (.inr (false)))) else (bif prims.cmp .gtr (prims.int (prims.len (List.map eY x11.content))) 60 then (some (.inr (.inr (false)))) else ((subI a0.publications none (some v9)).bind fun x19 => (s_impl_publishedAt x19 x11.publisher x11.seq).bind fun r21 => bif prims.cmp .geq r21 0 then (some (.inr (.inr (false)))) else (some (.inl (prims.arith .add .i64 v9 1)))))) else (some (.inr (.inl v9)))
def s_impl_ValidMember (a0 : DMember) : Option (Bool) := (s_impl_ValidName a0.name).bind fun r1 => bif prims.bnot r1 then (some false) else (bif prims.cmp .eql (prims.int (prims.len (List.map eS a0.name))) 0 then (some false) else ((s_impl_ValidVector a0.vector).bind fun r5 => bif prims.bnot r5 then (some false) else (bif prims.cmp .gtr (prims.int (prims.len (List.map ePublication a0.publications))) 16 then (some false) else ((whileO (s_impl_ValidMember_l1 a0) fuel 0).bind fun g => match g with | .inl w24 => ((s_impl_VectorSum a0.vector).bind fun r25 => some (prims.cmp .eql r25 (prims.int (prims.len (List.map ePublication a0.publications))))) | .inr (w27) => (some w27)))))
def Has_s_impl_ValidMember (F : Fns) : Prop := ∀ (a0 : DMember), F 18 [.a [.sl 9 1 (List.map eS a0.name), .sl 92 2 (List.map eTableEntry a0.vector), .sl 76 3 (List.map ePublication a0.publications)]] = (s_impl_ValidMember a0).bind fun r => some [.v (.at (.bool r))]
set_option maxHeartbeats 40000000 in
theorem e_s_impl_ValidMember (F : Fns) (hF_s_impl_ValidName : Has_s_impl_ValidName F) (hF_s_impl_ValidVector : Has_s_impl_ValidVector F) (hF_s_impl_SeqOf : Has_s_impl_SeqOf F) (hF_s_impl_InRange : Has_s_impl_InRange F) (hF_s_impl_publishedAt : Has_s_impl_publishedAt F) (hF_s_impl_VectorSum : Has_s_impl_VectorSum F) (a0 : DMember) : evBody prims (fun F lv => aloop F lv fuel) TY F ⟨Tryz.f18, Tryz.f18.body.getD .skip, fun id => if id = 4 then [1, 29, 30, 31] else []⟩ [.a [.sl 9 1 (List.map eS a0.name), .sl 92 2 (List.map eTableEntry a0.vector), .sl 76 3 (List.map ePublication a0.publications)]] = (s_impl_ValidMember a0).bind fun r => some [.v (.at (.bool r))] := by
  obtain ⟨p, hp⟩ : ∃ p : Prims, p = prims := ⟨_, rfl⟩
  obtain ⟨m_Publication, hm_Publication⟩ : ∃ m, m = List.map ePublication := ⟨_, rfl⟩
  obtain ⟨m_TableEntry, hm_TableEntry⟩ : ∃ m, m = List.map eTableEntry := ⟨_, rfl⟩
  obtain ⟨m_byte, hm_byte⟩ : ∃ m, m = List.map eY := ⟨_, rfl⟩
  obtain ⟨m_string, hm_string⟩ : ∃ m, m = List.map eS := ⟨_, rfl⟩
  rw [← hp]
  rw [← hm_Publication, ← hm_TableEntry, ← hm_string]
  obtain ⟨p_arith, p_cmp, p_wrap, p_scmp, p_scat, p_catOk, p_ssize, p_sat, p_ssub, p_bytes, p_str, p_bnot, p_beq, p_min, p_max, p_len, p_int, p_nth, p_sub, p_rsub, p_ridx, p_rnth, p_rset, p_rapp, p_rlen, p_addN, p_full, p_fits, p_frz, p_own, p_opn, p_lend, p_rmov, p_rout, p_both, p_yI, p_ofB, p_byW, p_mkN, p_rep, p_copy⟩ := p
  have h_arith : p_arith = prims.arith := congrArg Prims.arith hp
  have h_bnot : p_bnot = prims.bnot := congrArg Prims.bnot hp
  have h_cmp : p_cmp = prims.cmp := congrArg Prims.cmp hp
  have h_int : p_int = prims.int := congrArg Prims.int hp
  have h_len : p_len = prims.len := congrArg Prims.len hp
  have h_nth : p_nth = prims.nth := congrArg Prims.nth hp
  have h_sub : p_sub = prims.sub := congrArg Prims.sub hp
  clear hp
  have nth_Publication := @nthF_Publication
  rw [← h_nth, ← hm_Publication, ← hm_byte, ← hm_string] at nth_Publication
  have sub_Publication := @subF_Publication
  rw [← h_sub, ← hm_Publication] at sub_Publication
  unfold Has_s_impl_ValidName at hF_s_impl_ValidName
  rw [← hm_string] at hF_s_impl_ValidName
  unfold Has_s_impl_ValidVector at hF_s_impl_ValidVector
  rw [← hm_TableEntry] at hF_s_impl_ValidVector
  unfold Has_s_impl_SeqOf at hF_s_impl_SeqOf
  rw [← hm_TableEntry, ← hm_string] at hF_s_impl_SeqOf
  unfold Has_s_impl_InRange at hF_s_impl_InRange
  unfold Has_s_impl_publishedAt at hF_s_impl_publishedAt
  rw [← hm_Publication, ← hm_string] at hF_s_impl_publishedAt
  unfold Has_s_impl_VectorSum at hF_s_impl_VectorSum
  rw [← hm_TableEntry] at hF_s_impl_VectorSum
  generalize hal : (fun (F : St → (Ex → St → Option (List Arg)) → Option (List Arg)) lv => aloop F lv fuel) = al
  rw [s_impl_ValidMember, ← h_bnot, ← h_cmp, ← h_int, ← h_len, ← hm_Publication, ← hm_string]
  conv => lhs; cbv
  rw [hF_s_impl_ValidName a0.name]
  refine cO (fun hx2 => ?_) ?_
  · rw [hx2]
    first | done | rfl
  · rintro r1 hx2
    rw [hx2]
    conv => lhs; cbv
    refine cC (fun hb3 => ?_) (fun hb3 => ?_)
    · rw [hb3]
      conv => lhs; cbv
      first | done | rfl
    · rw [hb3]
      conv => lhs; cbv
      refine cC (fun hb4 => ?_) (fun hb4 => ?_)
      · rw [hb4]
        conv => lhs; cbv
        first | done | rfl
      · rw [hb4]
        conv => lhs; cbv
        rw [hF_s_impl_ValidVector a0.vector]
        refine cO (fun hx6 => ?_) ?_
        · rw [hx6]
          first | done | rfl
        · rintro r5 hx6
          rw [hx6]
          conv => lhs; cbv
          refine cC (fun hb7 => ?_) (fun hb7 => ?_)
          · rw [hb7]
            conv => lhs; cbv
            first | done | rfl
          · rw [hb7]
            conv => lhs; cbv
            refine cC (fun hb8 => ?_) (fun hb8 => ?_)
            · rw [hb8]
              conv => lhs; cbv
              first | done | rfl
            · rw [hb8]
              conv => lhs; cbv
              refine (loop_al hal (fun v9 => ⟨[dd, .c (.ptr (0, 0, 0) 3 0 0), dd, dd, dd, dd, dd, dd, dd, dd, dd, dd, dd, dd, dd, dd, dd, dd, dd, dd, dd, dd, dd, dd, dd, dd, dd, dd, dd, .c (.rd true 76 3 (m_Publication a0.publications)), .c (.at (.int .i64 (p_int (p_len (m_Publication a0.publications))))), .c (.at (.int .i64 v9)), dd, dd, dd, dd, dd, dd, dd, dd, dd, dd, dd, dd, dd, dd, dd, dd, dd, dd, dd, dd, dd, dd, dd, dd, dd, dd, dd, dd, dd, dd, dd, dd, dd, dd, dd, dd, dd, dd, dd], [((0, 0, 0), ⟨false, true, 51, 3, [[.rd true 9 1 (m_string a0.name), .rd true 92 2 (m_TableEntry a0.vector), .rd true 76 3 (m_Publication a0.publications)]]⟩)], 1⟩) (s_impl_ValidMember_l1 a0) (fun K g => match g with | .inl v9 => K (.exit 0) ⟨[dd, .c (.ptr (0, 0, 0) 3 0 0), dd, dd, dd, dd, dd, dd, dd, dd, dd, dd, dd, dd, dd, dd, dd, dd, dd, dd, dd, dd, dd, dd, dd, dd, dd, dd, dd, .c (.rd true 76 3 (m_Publication a0.publications)), .c (.at (.int .i64 (p_int (p_len (m_Publication a0.publications))))), .c (.at (.int .i64 v9)), .c (.at (.bool false)), dd, dd, dd, dd, dd, dd, dd, dd, dd, dd, dd, dd, dd, dd, dd, dd, dd, dd, dd, dd, dd, dd, dd, dd, dd, dd, dd, dd, dd, dd, dd, dd, dd, dd, dd, dd, dd, dd], [((0, 0, 0), ⟨false, true, 51, 3, [[.rd true 9 1 (m_string a0.name), .rd true 92 2 (m_TableEntry a0.vector), .rd true 76 3 (m_Publication a0.publications)]]⟩)], 2⟩ | .inr (r) => some [.v (.at (.bool r))]) ?_ 0 _ (rfl)).trans (cL ?_)
              · rintro K1 hr1 v9 R1
                rw [s_impl_ValidMember_l1, ← h_arith, ← h_bnot, ← h_cmp, ← h_int, ← h_len, ← hm_Publication, ← hm_byte]
                conv => lhs; cbv
                refine cC (fun hb10 => ?_) (fun hb10 => ?_)
                · rw [hb10]
                  conv => lhs; cbv
                  rw [nth_Publication]
                  refine cO (fun hx12 => ?_) ?_
                  · rw [hx12]
                    first | done | rfl
                  · rintro x11 hx12
                    rw [hx12]
                    conv => lhs; cbv
                    rw [hF_s_impl_SeqOf a0.vector x11.publisher]
                    refine cO (fun hx14 => ?_) ?_
                    · rw [hx14]
                      first | done | rfl
                    · rintro r13 hx14
                      rw [hx14]
                      conv => lhs; cbv
                      rw [hF_s_impl_InRange x11.seq 1 r13]
                      refine cO (fun hx16 => ?_) ?_
                      · rw [hx16]
                        first | done | rfl
                      · rintro r15 hx16
                        rw [hx16]
                        conv => lhs; cbv
                        refine cC (fun hb17 => ?_) (fun hb17 => ?_)
                        · rw [hb17]
                          conv => lhs; cbv
                          rw [hr1]
                          conv => lhs; cbv
                          first | done | rfl
                        · rw [hb17]
                          conv => lhs; cbv
                          refine cC (fun hb18 => ?_) (fun hb18 => ?_)
                          · rw [hb18]
                            conv => lhs; cbv
                            rw [hr1]
                            conv => lhs; cbv
                            first | done | rfl
                          · rw [hb18]
                            conv => lhs; cbv
                            rw [sub_Publication]
                            refine cO (fun hx20 => ?_) ?_
                            · rw [hx20]
                              first | done | rfl
                            · rintro x19 hx20
                              rw [hx20]
                              conv => lhs; cbv
                              rw [hF_s_impl_publishedAt x19 x11.publisher x11.seq]
                              refine cO (fun hx22 => ?_) ?_
                              · rw [hx22]
                                first | done | rfl
                              · rintro r21 hx22
                                rw [hx22]
                                conv => lhs; cbv
                                refine cC (fun hb23 => ?_) (fun hb23 => ?_)
                                · rw [hb23]
                                  conv => lhs; cbv
                                  rw [hr1]
                                  conv => lhs; cbv
                                  first | done | rfl
                                · rw [hb23]
                                  conv => lhs; cbv
                                  first | done | rfl
                · rw [hb10]
                  conv => lhs; cbv
                  first | done | rfl
              · rintro (w24 | w27)
                · conv => lhs; cbv
                  rw [hF_s_impl_VectorSum a0.vector]
                  refine cO (fun hx26 => ?_) ?_
                  · rw [hx26]
                    first | done | rfl
                  · rintro r25 hx26
                    rw [hx26]
                    conv => lhs; cbv
                    first | done | rfl
                · rfl
def s_strconv_Itoa (a0 : Int) : Option (ByteArray) := if -9223372036854775808 ≤ a0 ∧ a0 ≤ 9223372036854775807 then some ⟨(Go.Lib.itoa a0).toArray⟩ else none
def Has_s_strconv_Itoa (F : Fns) : Prop := ∀ (a0 : Int), F 69 [.v (.at (.int .i64 a0))] = (s_strconv_Itoa a0).bind fun r => some [.v (.at (.string r))]
def s_impl_FormatInt (a0 : Int) : Option (ByteArray) := (s_strconv_Itoa a0).bind fun r1 => some r1
def Has_s_impl_FormatInt (F : Fns) : Prop := ∀ (a0 : Int), F 44 [.v (.at (.int .i64 a0))] = (s_impl_FormatInt a0).bind fun r => some [.v (.at (.string r))]
set_option maxHeartbeats 40000000 in
theorem e_s_impl_FormatInt (F : Fns) (hF_s_strconv_Itoa : Has_s_strconv_Itoa F) (a0 : Int) : evBody prims (fun F lv => aloop F lv fuel) TY F ⟨Tryz.f44, Tryz.f44.body.getD .skip, fun _ => []⟩ [.v (.at (.int .i64 a0))] = (s_impl_FormatInt a0).bind fun r => some [.v (.at (.string r))] := by
  obtain ⟨p, hp⟩ : ∃ p : Prims, p = prims := ⟨_, rfl⟩
  rw [← hp]
  obtain ⟨p_arith, p_cmp, p_wrap, p_scmp, p_scat, p_catOk, p_ssize, p_sat, p_ssub, p_bytes, p_str, p_bnot, p_beq, p_min, p_max, p_len, p_int, p_nth, p_sub, p_rsub, p_ridx, p_rnth, p_rset, p_rapp, p_rlen, p_addN, p_full, p_fits, p_frz, p_own, p_opn, p_lend, p_rmov, p_rout, p_both, p_yI, p_ofB, p_byW, p_mkN, p_rep, p_copy⟩ := p
  clear hp
  unfold Has_s_strconv_Itoa at hF_s_strconv_Itoa
  generalize hal : (fun (F : St → (Ex → St → Option (List Arg)) → Option (List Arg)) lv => aloop F lv fuel) = al
  rw [s_impl_FormatInt]
  conv => lhs; cbv
  rw [hF_s_strconv_Itoa a0]
  refine cO (fun hx2 => ?_) ?_
  · rw [hx2]
    first | done | rfl
  · rintro r1 hx2
    rw [hx2]
    conv => lhs; cbv
    first | done | rfl
def s_impl_memberName (a0 : Int) : Option ((List ByteArray)) := (s_impl_FormatInt a0).bind fun r1 => some [(ByteArray.mk (Array.mk [109])), r1]
def Has_s_impl_memberName (F : Fns) : Prop := ∀ (a0 : Int), F 20 [.v (.at (.int .i64 a0))] = (s_impl_memberName a0).bind fun r => some [.a [.sl 9 1 (List.map eS r)]]
set_option maxHeartbeats 40000000 in
theorem e_s_impl_memberName (F : Fns) (hF_s_impl_FormatInt : Has_s_impl_FormatInt F) (a0 : Int) : evBody prims (fun F lv => aloop F lv fuel) TY F ⟨Tryz.f20, Tryz.f20.body.getD .skip, fun _ => []⟩ [.v (.at (.int .i64 a0))] = (s_impl_memberName a0).bind fun r => some [.a [.sl 9 1 (List.map eS r)]] := by
  obtain ⟨p, hp⟩ : ∃ p : Prims, p = prims := ⟨_, rfl⟩
  obtain ⟨m_string, hm_string⟩ : ∃ m, m = List.map eS := ⟨_, rfl⟩
  rw [← hp]
  rw [← hm_string]
  obtain ⟨p_arith, p_cmp, p_wrap, p_scmp, p_scat, p_catOk, p_ssize, p_sat, p_ssub, p_bytes, p_str, p_bnot, p_beq, p_min, p_max, p_len, p_int, p_nth, p_sub, p_rsub, p_ridx, p_rnth, p_rset, p_rapp, p_rlen, p_addN, p_full, p_fits, p_frz, p_own, p_opn, p_lend, p_rmov, p_rout, p_both, p_yI, p_ofB, p_byW, p_mkN, p_rep, p_copy⟩ := p
  clear hp
  have mcons_string := @mconsF_string
  rw [← hm_string] at mcons_string
  have nild_string := @nildF_string
  rw [← hm_string] at nild_string
  unfold Has_s_impl_FormatInt at hF_s_impl_FormatInt
  generalize hal : (fun (F : St → (Ex → St → Option (List Arg)) → Option (List Arg)) lv => aloop F lv fuel) = al
  rw [s_impl_memberName]
  conv => lhs; cbv
  rw [hF_s_impl_FormatInt a0]
  refine cO (fun hx2 => ?_) ?_
  · rw [hx2]
    first | done | rfl
  · rintro r1 hx2
    rw [hx2]
    conv => lhs; cbv
    first | done | rfl | (simp only [Option.bind_some, mcons_string, nild_string]; done) | (simp only [Option.bind_some, mcons_string, nild_string]; rfl)
def s_impl_ValidSyncGroup_l1 (a0 : DSyncGroup) : Int → Option ((Int) ⊕ ((Int) ⊕ (Bool)))
  | v5 => bif prims.cmp .lss v5 (prims.int (prims.len (List.map eMember a0.members))) then ((nthI a0.members v5).bind fun x7 => (s_impl_ValidMember x7).bind fun r9 => bif prims.bnot r9 then (some (.inr (.inr (false)))) else ((s_impl_memberName v5).bind fun r12 => (s_impl_EqualNames x7.name r12).bind fun r14 => bif prims.bnot r14 then (some (.inr (.inr (false)))) else (some (.inl (prims.arith .add .i64 v5 1))))) else (some (.inr (.inl v5)))
def s_impl_ValidSyncGroup (a0 : DSyncGroup) : Option (Bool) := (s_impl_ValidTopology a0.topology).bind fun r1 => bif prims.bnot r1 then (some false) else (bif prims.cmp .neq (prims.int (prims.len (List.map eMember a0.members))) a0.topology.size then (some false) else ((whileO (s_impl_ValidSyncGroup_l1 a0) fuel 0).bind fun g => match g with | .inl w17 => (some true) | .inr (w18) => (some w18)))
def Has_s_impl_ValidSyncGroup (F : Fns) : Prop := ∀ (a0 : DSyncGroup), F 7 [.a [.at (.int .i64 a0.topology.size), .sl 68 2 (List.map eLink a0.topology.links), .sl 51 3 (List.map eMember a0.members)]] = (s_impl_ValidSyncGroup a0).bind fun r => some [.v (.at (.bool r))]
set_option maxHeartbeats 40000000 in
theorem e_s_impl_ValidSyncGroup (F : Fns) (hF_s_impl_ValidTopology : Has_s_impl_ValidTopology F) (hF_s_impl_ValidMember : Has_s_impl_ValidMember F) (hF_s_impl_memberName : Has_s_impl_memberName F) (hF_s_impl_EqualNames : Has_s_impl_EqualNames F) (a0 : DSyncGroup) : evBody prims (fun F lv => aloop F lv fuel) TY F ⟨Tryz.f7, Tryz.f7.body.getD .skip, fun id => if id = 4 then [19, 20, 21] else []⟩ [.a [.at (.int .i64 a0.topology.size), .sl 68 2 (List.map eLink a0.topology.links), .sl 51 3 (List.map eMember a0.members)]] = (s_impl_ValidSyncGroup a0).bind fun r => some [.v (.at (.bool r))] := by
  obtain ⟨p, hp⟩ : ∃ p : Prims, p = prims := ⟨_, rfl⟩
  obtain ⟨m_Link, hm_Link⟩ : ∃ m, m = List.map eLink := ⟨_, rfl⟩
  obtain ⟨m_Member, hm_Member⟩ : ∃ m, m = List.map eMember := ⟨_, rfl⟩
  obtain ⟨m_Publication, hm_Publication⟩ : ∃ m, m = List.map ePublication := ⟨_, rfl⟩
  obtain ⟨m_TableEntry, hm_TableEntry⟩ : ∃ m, m = List.map eTableEntry := ⟨_, rfl⟩
  obtain ⟨m_string, hm_string⟩ : ∃ m, m = List.map eS := ⟨_, rfl⟩
  rw [← hp]
  rw [← hm_Link, ← hm_Member]
  obtain ⟨p_arith, p_cmp, p_wrap, p_scmp, p_scat, p_catOk, p_ssize, p_sat, p_ssub, p_bytes, p_str, p_bnot, p_beq, p_min, p_max, p_len, p_int, p_nth, p_sub, p_rsub, p_ridx, p_rnth, p_rset, p_rapp, p_rlen, p_addN, p_full, p_fits, p_frz, p_own, p_opn, p_lend, p_rmov, p_rout, p_both, p_yI, p_ofB, p_byW, p_mkN, p_rep, p_copy⟩ := p
  have h_arith : p_arith = prims.arith := congrArg Prims.arith hp
  have h_bnot : p_bnot = prims.bnot := congrArg Prims.bnot hp
  have h_cmp : p_cmp = prims.cmp := congrArg Prims.cmp hp
  have h_frz : p_frz = prims.frz := congrArg Prims.frz hp
  have h_int : p_int = prims.int := congrArg Prims.int hp
  have h_len : p_len = prims.len := congrArg Prims.len hp
  have h_nth : p_nth = prims.nth := congrArg Prims.nth hp
  have h_opn : p_opn = prims.opn := congrArg Prims.opn hp
  clear hp
  have frz_string := @frzF_string
  rw [← h_frz, ← h_len, ← h_opn, ← hm_string] at frz_string
  have nth_Member := @nthF_Member
  rw [← h_nth, ← hm_Member, ← hm_Publication, ← hm_TableEntry, ← hm_string] at nth_Member
  unfold Has_s_impl_ValidTopology at hF_s_impl_ValidTopology
  rw [← hm_Link] at hF_s_impl_ValidTopology
  unfold Has_s_impl_ValidMember at hF_s_impl_ValidMember
  rw [← hm_Publication, ← hm_TableEntry, ← hm_string] at hF_s_impl_ValidMember
  unfold Has_s_impl_memberName at hF_s_impl_memberName
  rw [← hm_string] at hF_s_impl_memberName
  unfold Has_s_impl_EqualNames at hF_s_impl_EqualNames
  rw [← hm_string] at hF_s_impl_EqualNames
  generalize hal : (fun (F : St → (Ex → St → Option (List Arg)) → Option (List Arg)) lv => aloop F lv fuel) = al
  rw [s_impl_ValidSyncGroup, ← h_bnot, ← h_cmp, ← h_int, ← h_len, ← hm_Member]
  conv => lhs; cbv
  rw [hF_s_impl_ValidTopology a0.topology]
  refine cO (fun hx2 => ?_) ?_
  · rw [hx2]
    first | done | rfl
  · rintro r1 hx2
    rw [hx2]
    conv => lhs; cbv
    refine cC (fun hb3 => ?_) (fun hb3 => ?_)
    · rw [hb3]
      conv => lhs; cbv
      first | done | rfl
    · rw [hb3]
      conv => lhs; cbv
      refine cC (fun hb4 => ?_) (fun hb4 => ?_)
      · rw [hb4]
        conv => lhs; cbv
        first | done | rfl
      · rw [hb4]
        conv => lhs; cbv
        refine (loop_al hal (fun v5 => ⟨[dd, dd, dd, dd, dd, dd, dd, dd, dd, dd, dd, dd, dd, dd, dd, dd, dd, dd, dd, .c (.rd true 51 3 (m_Member a0.members)), .c (.at (.int .i64 (p_int (p_len (m_Member a0.members))))), .c (.at (.int .i64 v5)), dd, dd, dd, dd, dd, dd, dd, dd, dd, dd, dd, dd, dd, dd, dd, dd], [], 1⟩) (s_impl_ValidSyncGroup_l1 a0) (fun K g => match g with | .inl v5 => K (.exit 0) ⟨[dd, dd, dd, dd, dd, dd, dd, dd, dd, dd, dd, dd, dd, dd, dd, dd, dd, dd, dd, .c (.rd true 51 3 (m_Member a0.members)), .c (.at (.int .i64 (p_int (p_len (m_Member a0.members))))), .c (.at (.int .i64 v5)), .c (.at (.bool false)), dd, dd, dd, dd, dd, dd, dd, dd, dd, dd, dd, dd, dd, dd, dd], [], 2⟩ | .inr (r) => some [.v (.at (.bool r))]) ?_ 0 _ (rfl)).trans (cL ?_)
        · rintro K1 hr1 v5 R1
          rw [s_impl_ValidSyncGroup_l1, ← h_arith, ← h_bnot, ← h_cmp, ← h_int, ← h_len, ← hm_Member]
          conv => lhs; cbv
          refine cC (fun hb6 => ?_) (fun hb6 => ?_)
          · rw [hb6]
            conv => lhs; cbv
            rw [nth_Member]
            refine cO (fun hx8 => ?_) ?_
            · rw [hx8]
              first | done | rfl
            · rintro x7 hx8
              rw [hx8]
              conv => lhs; cbv
              rw [hF_s_impl_ValidMember x7]
              refine cO (fun hx10 => ?_) ?_
              · rw [hx10]
                first | done | rfl
              · rintro r9 hx10
                rw [hx10]
                conv => lhs; cbv
                refine cC (fun hb11 => ?_) (fun hb11 => ?_)
                · rw [hb11]
                  conv => lhs; cbv
                  rw [hr1]
                  conv => lhs; cbv
                  first | done | rfl
                · rw [hb11]
                  conv => lhs; cbv
                  rw [hF_s_impl_memberName v5]
                  refine cO (fun hx13 => ?_) ?_
                  · rw [hx13]
                    first | done | rfl
                  · rintro r12 hx13
                    rw [hx13]
                    conv => lhs; cbv
                    rw [frz_string]
                    conv => lhs; cbv
                    rw [hF_s_impl_EqualNames x7.name r12]
                    refine cO (fun hx15 => ?_) ?_
                    · rw [hx15]
                      first | done | rfl
                    · rintro r14 hx15
                      rw [hx15]
                      conv => lhs; cbv
                      refine cC (fun hb16 => ?_) (fun hb16 => ?_)
                      · rw [hb16]
                        conv => lhs; cbv
                        rw [hr1]
                        conv => lhs; cbv
                        first | done | rfl
                      · rw [hb16]
                        conv => lhs; cbv
                        first | done | rfl
          · rw [hb6]
            conv => lhs; cbv
            first | done | rfl
        · rintro (w17 | w18)
          · conv => lhs; cbv
            first | done | rfl
          · rfl
def s_laws_eqLink (a0 : DLink) (a1 : DLink) : Option (Bool) := bif prims.cmp .neq a0.a a1.a then (some false) else (bif prims.cmp .neq a0.b a1.b then (some false) else (some true))
def Has_s_laws_eqLink (F : Fns) : Prop := ∀ (a0 : DLink) (a1 : DLink), F 70 [.a [.at (.int .i64 a0.a), .at (.int .i64 a0.b)], .a [.at (.int .i64 a1.a), .at (.int .i64 a1.b)]] = (s_laws_eqLink a0 a1).bind fun r => some [.v (.at (.bool r))]
set_option maxHeartbeats 40000000 in
theorem e_s_laws_eqLink (F : Fns) (a0 : DLink) (a1 : DLink) : evBody prims (fun F lv => aloop F lv fuel) TY F ⟨Tryz.f70, Tryz.f70.body.getD .skip, fun _ => []⟩ [.a [.at (.int .i64 a0.a), .at (.int .i64 a0.b)], .a [.at (.int .i64 a1.a), .at (.int .i64 a1.b)]] = (s_laws_eqLink a0 a1).bind fun r => some [.v (.at (.bool r))] := by
  obtain ⟨p, hp⟩ : ∃ p : Prims, p = prims := ⟨_, rfl⟩
  rw [← hp]
  obtain ⟨p_arith, p_cmp, p_wrap, p_scmp, p_scat, p_catOk, p_ssize, p_sat, p_ssub, p_bytes, p_str, p_bnot, p_beq, p_min, p_max, p_len, p_int, p_nth, p_sub, p_rsub, p_ridx, p_rnth, p_rset, p_rapp, p_rlen, p_addN, p_full, p_fits, p_frz, p_own, p_opn, p_lend, p_rmov, p_rout, p_both, p_yI, p_ofB, p_byW, p_mkN, p_rep, p_copy⟩ := p
  have h_cmp : p_cmp = prims.cmp := congrArg Prims.cmp hp
  clear hp
  generalize hal : (fun (F : St → (Ex → St → Option (List Arg)) → Option (List Arg)) lv => aloop F lv fuel) = al
  rw [s_laws_eqLink, ← h_cmp]
  conv => lhs; cbv
  refine cC (fun hb1 => ?_) (fun hb1 => ?_)
  · rw [hb1]
    conv => lhs; cbv
    first | done | rfl
  · rw [hb1]
    conv => lhs; cbv
    refine cC (fun hb2 => ?_) (fun hb2 => ?_)
    · rw [hb2]
      conv => lhs; cbv
      first | done | rfl
    · rw [hb2]
      conv => lhs; cbv
      first | done | rfl
def s_laws_eqLinkS_l1 (a0 : (List DLink)) (a1 : (List DLink)) : Int → Option ((Int) ⊕ ((Int) ⊕ (Bool)))
  | v2 => bif prims.cmp .lss v2 (prims.int (prims.len (List.map eLink a0))) then ((nthI a0 v2).bind fun x4 => (nthI a1 v2).bind fun x6 => (s_laws_eqLink x4 x6).bind fun r8 => bif prims.bnot r8 then (some (.inr (.inr (false)))) else (some (.inl (prims.arith .add .i64 v2 1)))) else (some (.inr (.inl v2)))
def s_laws_eqLinkS (a0 : (List DLink)) (a1 : (List DLink)) : Option (Bool) := bif prims.cmp .neq (prims.int (prims.len (List.map eLink a0))) (prims.int (prims.len (List.map eLink a1))) then (some false) else ((whileO (s_laws_eqLinkS_l1 a0 a1) fuel 0).bind fun g => match g with | .inl w11 => (some true) | .inr (w12) => (some w12))
def Has_s_laws_eqLinkS (F : Fns) : Prop := ∀ (a0 : (List DLink)) (a1 : (List DLink)), F 45 [.v (.sl 68 2 (List.map eLink a0)), .v (.sl 68 2 (List.map eLink a1))] = (s_laws_eqLinkS a0 a1).bind fun r => some [.v (.at (.bool r))]
set_option maxHeartbeats 40000000 in
theorem e_s_laws_eqLinkS (F : Fns) (hF_s_laws_eqLink : Has_s_laws_eqLink F) (a0 : (List DLink)) (a1 : (List DLink)) : evBody prims (fun F lv => aloop F lv fuel) TY F ⟨Tryz.f45, Tryz.f45.body.getD .skip, fun id => if id = 4 then [0, 1, 5] else []⟩ [.v (.sl 68 2 (List.map eLink a0)), .v (.sl 68 2 (List.map eLink a1))] = (s_laws_eqLinkS a0 a1).bind fun r => some [.v (.at (.bool r))] := by
  obtain ⟨p, hp⟩ : ∃ p : Prims, p = prims := ⟨_, rfl⟩
  obtain ⟨m_Link, hm_Link⟩ : ∃ m, m = List.map eLink := ⟨_, rfl⟩
  rw [← hp]
  rw [← hm_Link]
  obtain ⟨p_arith, p_cmp, p_wrap, p_scmp, p_scat, p_catOk, p_ssize, p_sat, p_ssub, p_bytes, p_str, p_bnot, p_beq, p_min, p_max, p_len, p_int, p_nth, p_sub, p_rsub, p_ridx, p_rnth, p_rset, p_rapp, p_rlen, p_addN, p_full, p_fits, p_frz, p_own, p_opn, p_lend, p_rmov, p_rout, p_both, p_yI, p_ofB, p_byW, p_mkN, p_rep, p_copy⟩ := p
  have h_arith : p_arith = prims.arith := congrArg Prims.arith hp
  have h_bnot : p_bnot = prims.bnot := congrArg Prims.bnot hp
  have h_cmp : p_cmp = prims.cmp := congrArg Prims.cmp hp
  have h_int : p_int = prims.int := congrArg Prims.int hp
  have h_len : p_len = prims.len := congrArg Prims.len hp
  have h_nth : p_nth = prims.nth := congrArg Prims.nth hp
  clear hp
  have nth_Link := @nthF_Link
  rw [← h_nth, ← hm_Link] at nth_Link
  unfold Has_s_laws_eqLink at hF_s_laws_eqLink
  generalize hal : (fun (F : St → (Ex → St → Option (List Arg)) → Option (List Arg)) lv => aloop F lv fuel) = al
  rw [s_laws_eqLinkS, ← h_cmp, ← h_int, ← h_len, ← hm_Link]
  conv => lhs; cbv
  refine cC (fun hb1 => ?_) (fun hb1 => ?_)
  · rw [hb1]
    conv => lhs; cbv
    first | done | rfl
  · rw [hb1]
    conv => lhs; cbv
    refine (loop_al hal (fun v2 => ⟨[.c (.rd true 68 2 (m_Link a0)), .c (.rd true 68 2 (m_Link a1)), dd, dd, dd, .c (.at (.int .i64 v2)), dd, dd, dd, dd, dd, dd, dd, dd, dd, dd, dd, dd, dd, dd, dd, dd, dd, dd, dd, dd, dd], [], 1⟩) (s_laws_eqLinkS_l1 a0 a1) (fun K g => match g with | .inl v2 => K (.exit 0) ⟨[.c (.rd true 68 2 (m_Link a0)), .c (.rd true 68 2 (m_Link a1)), dd, dd, dd, .c (.at (.int .i64 v2)), dd, dd, dd, dd, dd, .c (.at (.int .i64 v2)), .c (.rd true 68 2 (m_Link a0)), .c (.at (.int .i64 (p_int (p_len (m_Link a0))))), .c (.at (.bool false)), dd, dd, dd, dd, dd, dd, dd, dd, dd, dd, dd, dd], [], 2⟩ | .inr (r) => some [.v (.at (.bool r))]) ?_ 0 _ (rfl)).trans (cL ?_)
    · rintro K1 hr1 v2 R1
      rw [s_laws_eqLinkS_l1, ← h_arith, ← h_bnot, ← h_cmp, ← h_int, ← h_len, ← hm_Link]
      conv => lhs; cbv
      refine cC (fun hb3 => ?_) (fun hb3 => ?_)
      · rw [hb3]
        conv => lhs; cbv
        rw [nth_Link]
        refine cO (fun hx5 => ?_) ?_
        · rw [hx5]
          first | done | rfl
        · rintro x4 hx5
          rw [hx5]
          conv => lhs; cbv
          rw [nth_Link]
          refine cO (fun hx7 => ?_) ?_
          · rw [hx7]
            first | done | rfl
          · rintro x6 hx7
            rw [hx7]
            conv => lhs; cbv
            rw [hF_s_laws_eqLink x4 x6]
            refine cO (fun hx9 => ?_) ?_
            · rw [hx9]
              first | done | rfl
            · rintro r8 hx9
              rw [hx9]
              conv => lhs; cbv
              refine cC (fun hb10 => ?_) (fun hb10 => ?_)
              · rw [hb10]
                conv => lhs; cbv
                rw [hr1]
                conv => lhs; cbv
                first | done | rfl
              · rw [hb10]
                conv => lhs; cbv
                first | done | rfl
      · rw [hb3]
        conv => lhs; cbv
        first | done | rfl
    · rintro (w11 | w12)
      · conv => lhs; cbv
        first | done | rfl
      · rfl
def s_laws_eqTopology (a0 : DTopology) (a1 : DTopology) : Option (Bool) := bif prims.cmp .neq a0.size a1.size then (some false) else ((s_laws_eqLinkS a0.links a1.links).bind fun r2 => bif prims.bnot r2 then (some false) else (some true))
def Has_s_laws_eqTopology (F : Fns) : Prop := ∀ (a0 : DTopology) (a1 : DTopology), F 21 [.a [.at (.int .i64 a0.size), .sl 68 2 (List.map eLink a0.links)], .a [.at (.int .i64 a1.size), .sl 68 2 (List.map eLink a1.links)]] = (s_laws_eqTopology a0 a1).bind fun r => some [.v (.at (.bool r))]
set_option maxHeartbeats 40000000 in
theorem e_s_laws_eqTopology (F : Fns) (hF_s_laws_eqLinkS : Has_s_laws_eqLinkS F) (a0 : DTopology) (a1 : DTopology) : evBody prims (fun F lv => aloop F lv fuel) TY F ⟨Tryz.f21, Tryz.f21.body.getD .skip, fun _ => []⟩ [.a [.at (.int .i64 a0.size), .sl 68 2 (List.map eLink a0.links)], .a [.at (.int .i64 a1.size), .sl 68 2 (List.map eLink a1.links)]] = (s_laws_eqTopology a0 a1).bind fun r => some [.v (.at (.bool r))] := by
  obtain ⟨p, hp⟩ : ∃ p : Prims, p = prims := ⟨_, rfl⟩
  obtain ⟨m_Link, hm_Link⟩ : ∃ m, m = List.map eLink := ⟨_, rfl⟩
  rw [← hp]
  rw [← hm_Link]
  obtain ⟨p_arith, p_cmp, p_wrap, p_scmp, p_scat, p_catOk, p_ssize, p_sat, p_ssub, p_bytes, p_str, p_bnot, p_beq, p_min, p_max, p_len, p_int, p_nth, p_sub, p_rsub, p_ridx, p_rnth, p_rset, p_rapp, p_rlen, p_addN, p_full, p_fits, p_frz, p_own, p_opn, p_lend, p_rmov, p_rout, p_both, p_yI, p_ofB, p_byW, p_mkN, p_rep, p_copy⟩ := p
  have h_bnot : p_bnot = prims.bnot := congrArg Prims.bnot hp
  have h_cmp : p_cmp = prims.cmp := congrArg Prims.cmp hp
  clear hp
  unfold Has_s_laws_eqLinkS at hF_s_laws_eqLinkS
  rw [← hm_Link] at hF_s_laws_eqLinkS
  generalize hal : (fun (F : St → (Ex → St → Option (List Arg)) → Option (List Arg)) lv => aloop F lv fuel) = al
  rw [s_laws_eqTopology, ← h_bnot, ← h_cmp]
  conv => lhs; cbv
  refine cC (fun hb1 => ?_) (fun hb1 => ?_)
  · rw [hb1]
    conv => lhs; cbv
    first | done | rfl
  · rw [hb1]
    conv => lhs; cbv
    rw [hF_s_laws_eqLinkS a0.links a1.links]
    refine cO (fun hx3 => ?_) ?_
    · rw [hx3]
      first | done | rfl
    · rintro r2 hx3
      rw [hx3]
      conv => lhs; cbv
      refine cC (fun hb4 => ?_) (fun hb4 => ?_)
      · rw [hb4]
        conv => lhs; cbv
        first | done | rfl
      · rw [hb4]
        conv => lhs; cbv
        first | done | rfl
def s_laws_eqStringS_l1 (a0 : (List ByteArray)) (a1 : (List ByteArray)) : Int → Option ((Int) ⊕ ((Int) ⊕ (Bool)))
  | v2 => bif prims.cmp .lss v2 (prims.int (prims.len (List.map eS a0))) then ((nthI a0 v2).bind fun x4 => (nthI a1 v2).bind fun x6 => bif prims.scmp .neq x4 x6 then (some (.inr (.inr (false)))) else (some (.inl (prims.arith .add .i64 v2 1)))) else (some (.inr (.inl v2)))
def s_laws_eqStringS (a0 : (List ByteArray)) (a1 : (List ByteArray)) : Option (Bool) := bif prims.cmp .neq (prims.int (prims.len (List.map eS a0))) (prims.int (prims.len (List.map eS a1))) then (some false) else ((whileO (s_laws_eqStringS_l1 a0 a1) fuel 0).bind fun g => match g with | .inl w9 => (some true) | .inr (w10) => (some w10))
def Has_s_laws_eqStringS (F : Fns) : Prop := ∀ (a0 : (List ByteArray)) (a1 : (List ByteArray)), F 87 [.v (.sl 9 1 (List.map eS a0)), .v (.sl 9 1 (List.map eS a1))] = (s_laws_eqStringS a0 a1).bind fun r => some [.v (.at (.bool r))]
set_option maxHeartbeats 40000000 in
theorem e_s_laws_eqStringS (F : Fns) (a0 : (List ByteArray)) (a1 : (List ByteArray)) : evBody prims (fun F lv => aloop F lv fuel) TY F ⟨Tryz.f87, Tryz.f87.body.getD .skip, fun id => if id = 4 then [0, 1, 5] else []⟩ [.v (.sl 9 1 (List.map eS a0)), .v (.sl 9 1 (List.map eS a1))] = (s_laws_eqStringS a0 a1).bind fun r => some [.v (.at (.bool r))] := by
  obtain ⟨p, hp⟩ : ∃ p : Prims, p = prims := ⟨_, rfl⟩
  obtain ⟨m_string, hm_string⟩ : ∃ m, m = List.map eS := ⟨_, rfl⟩
  rw [← hp]
  rw [← hm_string]
  obtain ⟨p_arith, p_cmp, p_wrap, p_scmp, p_scat, p_catOk, p_ssize, p_sat, p_ssub, p_bytes, p_str, p_bnot, p_beq, p_min, p_max, p_len, p_int, p_nth, p_sub, p_rsub, p_ridx, p_rnth, p_rset, p_rapp, p_rlen, p_addN, p_full, p_fits, p_frz, p_own, p_opn, p_lend, p_rmov, p_rout, p_both, p_yI, p_ofB, p_byW, p_mkN, p_rep, p_copy⟩ := p
  have h_arith : p_arith = prims.arith := congrArg Prims.arith hp
  have h_cmp : p_cmp = prims.cmp := congrArg Prims.cmp hp
  have h_int : p_int = prims.int := congrArg Prims.int hp
  have h_len : p_len = prims.len := congrArg Prims.len hp
  have h_nth : p_nth = prims.nth := congrArg Prims.nth hp
  have h_scmp : p_scmp = prims.scmp := congrArg Prims.scmp hp
  clear hp
  have nth_string := @nthF_string
  rw [← h_nth, ← hm_string] at nth_string
  generalize hal : (fun (F : St → (Ex → St → Option (List Arg)) → Option (List Arg)) lv => aloop F lv fuel) = al
  rw [s_laws_eqStringS, ← h_cmp, ← h_int, ← h_len, ← hm_string]
  conv => lhs; cbv
  refine cC (fun hb1 => ?_) (fun hb1 => ?_)
  · rw [hb1]
    conv => lhs; cbv
    first | done | rfl
  · rw [hb1]
    conv => lhs; cbv
    refine (loop_al hal (fun v2 => ⟨[.c (.rd true 9 1 (m_string a0)), .c (.rd true 9 1 (m_string a1)), dd, dd, dd, .c (.at (.int .i64 v2)), dd, dd, dd, dd, dd, dd, dd, dd, dd, dd, dd, dd, dd, dd, dd, dd, dd, dd, dd, dd], [], 1⟩) (s_laws_eqStringS_l1 a0 a1) (fun K g => match g with | .inl v2 => K (.exit 0) ⟨[.c (.rd true 9 1 (m_string a0)), .c (.rd true 9 1 (m_string a1)), dd, dd, dd, .c (.at (.int .i64 v2)), dd, dd, dd, dd, dd, .c (.at (.int .i64 v2)), .c (.rd true 9 1 (m_string a0)), .c (.at (.int .i64 (p_int (p_len (m_string a0))))), .c (.at (.bool false)), dd, dd, dd, dd, dd, dd, dd, dd, dd, dd, dd], [], 2⟩ | .inr (r) => some [.v (.at (.bool r))]) ?_ 0 _ (rfl)).trans (cL ?_)
    · rintro K1 hr1 v2 R1
      rw [s_laws_eqStringS_l1, ← h_arith, ← h_cmp, ← h_int, ← h_len, ← h_scmp, ← hm_string]
      conv => lhs; cbv
      refine cC (fun hb3 => ?_) (fun hb3 => ?_)
      · rw [hb3]
        conv => lhs; cbv
        rw [nth_string]
        refine cO (fun hx5 => ?_) ?_
        · rw [hx5]
          first | done | rfl
        · rintro x4 hx5
          rw [hx5]
          conv => lhs; cbv
          rw [nth_string]
          refine cO (fun hx7 => ?_) ?_
          · rw [hx7]
            first | done | rfl
          · rintro x6 hx7
            rw [hx7]
            conv => lhs; cbv
            refine cC (fun hb8 => ?_) (fun hb8 => ?_)
            · rw [hb8]
              conv => lhs; cbv
              rw [hr1]
              conv => lhs; cbv
              first | done | rfl
            · rw [hb8]
              conv => lhs; cbv
              first | done | rfl
      · rw [hb3]
        conv => lhs; cbv
        first | done | rfl
    · rintro (w9 | w10)
      · conv => lhs; cbv
        first | done | rfl
      · rfl
def s_laws_eqName (a0 : (List ByteArray)) (a1 : (List ByteArray)) : Option (Bool) := (s_laws_eqStringS a0 a1).bind fun r1 => bif prims.bnot r1 then (some false) else (some true)
def Has_s_laws_eqName (F : Fns) : Prop := ∀ (a0 : (List ByteArray)) (a1 : (List ByteArray)), F 71 [.a [.sl 9 1 (List.map eS a0)], .a [.sl 9 1 (List.map eS a1)]] = (s_laws_eqName a0 a1).bind fun r => some [.v (.at (.bool r))]
set_option maxHeartbeats 40000000 in
theorem e_s_laws_eqName (F : Fns) (hF_s_laws_eqStringS : Has_s_laws_eqStringS F) (a0 : (List ByteArray)) (a1 : (List ByteArray)) : evBody prims (fun F lv => aloop F lv fuel) TY F ⟨Tryz.f71, Tryz.f71.body.getD .skip, fun _ => []⟩ [.a [.sl 9 1 (List.map eS a0)], .a [.sl 9 1 (List.map eS a1)]] = (s_laws_eqName a0 a1).bind fun r => some [.v (.at (.bool r))] := by
  obtain ⟨p, hp⟩ : ∃ p : Prims, p = prims := ⟨_, rfl⟩
  obtain ⟨m_string, hm_string⟩ : ∃ m, m = List.map eS := ⟨_, rfl⟩
  rw [← hp]
  rw [← hm_string]
  obtain ⟨p_arith, p_cmp, p_wrap, p_scmp, p_scat, p_catOk, p_ssize, p_sat, p_ssub, p_bytes, p_str, p_bnot, p_beq, p_min, p_max, p_len, p_int, p_nth, p_sub, p_rsub, p_ridx, p_rnth, p_rset, p_rapp, p_rlen, p_addN, p_full, p_fits, p_frz, p_own, p_opn, p_lend, p_rmov, p_rout, p_both, p_yI, p_ofB, p_byW, p_mkN, p_rep, p_copy⟩ := p
  have h_bnot : p_bnot = prims.bnot := congrArg Prims.bnot hp
  clear hp
  unfold Has_s_laws_eqStringS at hF_s_laws_eqStringS
  rw [← hm_string] at hF_s_laws_eqStringS
  generalize hal : (fun (F : St → (Ex → St → Option (List Arg)) → Option (List Arg)) lv => aloop F lv fuel) = al
  rw [s_laws_eqName, ← h_bnot]
  conv => lhs; cbv
  rw [hF_s_laws_eqStringS a0 a1]
  refine cO (fun hx2 => ?_) ?_
  · rw [hx2]
    first | done | rfl
  · rintro r1 hx2
    rw [hx2]
    conv => lhs; cbv
    refine cC (fun hb3 => ?_) (fun hb3 => ?_)
    · rw [hb3]
      conv => lhs; cbv
      first | done | rfl
    · rw [hb3]
      conv => lhs; cbv
      first | done | rfl
def s_laws_eqTableEntry (a0 : DTableEntry) (a1 : DTableEntry) : Option (Bool) := (s_laws_eqName a0.name a1.name).bind fun r1 => bif prims.bnot r1 then (some false) else (bif prims.cmp .neq a0.value a1.value then (some false) else (some true))
def Has_s_laws_eqTableEntry (F : Fns) : Prop := ∀ (a0 : DTableEntry) (a1 : DTableEntry), F 97 [.a [.sl 9 1 (List.map eS a0.name), .at (.int .i64 a0.value)], .a [.sl 9 1 (List.map eS a1.name), .at (.int .i64 a1.value)]] = (s_laws_eqTableEntry a0 a1).bind fun r => some [.v (.at (.bool r))]
set_option maxHeartbeats 40000000 in
theorem e_s_laws_eqTableEntry (F : Fns) (hF_s_laws_eqName : Has_s_laws_eqName F) (a0 : DTableEntry) (a1 : DTableEntry) : evBody prims (fun F lv => aloop F lv fuel) TY F ⟨Tryz.f97, Tryz.f97.body.getD .skip, fun _ => []⟩ [.a [.sl 9 1 (List.map eS a0.name), .at (.int .i64 a0.value)], .a [.sl 9 1 (List.map eS a1.name), .at (.int .i64 a1.value)]] = (s_laws_eqTableEntry a0 a1).bind fun r => some [.v (.at (.bool r))] := by
  obtain ⟨p, hp⟩ : ∃ p : Prims, p = prims := ⟨_, rfl⟩
  obtain ⟨m_string, hm_string⟩ : ∃ m, m = List.map eS := ⟨_, rfl⟩
  rw [← hp]
  rw [← hm_string]
  obtain ⟨p_arith, p_cmp, p_wrap, p_scmp, p_scat, p_catOk, p_ssize, p_sat, p_ssub, p_bytes, p_str, p_bnot, p_beq, p_min, p_max, p_len, p_int, p_nth, p_sub, p_rsub, p_ridx, p_rnth, p_rset, p_rapp, p_rlen, p_addN, p_full, p_fits, p_frz, p_own, p_opn, p_lend, p_rmov, p_rout, p_both, p_yI, p_ofB, p_byW, p_mkN, p_rep, p_copy⟩ := p
  have h_bnot : p_bnot = prims.bnot := congrArg Prims.bnot hp
  have h_cmp : p_cmp = prims.cmp := congrArg Prims.cmp hp
  clear hp
  unfold Has_s_laws_eqName at hF_s_laws_eqName
  rw [← hm_string] at hF_s_laws_eqName
  generalize hal : (fun (F : St → (Ex → St → Option (List Arg)) → Option (List Arg)) lv => aloop F lv fuel) = al
  rw [s_laws_eqTableEntry, ← h_bnot, ← h_cmp]
  conv => lhs; cbv
  rw [hF_s_laws_eqName a0.name a1.name]
  refine cO (fun hx2 => ?_) ?_
  · rw [hx2]
    first | done | rfl
  · rintro r1 hx2
    rw [hx2]
    conv => lhs; cbv
    refine cC (fun hb3 => ?_) (fun hb3 => ?_)
    · rw [hb3]
      conv => lhs; cbv
      first | done | rfl
    · rw [hb3]
      conv => lhs; cbv
      refine cC (fun hb4 => ?_) (fun hb4 => ?_)
      · rw [hb4]
        conv => lhs; cbv
        first | done | rfl
      · rw [hb4]
        conv => lhs; cbv
        first | done | rfl
def s_laws_eqTableEntryS_l1 (a0 : (List DTableEntry)) (a1 : (List DTableEntry)) : Int → Option ((Int) ⊕ ((Int) ⊕ (Bool)))
  | v2 => bif prims.cmp .lss v2 (prims.int (prims.len (List.map eTableEntry a0))) then ((nthI a0 v2).bind fun x4 => (nthI a1 v2).bind fun x6 => (s_laws_eqTableEntry x4 x6).bind fun r8 => bif prims.bnot r8 then (some (.inr (.inr (false)))) else (some (.inl (prims.arith .add .i64 v2 1)))) else (some (.inr (.inl v2)))
def s_laws_eqTableEntryS (a0 : (List DTableEntry)) (a1 : (List DTableEntry)) : Option (Bool) := bif prims.cmp .neq (prims.int (prims.len (List.map eTableEntry a0))) (prims.int (prims.len (List.map eTableEntry a1))) then (some false) else ((whileO (s_laws_eqTableEntryS_l1 a0 a1) fuel 0).bind fun g => match g with | .inl w11 => (some true) | .inr (w12) => (some w12))
def Has_s_laws_eqTableEntryS (F : Fns) : Prop := ∀ (a0 : (List DTableEntry)) (a1 : (List DTableEntry)), F 88 [.v (.sl 92 2 (List.map eTableEntry a0)), .v (.sl 92 2 (List.map eTableEntry a1))] = (s_laws_eqTableEntryS a0 a1).bind fun r => some [.v (.at (.bool r))]
set_option maxHeartbeats 40000000 in
theorem e_s_laws_eqTableEntryS (F : Fns) (hF_s_laws_eqTableEntry : Has_s_laws_eqTableEntry F) (a0 : (List DTableEntry)) (a1 : (List DTableEntry)) : evBody prims (fun F lv => aloop F lv fuel) TY F ⟨Tryz.f88, Tryz.f88.body.getD .skip, fun id => if id = 4 then [0, 1, 5] else []⟩ [.v (.sl 92 2 (List.map eTableEntry a0)), .v (.sl 92 2 (List.map eTableEntry a1))] = (s_laws_eqTableEntryS a0 a1).bind fun r => some [.v (.at (.bool r))] := by
  obtain ⟨p, hp⟩ : ∃ p : Prims, p = prims := ⟨_, rfl⟩
  obtain ⟨m_TableEntry, hm_TableEntry⟩ : ∃ m, m = List.map eTableEntry := ⟨_, rfl⟩
  obtain ⟨m_string, hm_string⟩ : ∃ m, m = List.map eS := ⟨_, rfl⟩
  rw [← hp]
  rw [← hm_TableEntry]
  obtain ⟨p_arith, p_cmp, p_wrap, p_scmp, p_scat, p_catOk, p_ssize, p_sat, p_ssub, p_bytes, p_str, p_bnot, p_beq, p_min, p_max, p_len, p_int, p_nth, p_sub, p_rsub, p_ridx, p_rnth, p_rset, p_rapp, p_rlen, p_addN, p_full, p_fits, p_frz, p_own, p_opn, p_lend, p_rmov, p_rout, p_both, p_yI, p_ofB, p_byW, p_mkN, p_rep, p_copy⟩ := p
  have h_arith : p_arith = prims.arith := congrArg Prims.arith hp
  have h_bnot : p_bnot = prims.bnot := congrArg Prims.bnot hp
  have h_cmp : p_cmp = prims.cmp := congrArg Prims.cmp hp
  have h_int : p_int = prims.int := congrArg Prims.int hp
  have h_len : p_len = prims.len := congrArg Prims.len hp
  have h_nth : p_nth = prims.nth := congrArg Prims.nth hp
  clear hp
  have nth_TableEntry := @nthF_TableEntry
  rw [← h_nth, ← hm_TableEntry, ← hm_string] at nth_TableEntry
  unfold Has_s_laws_eqTableEntry at hF_s_laws_eqTableEntry
  rw [← hm_string] at hF_s_laws_eqTableEntry
  generalize hal : (fun (F : St → (Ex → St → Option (List Arg)) → Option (List Arg)) lv => aloop F lv fuel) = al
  rw [s_laws_eqTableEntryS, ← h_cmp, ← h_int, ← h_len, ← hm_TableEntry]
  conv => lhs; cbv
  refine cC (fun hb1 => ?_) (fun hb1 => ?_)
  · rw [hb1]
    conv => lhs; cbv
    first | done | rfl
  · rw [hb1]
    conv => lhs; cbv
    refine (loop_al hal (fun v2 => ⟨[.c (.rd true 92 2 (m_TableEntry a0)), .c (.rd true 92 2 (m_TableEntry a1)), dd, dd, dd, .c (.at (.int .i64 v2)), dd, dd, dd, dd, dd, dd, dd, dd, dd, dd, dd, dd, dd, dd, dd, dd, dd, dd, dd, dd, dd], [], 1⟩) (s_laws_eqTableEntryS_l1 a0 a1) (fun K g => match g with | .inl v2 => K (.exit 0) ⟨[.c (.rd true 92 2 (m_TableEntry a0)), .c (.rd true 92 2 (m_TableEntry a1)), dd, dd, dd, .c (.at (.int .i64 v2)), dd, dd, dd, dd, dd, .c (.at (.int .i64 v2)), .c (.rd true 92 2 (m_TableEntry a0)), .c (.at (.int .i64 (p_int (p_len (m_TableEntry a0))))), .c (.at (.bool false)), dd, dd, dd, dd, dd, dd, dd, dd, dd, dd, dd, dd], [], 2⟩ | .inr (r) => some [.v (.at (.bool r))]) ?_ 0 _ (rfl)).trans (cL ?_)
    · rintro K1 hr1 v2 R1
      rw [s_laws_eqTableEntryS_l1, ← h_arith, ← h_bnot, ← h_cmp, ← h_int, ← h_len, ← hm_TableEntry]
      conv => lhs; cbv
      refine cC (fun hb3 => ?_) (fun hb3 => ?_)
      · rw [hb3]
        conv => lhs; cbv
        rw [nth_TableEntry]
        refine cO (fun hx5 => ?_) ?_
        · rw [hx5]
          first | done | rfl
        · rintro x4 hx5
          rw [hx5]
          conv => lhs; cbv
          rw [nth_TableEntry]
          refine cO (fun hx7 => ?_) ?_
          · rw [hx7]
            first | done | rfl
          · rintro x6 hx7
            rw [hx7]
            conv => lhs; cbv
            rw [hF_s_laws_eqTableEntry x4 x6]
            refine cO (fun hx9 => ?_) ?_
            · rw [hx9]
              first | done | rfl
            · rintro r8 hx9
              rw [hx9]
              conv => lhs; cbv
              refine cC (fun hb10 => ?_) (fun hb10 => ?_)
              · rw [hb10]
                conv => lhs; cbv
                rw [hr1]
                conv => lhs; cbv
                first | done | rfl
              · rw [hb10]
                conv => lhs; cbv
                first | done | rfl
      · rw [hb3]
        conv => lhs; cbv
        first | done | rfl
    · rintro (w11 | w12)
      · conv => lhs; cbv
        first | done | rfl
      · rfl
def s_laws_eqStateVector (a0 : (List DTableEntry)) (a1 : (List DTableEntry)) : Option (Bool) := (s_laws_eqTableEntryS a0 a1).bind fun r1 => bif prims.bnot r1 then (some false) else (some true)
def Has_s_laws_eqStateVector (F : Fns) : Prop := ∀ (a0 : (List DTableEntry)) (a1 : (List DTableEntry)), F 72 [.a [.sl 92 2 (List.map eTableEntry a0)], .a [.sl 92 2 (List.map eTableEntry a1)]] = (s_laws_eqStateVector a0 a1).bind fun r => some [.v (.at (.bool r))]
set_option maxHeartbeats 40000000 in
theorem e_s_laws_eqStateVector (F : Fns) (hF_s_laws_eqTableEntryS : Has_s_laws_eqTableEntryS F) (a0 : (List DTableEntry)) (a1 : (List DTableEntry)) : evBody prims (fun F lv => aloop F lv fuel) TY F ⟨Tryz.f72, Tryz.f72.body.getD .skip, fun _ => []⟩ [.a [.sl 92 2 (List.map eTableEntry a0)], .a [.sl 92 2 (List.map eTableEntry a1)]] = (s_laws_eqStateVector a0 a1).bind fun r => some [.v (.at (.bool r))] := by
  obtain ⟨p, hp⟩ : ∃ p : Prims, p = prims := ⟨_, rfl⟩
  obtain ⟨m_TableEntry, hm_TableEntry⟩ : ∃ m, m = List.map eTableEntry := ⟨_, rfl⟩
  rw [← hp]
  rw [← hm_TableEntry]
  obtain ⟨p_arith, p_cmp, p_wrap, p_scmp, p_scat, p_catOk, p_ssize, p_sat, p_ssub, p_bytes, p_str, p_bnot, p_beq, p_min, p_max, p_len, p_int, p_nth, p_sub, p_rsub, p_ridx, p_rnth, p_rset, p_rapp, p_rlen, p_addN, p_full, p_fits, p_frz, p_own, p_opn, p_lend, p_rmov, p_rout, p_both, p_yI, p_ofB, p_byW, p_mkN, p_rep, p_copy⟩ := p
  have h_bnot : p_bnot = prims.bnot := congrArg Prims.bnot hp
  clear hp
  unfold Has_s_laws_eqTableEntryS at hF_s_laws_eqTableEntryS
  rw [← hm_TableEntry] at hF_s_laws_eqTableEntryS
  generalize hal : (fun (F : St → (Ex → St → Option (List Arg)) → Option (List Arg)) lv => aloop F lv fuel) = al
  rw [s_laws_eqStateVector, ← h_bnot]
  conv => lhs; cbv
  rw [hF_s_laws_eqTableEntryS a0 a1]
  refine cO (fun hx2 => ?_) ?_
  · rw [hx2]
    first | done | rfl
  · rintro r1 hx2
    rw [hx2]
    conv => lhs; cbv
    refine cC (fun hb3 => ?_) (fun hb3 => ?_)
    · rw [hb3]
      conv => lhs; cbv
      first | done | rfl
    · rw [hb3]
      conv => lhs; cbv
      first | done | rfl
def s_laws_eqByteS_l1 (a0 : (List UInt8)) (a1 : (List UInt8)) : Int → Option ((Int) ⊕ ((Int) ⊕ (Bool)))
  | v2 => bif prims.cmp .lss v2 (prims.int (prims.len (List.map eY a0))) then ((nthI a0 v2).bind fun x4 => (nthI a1 v2).bind fun x6 => bif prims.cmp .neq (prims.yI x4) (prims.yI x6) then (some (.inr (.inr (false)))) else (some (.inl (prims.arith .add .i64 v2 1)))) else (some (.inr (.inl v2)))
def s_laws_eqByteS (a0 : (List UInt8)) (a1 : (List UInt8)) : Option (Bool) := bif prims.cmp .neq (prims.int (prims.len (List.map eY a0))) (prims.int (prims.len (List.map eY a1))) then (some false) else ((whileO (s_laws_eqByteS_l1 a0 a1) fuel 0).bind fun g => match g with | .inl w9 => (some true) | .inr (w10) => (some w10))
def Has_s_laws_eqByteS (F : Fns) : Prop := ∀ (a0 : (List UInt8)) (a1 : (List UInt8)), F 98 [.v (.sl 5 1 (List.map eY a0)), .v (.sl 5 1 (List.map eY a1))] = (s_laws_eqByteS a0 a1).bind fun r => some [.v (.at (.bool r))]
set_option maxHeartbeats 40000000 in
theorem e_s_laws_eqByteS (F : Fns) (a0 : (List UInt8)) (a1 : (List UInt8)) : evBody prims (fun F lv => aloop F lv fuel) TY F ⟨Tryz.f98, Tryz.f98.body.getD .skip, fun id => if id = 4 then [0, 1, 5] else []⟩ [.v (.sl 5 1 (List.map eY a0)), .v (.sl 5 1 (List.map eY a1))] = (s_laws_eqByteS a0 a1).bind fun r => some [.v (.at (.bool r))] := by
  obtain ⟨p, hp⟩ : ∃ p : Prims, p = prims := ⟨_, rfl⟩
  obtain ⟨m_byte, hm_byte⟩ : ∃ m, m = List.map eY := ⟨_, rfl⟩
  rw [← hp]
  rw [← hm_byte]
  obtain ⟨p_arith, p_cmp, p_wrap, p_scmp, p_scat, p_catOk, p_ssize, p_sat, p_ssub, p_bytes, p_str, p_bnot, p_beq, p_min, p_max, p_len, p_int, p_nth, p_sub, p_rsub, p_ridx, p_rnth, p_rset, p_rapp, p_rlen, p_addN, p_full, p_fits, p_frz, p_own, p_opn, p_lend, p_rmov, p_rout, p_both, p_yI, p_ofB, p_byW, p_mkN, p_rep, p_copy⟩ := p
  have h_arith : p_arith = prims.arith := congrArg Prims.arith hp
  have h_cmp : p_cmp = prims.cmp := congrArg Prims.cmp hp
  have h_int : p_int = prims.int := congrArg Prims.int hp
  have h_len : p_len = prims.len := congrArg Prims.len hp
  have h_nth : p_nth = prims.nth := congrArg Prims.nth hp
  have h_yI : p_yI = prims.yI := congrArg Prims.yI hp
  clear hp
  have nth_byte := @nthF_byte
  rw [← h_nth, ← h_yI, ← hm_byte] at nth_byte
  generalize hal : (fun (F : St → (Ex → St → Option (List Arg)) → Option (List Arg)) lv => aloop F lv fuel) = al
  rw [s_laws_eqByteS, ← h_cmp, ← h_int, ← h_len, ← hm_byte]
  conv => lhs; cbv
  refine cC (fun hb1 => ?_) (fun hb1 => ?_)
  · rw [hb1]
    conv => lhs; cbv
    first | done | rfl
  · rw [hb1]
    conv => lhs; cbv
    refine (loop_al hal (fun v2 => ⟨[.c (.rd true 5 1 (m_byte a0)), .c (.rd true 5 1 (m_byte a1)), dd, dd, dd, .c (.at (.int .i64 v2)), dd, dd, dd, dd, dd, dd, dd, dd, dd, dd, dd, dd, dd, dd, dd, dd, dd, dd, dd, dd], [], 1⟩) (s_laws_eqByteS_l1 a0 a1) (fun K g => match g with | .inl v2 => K (.exit 0) ⟨[.c (.rd true 5 1 (m_byte a0)), .c (.rd true 5 1 (m_byte a1)), dd, dd, dd, .c (.at (.int .i64 v2)), dd, dd, dd, dd, dd, .c (.at (.int .i64 v2)), .c (.rd true 5 1 (m_byte a0)), .c (.at (.int .i64 (p_int (p_len (m_byte a0))))), .c (.at (.bool false)), dd, dd, dd, dd, dd, dd, dd, dd, dd, dd, dd], [], 2⟩ | .inr (r) => some [.v (.at (.bool r))]) ?_ 0 _ (rfl)).trans (cL ?_)
    · rintro K1 hr1 v2 R1
      rw [s_laws_eqByteS_l1, ← h_arith, ← h_cmp, ← h_int, ← h_len, ← h_yI, ← hm_byte]
      conv => lhs; cbv
      refine cC (fun hb3 => ?_) (fun hb3 => ?_)
      · rw [hb3]
        conv => lhs; cbv
        rw [nth_byte]
        refine cO (fun hx5 => ?_) ?_
        · rw [hx5]
          first | done | rfl
        · rintro x4 hx5
          rw [hx5]
          conv => lhs; cbv
          rw [nth_byte]
          refine cO (fun hx7 => ?_) ?_
          · rw [hx7]
            first | done | rfl
          · rintro x6 hx7
            rw [hx7]
            conv => lhs; cbv
            refine cC (fun hb8 => ?_) (fun hb8 => ?_)
            · rw [hb8]
              conv => lhs; cbv
              rw [hr1]
              conv => lhs; cbv
              first | done | rfl
            · rw [hb8]
              conv => lhs; cbv
              first | done | rfl
      · rw [hb3]
        conv => lhs; cbv
        first | done | rfl
    · rintro (w9 | w10)
      · conv => lhs; cbv
        first | done | rfl
      · rfl
def s_laws_eqPublication (a0 : DPublication) (a1 : DPublication) : Option (Bool) := (s_laws_eqName a0.publisher a1.publisher).bind fun r1 => bif prims.bnot r1 then (some false) else (bif prims.cmp .neq a0.seq a1.seq then (some false) else ((s_laws_eqByteS a0.content a1.content).bind fun r5 => bif prims.bnot r5 then (some false) else (some true)))
def Has_s_laws_eqPublication (F : Fns) : Prop := ∀ (a0 : DPublication) (a1 : DPublication), F 89 [.a [.sl 9 1 (List.map eS a0.publisher), .at (.int .i64 a0.seq), .sl 5 1 (List.map eY a0.content)], .a [.sl 9 1 (List.map eS a1.publisher), .at (.int .i64 a1.seq), .sl 5 1 (List.map eY a1.content)]] = (s_laws_eqPublication a0 a1).bind fun r => some [.v (.at (.bool r))]
set_option maxHeartbeats 40000000 in
theorem e_s_laws_eqPublication (F : Fns) (hF_s_laws_eqName : Has_s_laws_eqName F) (hF_s_laws_eqByteS : Has_s_laws_eqByteS F) (a0 : DPublication) (a1 : DPublication) : evBody prims (fun F lv => aloop F lv fuel) TY F ⟨Tryz.f89, Tryz.f89.body.getD .skip, fun _ => []⟩ [.a [.sl 9 1 (List.map eS a0.publisher), .at (.int .i64 a0.seq), .sl 5 1 (List.map eY a0.content)], .a [.sl 9 1 (List.map eS a1.publisher), .at (.int .i64 a1.seq), .sl 5 1 (List.map eY a1.content)]] = (s_laws_eqPublication a0 a1).bind fun r => some [.v (.at (.bool r))] := by
  obtain ⟨p, hp⟩ : ∃ p : Prims, p = prims := ⟨_, rfl⟩
  obtain ⟨m_byte, hm_byte⟩ : ∃ m, m = List.map eY := ⟨_, rfl⟩
  obtain ⟨m_string, hm_string⟩ : ∃ m, m = List.map eS := ⟨_, rfl⟩
  rw [← hp]
  rw [← hm_byte, ← hm_string]
  obtain ⟨p_arith, p_cmp, p_wrap, p_scmp, p_scat, p_catOk, p_ssize, p_sat, p_ssub, p_bytes, p_str, p_bnot, p_beq, p_min, p_max, p_len, p_int, p_nth, p_sub, p_rsub, p_ridx, p_rnth, p_rset, p_rapp, p_rlen, p_addN, p_full, p_fits, p_frz, p_own, p_opn, p_lend, p_rmov, p_rout, p_both, p_yI, p_ofB, p_byW, p_mkN, p_rep, p_copy⟩ := p
  have h_bnot : p_bnot = prims.bnot := congrArg Prims.bnot hp
  have h_cmp : p_cmp = prims.cmp := congrArg Prims.cmp hp
  clear hp
  unfold Has_s_laws_eqName at hF_s_laws_eqName
  rw [← hm_string] at hF_s_laws_eqName
  unfold Has_s_laws_eqByteS at hF_s_laws_eqByteS
  rw [← hm_byte] at hF_s_laws_eqByteS
  generalize hal : (fun (F : St → (Ex → St → Option (List Arg)) → Option (List Arg)) lv => aloop F lv fuel) = al
  rw [s_laws_eqPublication, ← h_bnot, ← h_cmp]
  conv => lhs; cbv
  rw [hF_s_laws_eqName a0.publisher a1.publisher]
  refine cO (fun hx2 => ?_) ?_
  · rw [hx2]
    first | done | rfl
  · rintro r1 hx2
    rw [hx2]
    conv => lhs; cbv
    refine cC (fun hb3 => ?_) (fun hb3 => ?_)
    · rw [hb3]
      conv => lhs; cbv
      first | done | rfl
    · rw [hb3]
      conv => lhs; cbv
      refine cC (fun hb4 => ?_) (fun hb4 => ?_)
      · rw [hb4]
        conv => lhs; cbv
        first | done | rfl
      · rw [hb4]
        conv => lhs; cbv
        rw [hF_s_laws_eqByteS a0.content a1.content]
        refine cO (fun hx6 => ?_) ?_
        · rw [hx6]
          first | done | rfl
        · rintro r5 hx6
          rw [hx6]
          conv => lhs; cbv
          refine cC (fun hb7 => ?_) (fun hb7 => ?_)
          · rw [hb7]
            conv => lhs; cbv
            first | done | rfl
          · rw [hb7]
            conv => lhs; cbv
            first | done | rfl
def s_laws_eqPublicationS_l1 (a0 : (List DPublication)) (a1 : (List DPublication)) : Int → Option ((Int) ⊕ ((Int) ⊕ (Bool)))
  | v2 => bif prims.cmp .lss v2 (prims.int (prims.len (List.map ePublication a0))) then ((nthI a0 v2).bind fun x4 => (nthI a1 v2).bind fun x6 => (s_laws_eqPublication x4 x6).bind fun r8 => bif prims.bnot r8 then (some (.inr (.inr (false)))) else (some (.inl (prims.arith .add .i64 v2 1)))) else (some (.inr (.inl v2)))
def s_laws_eqPublicationS (a0 : (List DPublication)) (a1 : (List DPublication)) : Option (Bool) := bif prims.cmp .neq (prims.int (prims.len (List.map ePublication a0))) (prims.int (prims.len (List.map ePublication a1))) then (some false) else ((whileO (s_laws_eqPublicationS_l1 a0 a1) fuel 0).bind fun g => match g with | .inl w11 => (some true) | .inr (w12) => (some w12))
def Has_s_laws_eqPublicationS (F : Fns) : Prop := ∀ (a0 : (List DPublication)) (a1 : (List DPublication)), F 73 [.v (.sl 76 3 (List.map ePublication a0)), .v (.sl 76 3 (List.map ePublication a1))] = (s_laws_eqPublicationS a0 a1).bind fun r => some [.v (.at (.bool r))]
set_option maxHeartbeats 40000000 in
theorem e_s_laws_eqPublicationS (F : Fns) (hF_s_laws_eqPublication : Has_s_laws_eqPublication F) (a0 : (List DPublication)) (a1 : (List DPublication)) : evBody prims (fun F lv => aloop F lv fuel) TY F ⟨Tryz.f73, Tryz.f73.body.getD .skip, fun id => if id = 4 then [0, 1, 5] else []⟩ [.v (.sl 76 3 (List.map ePublication a0)), .v (.sl 76 3 (List.map ePublication a1))] = (s_laws_eqPublicationS a0 a1).bind fun r => some [.v (.at (.bool r))] := by
  obtain ⟨p, hp⟩ : ∃ p : Prims, p = prims := ⟨_, rfl⟩
  obtain ⟨m_Publication, hm_Publication⟩ : ∃ m, m = List.map ePublication := ⟨_, rfl⟩
  obtain ⟨m_byte, hm_byte⟩ : ∃ m, m = List.map eY := ⟨_, rfl⟩
  obtain ⟨m_string, hm_string⟩ : ∃ m, m = List.map eS := ⟨_, rfl⟩
  rw [← hp]
  rw [← hm_Publication]
  obtain ⟨p_arith, p_cmp, p_wrap, p_scmp, p_scat, p_catOk, p_ssize, p_sat, p_ssub, p_bytes, p_str, p_bnot, p_beq, p_min, p_max, p_len, p_int, p_nth, p_sub, p_rsub, p_ridx, p_rnth, p_rset, p_rapp, p_rlen, p_addN, p_full, p_fits, p_frz, p_own, p_opn, p_lend, p_rmov, p_rout, p_both, p_yI, p_ofB, p_byW, p_mkN, p_rep, p_copy⟩ := p
  have h_arith : p_arith = prims.arith := congrArg Prims.arith hp
  have h_bnot : p_bnot = prims.bnot := congrArg Prims.bnot hp
  have h_cmp : p_cmp = prims.cmp := congrArg Prims.cmp hp
  have h_int : p_int = prims.int := congrArg Prims.int hp
  have h_len : p_len = prims.len := congrArg Prims.len hp
  have h_nth : p_nth = prims.nth := congrArg Prims.nth hp
  clear hp
  have nth_Publication := @nthF_Publication
  rw [← h_nth, ← hm_Publication, ← hm_byte, ← hm_string] at nth_Publication
  unfold Has_s_laws_eqPublication at hF_s_laws_eqPublication
  rw [← hm_byte, ← hm_string] at hF_s_laws_eqPublication
  generalize hal : (fun (F : St → (Ex → St → Option (List Arg)) → Option (List Arg)) lv => aloop F lv fuel) = al
  rw [s_laws_eqPublicationS, ← h_cmp, ← h_int, ← h_len, ← hm_Publication]
  conv => lhs; cbv
  refine cC (fun hb1 => ?_) (fun hb1 => ?_)
  · rw [hb1]
    conv => lhs; cbv
    first | done | rfl
  · rw [hb1]
    conv => lhs; cbv
    refine (loop_al hal (fun v2 => ⟨[.c (.rd true 76 3 (m_Publication a0)), .c (.rd true 76 3 (m_Publication a1)), dd, dd, dd, .c (.at (.int .i64 v2)), dd, dd, dd, dd, dd, dd, dd, dd, dd, dd, dd, dd, dd, dd, dd, dd, dd, dd, dd, dd, dd], [], 1⟩) (s_laws_eqPublicationS_l1 a0 a1) (fun K g => match g with | .inl v2 => K (.exit 0) ⟨[.c (.rd true 76 3 (m_Publication a0)), .c (.rd true 76 3 (m_Publication a1)), dd, dd, dd, .c (.at (.int .i64 v2)), dd, dd, dd, dd, dd, .c (.at (.int .i64 v2)), .c (.rd true 76 3 (m_Publication a0)), .c (.at (.int .i64 (p_int (p_len (m_Publication a0))))), .c (.at (.bool false)), dd, dd, dd, dd, dd, dd, dd, dd, dd, dd, dd, dd], [], 2⟩ | .inr (r) => some [.v (.at (.bool r))]) ?_ 0 _ (rfl)).trans (cL ?_)
    · rintro K1 hr1 v2 R1
      rw [s_laws_eqPublicationS_l1, ← h_arith, ← h_bnot, ← h_cmp, ← h_int, ← h_len, ← hm_Publication]
      conv => lhs; cbv
      refine cC (fun hb3 => ?_) (fun hb3 => ?_)
      · rw [hb3]
        conv => lhs; cbv
        rw [nth_Publication]
        refine cO (fun hx5 => ?_) ?_
        · rw [hx5]
          first | done | rfl
        · rintro x4 hx5
          rw [hx5]
          conv => lhs; cbv
          rw [nth_Publication]
          refine cO (fun hx7 => ?_) ?_
          · rw [hx7]
            first | done | rfl
          · rintro x6 hx7
            rw [hx7]
            conv => lhs; cbv
            rw [hF_s_laws_eqPublication x4 x6]
            refine cO (fun hx9 => ?_) ?_
            · rw [hx9]
              first | done | rfl
            · rintro r8 hx9
              rw [hx9]
              conv => lhs; cbv
              refine cC (fun hb10 => ?_) (fun hb10 => ?_)
              · rw [hb10]
                conv => lhs; cbv
                rw [hr1]
                conv => lhs; cbv
                first | done | rfl
              · rw [hb10]
                conv => lhs; cbv
                first | done | rfl
      · rw [hb3]
        conv => lhs; cbv
        first | done | rfl
    · rintro (w11 | w12)
      · conv => lhs; cbv
        first | done | rfl
      · rfl
def s_laws_eqMember (a0 : DMember) (a1 : DMember) : Option (Bool) := (s_laws_eqName a0.name a1.name).bind fun r1 => bif prims.bnot r1 then (some false) else ((s_laws_eqStateVector a0.vector a1.vector).bind fun r4 => bif prims.bnot r4 then (some false) else ((s_laws_eqPublicationS a0.publications a1.publications).bind fun r7 => bif prims.bnot r7 then (some false) else (some true)))
def Has_s_laws_eqMember (F : Fns) : Prop := ∀ (a0 : DMember) (a1 : DMember), F 46 [.a [.sl 9 1 (List.map eS a0.name), .sl 92 2 (List.map eTableEntry a0.vector), .sl 76 3 (List.map ePublication a0.publications)], .a [.sl 9 1 (List.map eS a1.name), .sl 92 2 (List.map eTableEntry a1.vector), .sl 76 3 (List.map ePublication a1.publications)]] = (s_laws_eqMember a0 a1).bind fun r => some [.v (.at (.bool r))]
set_option maxHeartbeats 40000000 in
theorem e_s_laws_eqMember (F : Fns) (hF_s_laws_eqName : Has_s_laws_eqName F) (hF_s_laws_eqStateVector : Has_s_laws_eqStateVector F) (hF_s_laws_eqPublicationS : Has_s_laws_eqPublicationS F) (a0 : DMember) (a1 : DMember) : evBody prims (fun F lv => aloop F lv fuel) TY F ⟨Tryz.f46, Tryz.f46.body.getD .skip, fun _ => []⟩ [.a [.sl 9 1 (List.map eS a0.name), .sl 92 2 (List.map eTableEntry a0.vector), .sl 76 3 (List.map ePublication a0.publications)], .a [.sl 9 1 (List.map eS a1.name), .sl 92 2 (List.map eTableEntry a1.vector), .sl 76 3 (List.map ePublication a1.publications)]] = (s_laws_eqMember a0 a1).bind fun r => some [.v (.at (.bool r))] := by
  obtain ⟨p, hp⟩ : ∃ p : Prims, p = prims := ⟨_, rfl⟩
  obtain ⟨m_Publication, hm_Publication⟩ : ∃ m, m = List.map ePublication := ⟨_, rfl⟩
  obtain ⟨m_TableEntry, hm_TableEntry⟩ : ∃ m, m = List.map eTableEntry := ⟨_, rfl⟩
  obtain ⟨m_string, hm_string⟩ : ∃ m, m = List.map eS := ⟨_, rfl⟩
  rw [← hp]
  rw [← hm_Publication, ← hm_TableEntry, ← hm_string]
  obtain ⟨p_arith, p_cmp, p_wrap, p_scmp, p_scat, p_catOk, p_ssize, p_sat, p_ssub, p_bytes, p_str, p_bnot, p_beq, p_min, p_max, p_len, p_int, p_nth, p_sub, p_rsub, p_ridx, p_rnth, p_rset, p_rapp, p_rlen, p_addN, p_full, p_fits, p_frz, p_own, p_opn, p_lend, p_rmov, p_rout, p_both, p_yI, p_ofB, p_byW, p_mkN, p_rep, p_copy⟩ := p
  have h_bnot : p_bnot = prims.bnot := congrArg Prims.bnot hp
  clear hp
  unfold Has_s_laws_eqName at hF_s_laws_eqName
  rw [← hm_string] at hF_s_laws_eqName
  unfold Has_s_laws_eqStateVector at hF_s_laws_eqStateVector
  rw [← hm_TableEntry] at hF_s_laws_eqStateVector
  unfold Has_s_laws_eqPublicationS at hF_s_laws_eqPublicationS
  rw [← hm_Publication] at hF_s_laws_eqPublicationS
  generalize hal : (fun (F : St → (Ex → St → Option (List Arg)) → Option (List Arg)) lv => aloop F lv fuel) = al
  rw [s_laws_eqMember, ← h_bnot]
  conv => lhs; cbv
  rw [hF_s_laws_eqName a0.name a1.name]
  refine cO (fun hx2 => ?_) ?_
  · rw [hx2]
    first | done | rfl
  · rintro r1 hx2
    rw [hx2]
    conv => lhs; cbv
    refine cC (fun hb3 => ?_) (fun hb3 => ?_)
    · rw [hb3]
      conv => lhs; cbv
      first | done | rfl
    · rw [hb3]
      conv => lhs; cbv
      rw [hF_s_laws_eqStateVector a0.vector a1.vector]
      refine cO (fun hx5 => ?_) ?_
      · rw [hx5]
        first | done | rfl
      · rintro r4 hx5
        rw [hx5]
        conv => lhs; cbv
        refine cC (fun hb6 => ?_) (fun hb6 => ?_)
        · rw [hb6]
          conv => lhs; cbv
          first | done | rfl
        · rw [hb6]
          conv => lhs; cbv
          rw [hF_s_laws_eqPublicationS a0.publications a1.publications]
          refine cO (fun hx8 => ?_) ?_
          · rw [hx8]
            first | done | rfl
          · rintro r7 hx8
            rw [hx8]
            conv => lhs; cbv
            refine cC (fun hb9 => ?_) (fun hb9 => ?_)
            · rw [hb9]
              conv => lhs; cbv
              first | done | rfl
            · rw [hb9]
              conv => lhs; cbv
              first | done | rfl
def s_laws_eqMemberS_l1 (a0 : (List DMember)) (a1 : (List DMember)) : Int → Option ((Int) ⊕ ((Int) ⊕ (Bool)))
  | v2 => bif prims.cmp .lss v2 (prims.int (prims.len (List.map eMember a0))) then ((nthI a0 v2).bind fun x4 => (nthI a1 v2).bind fun x6 => (s_laws_eqMember x4 x6).bind fun r8 => bif prims.bnot r8 then (some (.inr (.inr (false)))) else (some (.inl (prims.arith .add .i64 v2 1)))) else (some (.inr (.inl v2)))
def s_laws_eqMemberS (a0 : (List DMember)) (a1 : (List DMember)) : Option (Bool) := bif prims.cmp .neq (prims.int (prims.len (List.map eMember a0))) (prims.int (prims.len (List.map eMember a1))) then (some false) else ((whileO (s_laws_eqMemberS_l1 a0 a1) fuel 0).bind fun g => match g with | .inl w11 => (some true) | .inr (w12) => (some w12))
def Has_s_laws_eqMemberS (F : Fns) : Prop := ∀ (a0 : (List DMember)) (a1 : (List DMember)), F 22 [.v (.sl 51 3 (List.map eMember a0)), .v (.sl 51 3 (List.map eMember a1))] = (s_laws_eqMemberS a0 a1).bind fun r => some [.v (.at (.bool r))]
set_option maxHeartbeats 40000000 in
theorem e_s_laws_eqMemberS (F : Fns) (hF_s_laws_eqMember : Has_s_laws_eqMember F) (a0 : (List DMember)) (a1 : (List DMember)) : evBody prims (fun F lv => aloop F lv fuel) TY F ⟨Tryz.f22, Tryz.f22.body.getD .skip, fun id => if id = 4 then [0, 1, 5] else []⟩ [.v (.sl 51 3 (List.map eMember a0)), .v (.sl 51 3 (List.map eMember a1))] = (s_laws_eqMemberS a0 a1).bind fun r => some [.v (.at (.bool r))] := by
  obtain ⟨p, hp⟩ : ∃ p : Prims, p = prims := ⟨_, rfl⟩
  obtain ⟨m_Member, hm_Member⟩ : ∃ m, m = List.map eMember := ⟨_, rfl⟩
  obtain ⟨m_Publication, hm_Publication⟩ : ∃ m, m = List.map ePublication := ⟨_, rfl⟩
  obtain ⟨m_TableEntry, hm_TableEntry⟩ : ∃ m, m = List.map eTableEntry := ⟨_, rfl⟩
  obtain ⟨m_string, hm_string⟩ : ∃ m, m = List.map eS := ⟨_, rfl⟩
  rw [← hp]
  rw [← hm_Member]
  obtain ⟨p_arith, p_cmp, p_wrap, p_scmp, p_scat, p_catOk, p_ssize, p_sat, p_ssub, p_bytes, p_str, p_bnot, p_beq, p_min, p_max, p_len, p_int, p_nth, p_sub, p_rsub, p_ridx, p_rnth, p_rset, p_rapp, p_rlen, p_addN, p_full, p_fits, p_frz, p_own, p_opn, p_lend, p_rmov, p_rout, p_both, p_yI, p_ofB, p_byW, p_mkN, p_rep, p_copy⟩ := p
  have h_arith : p_arith = prims.arith := congrArg Prims.arith hp
  have h_bnot : p_bnot = prims.bnot := congrArg Prims.bnot hp
  have h_cmp : p_cmp = prims.cmp := congrArg Prims.cmp hp
  have h_int : p_int = prims.int := congrArg Prims.int hp
  have h_len : p_len = prims.len := congrArg Prims.len hp
  have h_nth : p_nth = prims.nth := congrArg Prims.nth hp
  clear hp
  have nth_Member := @nthF_Member
  rw [← h_nth, ← hm_Member, ← hm_Publication, ← hm_TableEntry, ← hm_string] at nth_Member
  unfold Has_s_laws_eqMember at hF_s_laws_eqMember
  rw [← hm_Publication, ← hm_TableEntry, ← hm_string] at hF_s_laws_eqMember
  generalize hal : (fun (F : St → (Ex → St → Option (List Arg)) → Option (List Arg)) lv => aloop F lv fuel) = al
  rw [s_laws_eqMemberS, ← h_cmp, ← h_int, ← h_len, ← hm_Member]
  conv => lhs; cbv
  refine cC (fun hb1 => ?_) (fun hb1 => ?_)
  · rw [hb1]
    conv => lhs; cbv
    first | done | rfl
  · rw [hb1]
    conv => lhs; cbv
    refine (loop_al hal (fun v2 => ⟨[.c (.rd true 51 3 (m_Member a0)), .c (.rd true 51 3 (m_Member a1)), dd, dd, dd, .c (.at (.int .i64 v2)), dd, dd, dd, dd, dd, dd, dd, dd, dd, dd, dd, dd, dd, dd, dd, dd, dd, dd, dd, dd, dd], [], 1⟩) (s_laws_eqMemberS_l1 a0 a1) (fun K g => match g with | .inl v2 => K (.exit 0) ⟨[.c (.rd true 51 3 (m_Member a0)), .c (.rd true 51 3 (m_Member a1)), dd, dd, dd, .c (.at (.int .i64 v2)), dd, dd, dd, dd, dd, .c (.at (.int .i64 v2)), .c (.rd true 51 3 (m_Member a0)), .c (.at (.int .i64 (p_int (p_len (m_Member a0))))), .c (.at (.bool false)), dd, dd, dd, dd, dd, dd, dd, dd, dd, dd, dd, dd], [], 2⟩ | .inr (r) => some [.v (.at (.bool r))]) ?_ 0 _ (rfl)).trans (cL ?_)
    · rintro K1 hr1 v2 R1
      rw [s_laws_eqMemberS_l1, ← h_arith, ← h_bnot, ← h_cmp, ← h_int, ← h_len, ← hm_Member]
      conv => lhs; cbv
      refine cC (fun hb3 => ?_) (fun hb3 => ?_)
      · rw [hb3]
        conv => lhs; cbv
        rw [nth_Member]
        refine cO (fun hx5 => ?_) ?_
        · rw [hx5]
          first | done | rfl
        · rintro x4 hx5
          rw [hx5]
          conv => lhs; cbv
          rw [nth_Member]
          refine cO (fun hx7 => ?_) ?_
          · rw [hx7]
            first | done | rfl
          · rintro x6 hx7
            rw [hx7]
            conv => lhs; cbv
            rw [hF_s_laws_eqMember x4 x6]
            refine cO (fun hx9 => ?_) ?_
            · rw [hx9]
              first | done | rfl
            · rintro r8 hx9
              rw [hx9]
              conv => lhs; cbv
              refine cC (fun hb10 => ?_) (fun hb10 => ?_)
              · rw [hb10]
                conv => lhs; cbv
                rw [hr1]
                conv => lhs; cbv
                first | done | rfl
              · rw [hb10]
                conv => lhs; cbv
                first | done | rfl
      · rw [hb3]
        conv => lhs; cbv
        first | done | rfl
    · rintro (w11 | w12)
      · conv => lhs; cbv
        first | done | rfl
      · rfl
def s_laws_eqSyncGroup (a0 : DSyncGroup) (a1 : DSyncGroup) : Option (Bool) := (s_laws_eqTopology a0.topology a1.topology).bind fun r1 => bif prims.bnot r1 then (some false) else ((s_laws_eqMemberS a0.members a1.members).bind fun r4 => bif prims.bnot r4 then (some false) else (some true))
def Has_s_laws_eqSyncGroup (F : Fns) : Prop := ∀ (a0 : DSyncGroup) (a1 : DSyncGroup), F 8 [.a [.at (.int .i64 a0.topology.size), .sl 68 2 (List.map eLink a0.topology.links), .sl 51 3 (List.map eMember a0.members)], .a [.at (.int .i64 a1.topology.size), .sl 68 2 (List.map eLink a1.topology.links), .sl 51 3 (List.map eMember a1.members)]] = (s_laws_eqSyncGroup a0 a1).bind fun r => some [.v (.at (.bool r))]
set_option maxHeartbeats 40000000 in
theorem e_s_laws_eqSyncGroup (F : Fns) (hF_s_laws_eqTopology : Has_s_laws_eqTopology F) (hF_s_laws_eqMemberS : Has_s_laws_eqMemberS F) (a0 : DSyncGroup) (a1 : DSyncGroup) : evBody prims (fun F lv => aloop F lv fuel) TY F ⟨Tryz.f8, Tryz.f8.body.getD .skip, fun _ => []⟩ [.a [.at (.int .i64 a0.topology.size), .sl 68 2 (List.map eLink a0.topology.links), .sl 51 3 (List.map eMember a0.members)], .a [.at (.int .i64 a1.topology.size), .sl 68 2 (List.map eLink a1.topology.links), .sl 51 3 (List.map eMember a1.members)]] = (s_laws_eqSyncGroup a0 a1).bind fun r => some [.v (.at (.bool r))] := by
  obtain ⟨p, hp⟩ : ∃ p : Prims, p = prims := ⟨_, rfl⟩
  obtain ⟨m_Link, hm_Link⟩ : ∃ m, m = List.map eLink := ⟨_, rfl⟩
  obtain ⟨m_Member, hm_Member⟩ : ∃ m, m = List.map eMember := ⟨_, rfl⟩
  rw [← hp]
  rw [← hm_Link, ← hm_Member]
  obtain ⟨p_arith, p_cmp, p_wrap, p_scmp, p_scat, p_catOk, p_ssize, p_sat, p_ssub, p_bytes, p_str, p_bnot, p_beq, p_min, p_max, p_len, p_int, p_nth, p_sub, p_rsub, p_ridx, p_rnth, p_rset, p_rapp, p_rlen, p_addN, p_full, p_fits, p_frz, p_own, p_opn, p_lend, p_rmov, p_rout, p_both, p_yI, p_ofB, p_byW, p_mkN, p_rep, p_copy⟩ := p
  have h_bnot : p_bnot = prims.bnot := congrArg Prims.bnot hp
  clear hp
  unfold Has_s_laws_eqTopology at hF_s_laws_eqTopology
  rw [← hm_Link] at hF_s_laws_eqTopology
  unfold Has_s_laws_eqMemberS at hF_s_laws_eqMemberS
  rw [← hm_Member] at hF_s_laws_eqMemberS
  generalize hal : (fun (F : St → (Ex → St → Option (List Arg)) → Option (List Arg)) lv => aloop F lv fuel) = al
  rw [s_laws_eqSyncGroup, ← h_bnot]
  conv => lhs; cbv
  rw [hF_s_laws_eqTopology a0.topology a1.topology]
  refine cO (fun hx2 => ?_) ?_
  · rw [hx2]
    first | done | rfl
  · rintro r1 hx2
    rw [hx2]
    conv => lhs; cbv
    refine cC (fun hb3 => ?_) (fun hb3 => ?_)
    · rw [hb3]
      conv => lhs; cbv
      first | done | rfl
    · rw [hb3]
      conv => lhs; cbv
      rw [hF_s_laws_eqMemberS a0.members a1.members]
      refine cO (fun hx5 => ?_) ?_
      · rw [hx5]
        first | done | rfl
      · rintro r4 hx5
        rw [hx5]
        conv => lhs; cbv
        refine cC (fun hb6 => ?_) (fun hb6 => ?_)
        · rw [hb6]
          conv => lhs; cbv
          first | done | rfl
        · rw [hb6]
          conv => lhs; cbv
          first | done | rfl
def s_laws_FnExactValidSyncGroup (a0 : DSyncGroup) : Option (Bool) := (s_laws_szSyncGroup a0 1048576).bind fun r1 => bif prims.cmp .lss r1 0 then (some true) else ((s_laws_toSyncGroup a0).bind fun r4 => (s_spec_ValidSyncGroup r4).bind fun r6 => (s_impl_ValidSyncGroup r4).bind fun r9 => bif prims.bnot (prims.beq r9 r6) then (some false) else ((s_laws_eqSyncGroup r4 r4).bind fun r13 => bif prims.bnot r13 then (some false) else (some true)))
def Has_s_laws_FnExactValidSyncGroup (F : Fns) : Prop := ∀ (a0 : DSyncGroup), F 3 [.a [.at (.int .i64 a0.topology.size), .sl 68 2 (List.map eLink a0.topology.links), .sl 51 3 (List.map eMember a0.members)]] = (s_laws_FnExactValidSyncGroup a0).bind fun r => some [.v (.at (.bool r))]
set_option maxHeartbeats 40000000 in
theorem e_s_laws_FnExactValidSyncGroup (F : Fns) (hF_s_laws_szSyncGroup : Has_s_laws_szSyncGroup F) (hF_s_laws_toSyncGroup : Has_s_laws_toSyncGroup F) (hF_s_spec_ValidSyncGroup : Has_s_spec_ValidSyncGroup F) (hF_s_impl_ValidSyncGroup : Has_s_impl_ValidSyncGroup F) (hF_s_laws_eqSyncGroup : Has_s_laws_eqSyncGroup F) (a0 : DSyncGroup) : evBody prims (fun F lv => aloop F lv fuel) TY F ⟨Tryz.f3, Tryz.f3.body.getD .skip, fun _ => []⟩ [.a [.at (.int .i64 a0.topology.size), .sl 68 2 (List.map eLink a0.topology.links), .sl 51 3 (List.map eMember a0.members)]] = (s_laws_FnExactValidSyncGroup a0).bind fun r => some [.v (.at (.bool r))] := by
  obtain ⟨p, hp⟩ : ∃ p : Prims, p = prims := ⟨_, rfl⟩
  obtain ⟨m_Link, hm_Link⟩ : ∃ m, m = List.map eLink := ⟨_, rfl⟩
  obtain ⟨m_Member, hm_Member⟩ : ∃ m, m = List.map eMember := ⟨_, rfl⟩
  rw [← hp]
  rw [← hm_Link, ← hm_Member]
  obtain ⟨p_arith, p_cmp, p_wrap, p_scmp, p_scat, p_catOk, p_ssize, p_sat, p_ssub, p_bytes, p_str, p_bnot, p_beq, p_min, p_max, p_len, p_int, p_nth, p_sub, p_rsub, p_ridx, p_rnth, p_rset, p_rapp, p_rlen, p_addN, p_full, p_fits, p_frz, p_own, p_opn, p_lend, p_rmov, p_rout, p_both, p_yI, p_ofB, p_byW, p_mkN, p_rep, p_copy⟩ := p
  have h_beq : p_beq = prims.beq := congrArg Prims.beq hp
  have h_bnot : p_bnot = prims.bnot := congrArg Prims.bnot hp
  have h_cmp : p_cmp = prims.cmp := congrArg Prims.cmp hp
  have h_frz : p_frz = prims.frz := congrArg Prims.frz hp
  have h_len : p_len = prims.len := congrArg Prims.len hp
  have h_opn : p_opn = prims.opn := congrArg Prims.opn hp
  clear hp
  have frz_Link := @frzF_Link
  rw [← h_frz, ← h_len, ← h_opn, ← hm_Link] at frz_Link
  have frz_Member := @frzF_Member
  rw [← h_frz, ← h_len, ← h_opn, ← hm_Member] at frz_Member
  unfold Has_s_laws_szSyncGroup at hF_s_laws_szSyncGroup
  rw [← hm_Link, ← hm_Member] at hF_s_laws_szSyncGroup
  unfold Has_s_laws_toSyncGroup at hF_s_laws_toSyncGroup
  rw [← hm_Link, ← hm_Member] at hF_s_laws_toSyncGroup
  unfold Has_s_spec_ValidSyncGroup at hF_s_spec_ValidSyncGroup
  rw [← hm_Link, ← hm_Member] at hF_s_spec_ValidSyncGroup
  unfold Has_s_impl_ValidSyncGroup at hF_s_impl_ValidSyncGroup
  rw [← hm_Link, ← hm_Member] at hF_s_impl_ValidSyncGroup
  unfold Has_s_laws_eqSyncGroup at hF_s_laws_eqSyncGroup
  rw [← hm_Link, ← hm_Member] at hF_s_laws_eqSyncGroup
  generalize hal : (fun (F : St → (Ex → St → Option (List Arg)) → Option (List Arg)) lv => aloop F lv fuel) = al
  rw [s_laws_FnExactValidSyncGroup, ← h_beq, ← h_bnot, ← h_cmp]
  conv => lhs; cbv
  rw [hF_s_laws_szSyncGroup a0 1048576]
  refine cO (fun hx2 => ?_) ?_
  · rw [hx2]
    first | done | rfl
  · rintro r1 hx2
    rw [hx2]
    conv => lhs; cbv
    refine cC (fun hb3 => ?_) (fun hb3 => ?_)
    · rw [hb3]
      conv => lhs; cbv
      first | done | rfl
    · rw [hb3]
      conv => lhs; cbv
      rw [hF_s_laws_toSyncGroup a0]
      refine cO (fun hx5 => ?_) ?_
      · rw [hx5]
        first | done | rfl
      · rintro r4 hx5
        rw [hx5]
        conv => lhs; cbv
        rw [frz_Link]
        conv => lhs; cbv
        rw [frz_Member]
        conv => lhs; cbv
        rw [hF_s_spec_ValidSyncGroup r4]
        refine cO (fun hx7 => ?_) ?_
        · rw [hx7]
          first | done | rfl
        · rintro r6 hx7
          rw [hx7]
          conv => lhs; cbv
          rw [hF_s_laws_toSyncGroup a0]
          rw [hx5]
          conv => lhs; cbv
          rw [frz_Link]
          conv => lhs; cbv
          rw [frz_Member]
          conv => lhs; cbv
          rw [hF_s_impl_ValidSyncGroup r4]
          refine cO (fun hx10 => ?_) ?_
          · rw [hx10]
            first | done | rfl
          · rintro r9 hx10
            rw [hx10]
            conv => lhs; cbv
            refine cC (fun hb11 => ?_) (fun hb11 => ?_)
            · rw [hb11]
              conv => lhs; cbv
              first | done | rfl
            · rw [hb11]
              conv => lhs; cbv
              rw [hF_s_laws_toSyncGroup a0]
              rw [hx5]
              conv => lhs; cbv
              rw [frz_Link]
              conv => lhs; cbv
              rw [frz_Member]
              conv => lhs; cbv
              rw [frz_Link]
              conv => lhs; cbv
              rw [frz_Member]
              conv => lhs; cbv
              rw [hF_s_laws_eqSyncGroup r4 r4]
              refine cO (fun hx14 => ?_) ?_
              · rw [hx14]
                first | done | rfl
              · rintro r13 hx14
                rw [hx14]
                conv => lhs; cbv
                refine cC (fun hb15 => ?_) (fun hb15 => ?_)
                · rw [hb15]
                  conv => lhs; cbv
                  first | done | rfl
                · rw [hb15]
                  conv => lhs; cbv
                  first | done | rfl
end
end Go.Proofs.YtofieohogenojaaGreatDoor
