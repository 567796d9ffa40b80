/- Plain functions that compute what the code computes. Printed by genshal.py. -/
import Derived.Test.YtofieohogenojaaGreatDoorSt
namespace Go.Proofs.YtofieohogenojaaGreatDoor
open Go.RowKit
set_option linter.unusedVariables false
set_option linter.unusedSimpArgs false
set_option maxRecDepth 100000
noncomputable section

def s_laws_szLinkS (a0 : (List DLink)) (a1 : Int) : Option (Int) := bif prims.cmp .lss (prims.arith .sub .i64 a1 (prims.int (prims.len (List.map eLink a0)))) 0 then (some (-1)) else (some (prims.arith .sub .i64 a1 (prims.int (prims.len (List.map eLink a0)))))
def Has_s_laws_szLinkS (F : Fns) : Prop := ∀ (a0 : (List DLink)) (a1 : Int), F 23 [.v (.sl 68 2 (List.map eLink a0)), .v (.at (.int .i64 a1))] = (s_laws_szLinkS a0 a1).bind fun r => some [.v (.at (.int .i64 r))]
set_option maxHeartbeats 40000000 in
theorem e_s_laws_szLinkS (F : Fns) (a0 : (List DLink)) (a1 : Int) : evBody prims (fun F lv => aloop F lv fuel) TY F ⟨Tryz.f23, Tryz.f23.body.getD .skip, fun _ => []⟩ [.v (.sl 68 2 (List.map eLink a0)), .v (.at (.int .i64 a1))] = (s_laws_szLinkS a0 a1).bind fun r => some [.v (.at (.int .i64 r))] := by
  obtain ⟨p, hp⟩ : ∃ p : Prims, p = prims := ⟨_, rfl⟩
  obtain ⟨m_Link, hm_Link⟩ : ∃ m, m = List.map eLink := ⟨_, rfl⟩
  rw [← hp]
  rw [← hm_Link]
  obtain ⟨p_arith, p_cmp, p_wrap, p_scmp, p_scat, p_catOk, p_ssize, p_sat, p_ssub, p_bytes, p_str, p_bnot, p_beq, p_min, p_max, p_len, p_int, p_nth, p_sub, p_rsub, p_ridx, p_rnth, p_rset, p_rapp, p_rlen, p_addN, p_full, p_fits, p_frz, p_own, p_opn, p_lend, p_rmov, p_rout, p_both, p_yI, p_ofB, p_byW, p_mkN, p_rep, p_copy⟩ := p
  have h_arith : p_arith = prims.arith := congrArg Prims.arith hp
  have h_cmp : p_cmp = prims.cmp := congrArg Prims.cmp hp
  have h_int : p_int = prims.int := congrArg Prims.int hp
  have h_len : p_len = prims.len := congrArg Prims.len hp
  clear hp
  generalize hal : (fun (F : St → (Ex → St → Option (List Arg)) → Option (List Arg)) lv => aloop F lv fuel) = al
  rw [s_laws_szLinkS, ← h_arith, ← h_cmp, ← h_int, ← h_len, ← hm_Link]
  conv => lhs; cbv
  refine cC (fun hb1 => ?_) (fun hb1 => ?_)
  · rw [hb1]
    conv => lhs; cbv
    first | done | rfl
  · rw [hb1]
    conv => lhs; cbv
    first | done | rfl
def s_laws_szTopology (a0 : DTopology) (a1 : Int) : Option (Int) := (s_laws_szLinkS a0.links a1).bind fun r1 => bif prims.cmp .lss r1 0 then (some (-1)) else (some r1)
def Has_s_laws_szTopology (F : Fns) : Prop := ∀ (a0 : DTopology) (a1 : Int), F 9 [.a [.at (.int .i64 a0.size), .sl 68 2 (List.map eLink a0.links)], .v (.at (.int .i64 a1))] = (s_laws_szTopology a0 a1).bind fun r => some [.v (.at (.int .i64 r))]
set_option maxHeartbeats 40000000 in
theorem e_s_laws_szTopology (F : Fns) (hF_s_laws_szLinkS : Has_s_laws_szLinkS F) (a0 : DTopology) (a1 : Int) : evBody prims (fun F lv => aloop F lv fuel) TY F ⟨Tryz.f9, Tryz.f9.body.getD .skip, fun _ => []⟩ [.a [.at (.int .i64 a0.size), .sl 68 2 (List.map eLink a0.links)], .v (.at (.int .i64 a1))] = (s_laws_szTopology a0 a1).bind fun r => some [.v (.at (.int .i64 r))] := by
  obtain ⟨p, hp⟩ : ∃ p : Prims, p = prims := ⟨_, rfl⟩
  obtain ⟨m_Link, hm_Link⟩ : ∃ m, m = List.map eLink := ⟨_, rfl⟩
  rw [← hp]
  rw [← hm_Link]
  obtain ⟨p_arith, p_cmp, p_wrap, p_scmp, p_scat, p_catOk, p_ssize, p_sat, p_ssub, p_bytes, p_str, p_bnot, p_beq, p_min, p_max, p_len, p_int, p_nth, p_sub, p_rsub, p_ridx, p_rnth, p_rset, p_rapp, p_rlen, p_addN, p_full, p_fits, p_frz, p_own, p_opn, p_lend, p_rmov, p_rout, p_both, p_yI, p_ofB, p_byW, p_mkN, p_rep, p_copy⟩ := p
  have h_cmp : p_cmp = prims.cmp := congrArg Prims.cmp hp
  clear hp
  unfold Has_s_laws_szLinkS at hF_s_laws_szLinkS
  rw [← hm_Link] at hF_s_laws_szLinkS
  generalize hal : (fun (F : St → (Ex → St → Option (List Arg)) → Option (List Arg)) lv => aloop F lv fuel) = al
  rw [s_laws_szTopology, ← h_cmp]
  conv => lhs; cbv
  rw [hF_s_laws_szLinkS a0.links a1]
  refine cO (fun hx2 => ?_) ?_
  · rw [hx2]
    first | done | rfl
  · rintro r1 hx2
    rw [hx2]
    conv => lhs; cbv
    refine cC (fun hb3 => ?_) (fun hb3 => ?_)
    · rw [hb3]
      conv => lhs; cbv
      first | done | rfl
    · rw [hb3]
      conv => lhs; cbv
      first | done | rfl
def s_laws_szStringS_l1 (a0 : (List ByteArray)) : (Int × Int) → Option ((Int × Int) ⊕ ((Int × Int) ⊕ (Int)))
  | (v2, v3) => bif prims.cmp .lss v3 (prims.int (prims.len (List.map eS a0))) then ((nthI a0 v3).bind fun x5 => bif prims.cmp .lss (prims.arith .sub .i64 v2 (prims.ssize x5)) 0 then (some (.inr (.inr ((-1))))) else (some (.inl (prims.arith .sub .i64 v2 (prims.ssize x5), prims.arith .add .i64 v3 1)))) else (some (.inr (.inl (v2, v3))))
def s_laws_szStringS (a0 : (List ByteArray)) (a1 : Int) : Option (Int) := bif prims.cmp .lss (prims.arith .sub .i64 a1 (prims.int (prims.len (List.map eS a0)))) 0 then (some (-1)) else ((whileO (s_laws_szStringS_l1 a0) fuel (prims.arith .sub .i64 a1 (prims.int (prims.len (List.map eS a0))), 0)).bind fun g => match g with | .inl (w8, w9) => (some w8) | .inr (w10) => (some w10))
def Has_s_laws_szStringS (F : Fns) : Prop := ∀ (a0 : (List ByteArray)) (a1 : Int), F 74 [.v (.sl 9 1 (List.map eS a0)), .v (.at (.int .i64 a1))] = (s_laws_szStringS a0 a1).bind fun r => some [.v (.at (.int .i64 r))]
set_option maxHeartbeats 40000000 in
theorem e_s_laws_szStringS (F : Fns) (a0 : (List ByteArray)) (a1 : Int) : evBody prims (fun F lv => aloop F lv fuel) TY F ⟨Tryz.f74, Tryz.f74.body.getD .skip, fun id => if id = 5 then [0, 1, 5] else []⟩ [.v (.sl 9 1 (List.map eS a0)), .v (.at (.int .i64 a1))] = (s_laws_szStringS a0 a1).bind fun r => some [.v (.at (.int .i64 r))] := by
  obtain ⟨p, hp⟩ : ∃ p : Prims, p = prims := ⟨_, rfl⟩
  obtain ⟨m_string, hm_string⟩ : ∃ m, m = List.map eS := ⟨_, rfl⟩
  rw [← hp]
  rw [← hm_string]
  obtain ⟨p_arith, p_cmp, p_wrap, p_scmp, p_scat, p_catOk, p_ssize, p_sat, p_ssub, p_bytes, p_str, p_bnot, p_beq, p_min, p_max, p_len, p_int, p_nth, p_sub, p_rsub, p_ridx, p_rnth, p_rset, p_rapp, p_rlen, p_addN, p_full, p_fits, p_frz, p_own, p_opn, p_lend, p_rmov, p_rout, p_both, p_yI, p_ofB, p_byW, p_mkN, p_rep, p_copy⟩ := p
  have h_arith : p_arith = prims.arith := congrArg Prims.arith hp
  have h_cmp : p_cmp = prims.cmp := congrArg Prims.cmp hp
  have h_int : p_int = prims.int := congrArg Prims.int hp
  have h_len : p_len = prims.len := congrArg Prims.len hp
  have h_nth : p_nth = prims.nth := congrArg Prims.nth hp
  have h_ssize : p_ssize = prims.ssize := congrArg Prims.ssize hp
  clear hp
  have nth_string := @nthF_string
  rw [← h_nth, ← hm_string] at nth_string
  generalize hal : (fun (F : St → (Ex → St → Option (List Arg)) → Option (List Arg)) lv => aloop F lv fuel) = al
  rw [s_laws_szStringS, ← h_arith, ← h_cmp, ← h_int, ← h_len, ← hm_string]
  conv => lhs; cbv
  refine cC (fun hb1 => ?_) (fun hb1 => ?_)
  · rw [hb1]
    conv => lhs; cbv
    first | done | rfl
  · rw [hb1]
    conv => lhs; cbv
    refine (loop_al hal (fun x => match x with | (v2, v3) => ⟨[.c (.rd true 9 1 (m_string a0)), .c (.at (.int .i64 v2)), dd, dd, dd, .c (.at (.int .i64 v3)), dd, dd, dd, dd, dd, dd, dd, dd, dd, dd, dd, dd, dd, dd, dd, dd, dd, dd, dd, dd, dd, dd], [], 1⟩) (s_laws_szStringS_l1 a0) (fun K g => match g with | .inl (v2, v3) => K (.exit 0) ⟨[.c (.rd true 9 1 (m_string a0)), .c (.at (.int .i64 v2)), dd, dd, dd, .c (.at (.int .i64 v3)), dd, dd, dd, dd, dd, dd, .c (.at (.int .i64 v3)), .c (.rd true 9 1 (m_string a0)), .c (.at (.int .i64 (p_int (p_len (m_string a0))))), .c (.at (.bool false)), dd, dd, dd, dd, dd, dd, dd, dd, dd, dd, dd, dd], [], 2⟩ | .inr (r) => some [.v (.at (.int .i64 r))]) ?_ (p_arith .sub .i64 a1 (p_int (p_len (m_string a0))), 0) _ (rfl)).trans (cL ?_)
    · rintro K1 hr1 ⟨v2, v3⟩ R1
      rw [s_laws_szStringS_l1, ← h_arith, ← h_cmp, ← h_int, ← h_len, ← h_ssize, ← hm_string]
      conv => lhs; cbv
      refine cC (fun hb4 => ?_) (fun hb4 => ?_)
      · rw [hb4]
        conv => lhs; cbv
        rw [nth_string]
        refine cO (fun hx6 => ?_) ?_
        · rw [hx6]
          first | done | rfl
        · rintro x5 hx6
          rw [hx6]
          conv => lhs; cbv
          refine cC (fun hb7 => ?_) (fun hb7 => ?_)
          · rw [hb7]
            conv => lhs; cbv
            rw [hr1]
            conv => lhs; cbv
            first | done | rfl
          · rw [hb7]
            conv => lhs; cbv
            first | done | rfl
      · rw [hb4]
        conv => lhs; cbv
        first | done | rfl
    · rintro (⟨w8, w9⟩ | w10)
      · conv => lhs; cbv
        first | done | rfl
      · rfl
def s_laws_szName (a0 : (List ByteArray)) (a1 : Int) : Option (Int) := (s_laws_szStringS a0 a1).bind fun r1 => bif prims.cmp .lss r1 0 then (some (-1)) else (some r1)
def Has_s_laws_szName (F : Fns) : Prop := ∀ (a0 : (List ByteArray)) (a1 : Int), F 47 [.a [.sl 9 1 (List.map eS a0)], .v (.at (.int .i64 a1))] = (s_laws_szName a0 a1).bind fun r => some [.v (.at (.int .i64 r))]
set_option maxHeartbeats 40000000 in
theorem e_s_laws_szName (F : Fns) (hF_s_laws_szStringS : Has_s_laws_szStringS F) (a0 : (List ByteArray)) (a1 : Int) : evBody prims (fun F lv => aloop F lv fuel) TY F ⟨Tryz.f47, Tryz.f47.body.getD .skip, fun _ => []⟩ [.a [.sl 9 1 (List.map eS a0)], .v (.at (.int .i64 a1))] = (s_laws_szName a0 a1).bind fun r => some [.v (.at (.int .i64 r))] := by
  obtain ⟨p, hp⟩ : ∃ p : Prims, p = prims := ⟨_, rfl⟩
  obtain ⟨m_string, hm_string⟩ : ∃ m, m = List.map eS := ⟨_, rfl⟩
  rw [← hp]
  rw [← hm_string]
  obtain ⟨p_arith, p_cmp, p_wrap, p_scmp, p_scat, p_catOk, p_ssize, p_sat, p_ssub, p_bytes, p_str, p_bnot, p_beq, p_min, p_max, p_len, p_int, p_nth, p_sub, p_rsub, p_ridx, p_rnth, p_rset, p_rapp, p_rlen, p_addN, p_full, p_fits, p_frz, p_own, p_opn, p_lend, p_rmov, p_rout, p_both, p_yI, p_ofB, p_byW, p_mkN, p_rep, p_copy⟩ := p
  have h_cmp : p_cmp = prims.cmp := congrArg Prims.cmp hp
  clear hp
  unfold Has_s_laws_szStringS at hF_s_laws_szStringS
  rw [← hm_string] at hF_s_laws_szStringS
  generalize hal : (fun (F : St → (Ex → St → Option (List Arg)) → Option (List Arg)) lv => aloop F lv fuel) = al
  rw [s_laws_szName, ← h_cmp]
  conv => lhs; cbv
  rw [hF_s_laws_szStringS a0 a1]
  refine cO (fun hx2 => ?_) ?_
  · rw [hx2]
    first | done | rfl
  · rintro r1 hx2
    rw [hx2]
    conv => lhs; cbv
    refine cC (fun hb3 => ?_) (fun hb3 => ?_)
    · rw [hb3]
      conv => lhs; cbv
      first | done | rfl
    · rw [hb3]
      conv => lhs; cbv
      first | done | rfl
def s_laws_szTableEntry (a0 : DTableEntry) (a1 : Int) : Option (Int) := (s_laws_szName a0.name a1).bind fun r1 => bif prims.cmp .lss r1 0 then (some (-1)) else (some r1)
def Has_s_laws_szTableEntry (F : Fns) : Prop := ∀ (a0 : DTableEntry) (a1 : Int), F 90 [.a [.sl 9 1 (List.map eS a0.name), .at (.int .i64 a0.value)], .v (.at (.int .i64 a1))] = (s_laws_szTableEntry a0 a1).bind fun r => some [.v (.at (.int .i64 r))]
set_option maxHeartbeats 40000000 in
theorem e_s_laws_szTableEntry (F : Fns) (hF_s_laws_szName : Has_s_laws_szName F) (a0 : DTableEntry) (a1 : Int) : evBody prims (fun F lv => aloop F lv fuel) TY F ⟨Tryz.f90, Tryz.f90.body.getD .skip, fun _ => []⟩ [.a [.sl 9 1 (List.map eS a0.name), .at (.int .i64 a0.value)], .v (.at (.int .i64 a1))] = (s_laws_szTableEntry a0 a1).bind fun r => some [.v (.at (.int .i64 r))] := by
  obtain ⟨p, hp⟩ : ∃ p : Prims, p = prims := ⟨_, rfl⟩
  obtain ⟨m_string, hm_string⟩ : ∃ m, m = List.map eS := ⟨_, rfl⟩
  rw [← hp]
  rw [← hm_string]
  obtain ⟨p_arith, p_cmp, p_wrap, p_scmp, p_scat, p_catOk, p_ssize, p_sat, p_ssub, p_bytes, p_str, p_bnot, p_beq, p_min, p_max, p_len, p_int, p_nth, p_sub, p_rsub, p_ridx, p_rnth, p_rset, p_rapp, p_rlen, p_addN, p_full, p_fits, p_frz, p_own, p_opn, p_lend, p_rmov, p_rout, p_both, p_yI, p_ofB, p_byW, p_mkN, p_rep, p_copy⟩ := p
  have h_cmp : p_cmp = prims.cmp := congrArg Prims.cmp hp
  clear hp
  unfold Has_s_laws_szName at hF_s_laws_szName
  rw [← hm_string] at hF_s_laws_szName
  generalize hal : (fun (F : St → (Ex → St → Option (List Arg)) → Option (List Arg)) lv => aloop F lv fuel) = al
  rw [s_laws_szTableEntry, ← h_cmp]
  conv => lhs; cbv
  rw [hF_s_laws_szName a0.name a1]
  refine cO (fun hx2 => ?_) ?_
  · rw [hx2]
    first | done | rfl
  · rintro r1 hx2
    rw [hx2]
    conv => lhs; cbv
    refine cC (fun hb3 => ?_) (fun hb3 => ?_)
    · rw [hb3]
      conv => lhs; cbv
      first | done | rfl
    · rw [hb3]
      conv => lhs; cbv
      first | done | rfl
def s_laws_szTableEntryS_l1 (a0 : (List DTableEntry)) : (Int × Int) → Option ((Int × Int) ⊕ ((Int × Int) ⊕ (Int)))
  | (v2, v3) => bif prims.cmp .lss v3 (prims.int (prims.len (List.map eTableEntry a0))) then ((nthI a0 v3).bind fun x5 => (s_laws_szTableEntry x5 v2).bind fun r7 => bif prims.cmp .lss r7 0 then (some (.inr (.inr ((-1))))) else (some (.inl (r7, prims.arith .add .i64 v3 1)))) else (some (.inr (.inl (v2, v3))))
def s_laws_szTableEntryS (a0 : (List DTableEntry)) (a1 : Int) : Option (Int) := bif prims.cmp .lss (prims.arith .sub .i64 a1 (prims.int (prims.len (List.map eTableEntry a0)))) 0 then (some (-1)) else ((whileO (s_laws_szTableEntryS_l1 a0) fuel (prims.arith .sub .i64 a1 (prims.int (prims.len (List.map eTableEntry a0))), 0)).bind fun g => match g with | .inl (w10, w11) => (some w10) | .inr (w12) => (some w12))
def Has_s_laws_szTableEntryS (F : Fns) : Prop := ∀ (a0 : (List DTableEntry)) (a1 : Int), F 75 [.v (.sl 92 2 (List.map eTableEntry a0)), .v (.at (.int .i64 a1))] = (s_laws_szTableEntryS a0 a1).bind fun r => some [.v (.at (.int .i64 r))]
set_option maxHeartbeats 40000000 in
theorem e_s_laws_szTableEntryS (F : Fns) (hF_s_laws_szTableEntry : Has_s_laws_szTableEntry F) (a0 : (List DTableEntry)) (a1 : Int) : evBody prims (fun F lv => aloop F lv fuel) TY F ⟨Tryz.f75, Tryz.f75.body.getD .skip, fun id => if id = 5 then [0, 1, 5] else []⟩ [.v (.sl 92 2 (List.map eTableEntry a0)), .v (.at (.int .i64 a1))] = (s_laws_szTableEntryS a0 a1).bind fun r => some [.v (.at (.int .i64 r))] := by
  obtain ⟨p, hp⟩ : ∃ p : Prims, p = prims := ⟨_, rfl⟩
  obtain ⟨m_TableEntry, hm_TableEntry⟩ : ∃ m, m = List.map eTableEntry := ⟨_, rfl⟩
  obtain ⟨m_string, hm_string⟩ : ∃ m, m = List.map eS := ⟨_, rfl⟩
  rw [← hp]
  rw [← hm_TableEntry]
  obtain ⟨p_arith, p_cmp, p_wrap, p_scmp, p_scat, p_catOk, p_ssize, p_sat, p_ssub, p_bytes, p_str, p_bnot, p_beq, p_min, p_max, p_len, p_int, p_nth, p_sub, p_rsub, p_ridx, p_rnth, p_rset, p_rapp, p_rlen, p_addN, p_full, p_fits, p_frz, p_own, p_opn, p_lend, p_rmov, p_rout, p_both, p_yI, p_ofB, p_byW, p_mkN, p_rep, p_copy⟩ := p
  have h_arith : p_arith = prims.arith := congrArg Prims.arith hp
  have h_cmp : p_cmp = prims.cmp := congrArg Prims.cmp hp
  have h_int : p_int = prims.int := congrArg Prims.int hp
  have h_len : p_len = prims.len := congrArg Prims.len hp
  have h_nth : p_nth = prims.nth := congrArg Prims.nth hp
  clear hp
  have nth_TableEntry := @nthF_TableEntry
  rw [← h_nth, ← hm_TableEntry, ← hm_string] at nth_TableEntry
  unfold Has_s_laws_szTableEntry at hF_s_laws_szTableEntry
  rw [← hm_string] at hF_s_laws_szTableEntry
  generalize hal : (fun (F : St → (Ex → St → Option (List Arg)) → Option (List Arg)) lv => aloop F lv fuel) = al
  rw [s_laws_szTableEntryS, ← h_arith, ← h_cmp, ← h_int, ← h_len, ← hm_TableEntry]
  conv => lhs; cbv
  refine cC (fun hb1 => ?_) (fun hb1 => ?_)
  · rw [hb1]
    conv => lhs; cbv
    first | done | rfl
  · rw [hb1]
    conv => lhs; cbv
    refine (loop_al hal (fun x => match x with | (v2, v3) => ⟨[.c (.rd true 92 2 (m_TableEntry a0)), .c (.at (.int .i64 v2)), dd, dd, dd, .c (.at (.int .i64 v3)), dd, dd, dd, dd, dd, dd, dd, dd, dd, dd, dd, dd, dd, dd, dd, dd, dd, dd, dd, dd, dd], [], 1⟩) (s_laws_szTableEntryS_l1 a0) (fun K g => match g with | .inl (v2, v3) => K (.exit 0) ⟨[.c (.rd true 92 2 (m_TableEntry a0)), .c (.at (.int .i64 v2)), dd, dd, dd, .c (.at (.int .i64 v3)), dd, dd, dd, dd, dd, dd, .c (.at (.int .i64 v3)), .c (.rd true 92 2 (m_TableEntry a0)), .c (.at (.int .i64 (p_int (p_len (m_TableEntry a0))))), .c (.at (.bool false)), dd, dd, dd, dd, dd, dd, dd, dd, dd, dd, dd], [], 2⟩ | .inr (r) => some [.v (.at (.int .i64 r))]) ?_ (p_arith .sub .i64 a1 (p_int (p_len (m_TableEntry a0))), 0) _ (rfl)).trans (cL ?_)
    · rintro K1 hr1 ⟨v2, v3⟩ R1
      rw [s_laws_szTableEntryS_l1, ← h_arith, ← h_cmp, ← h_int, ← h_len, ← hm_TableEntry]
      conv => lhs; cbv
      refine cC (fun hb4 => ?_) (fun hb4 => ?_)
      · rw [hb4]
        conv => lhs; cbv
        rw [nth_TableEntry]
        refine cO (fun hx6 => ?_) ?_
        · rw [hx6]
          first | done | rfl
        · rintro x5 hx6
          rw [hx6]
          conv => lhs; cbv
          rw [hF_s_laws_szTableEntry x5 v2]
          refine cO (fun hx8 => ?_) ?_
          · rw [hx8]
            first | done | rfl
          · rintro r7 hx8
            rw [hx8]
            conv => lhs; cbv
            refine cC (fun hb9 => ?_) (fun hb9 => ?_)
            · rw [hb9]
              conv => lhs; cbv
              rw [hr1]
              conv => lhs; cbv
              first | done | rfl
            · rw [hb9]
              conv => lhs; cbv
              first | done | rfl
      · rw [hb4]
        conv => lhs; cbv
        first | done | rfl
    · rintro (⟨w10, w11⟩ | w12)
      · conv => lhs; cbv
        first | done | rfl
      · rfl
def s_laws_szStateVector (a0 : (List DTableEntry)) (a1 : Int) : Option (Int) := (s_laws_szTableEntryS a0 a1).bind fun r1 => bif prims.cmp .lss r1 0 then (some (-1)) else (some r1)
def Has_s_laws_szStateVector (F : Fns) : Prop := ∀ (a0 : (List DTableEntry)) (a1 : Int), F 48 [.a [.sl 92 2 (List.map eTableEntry a0)], .v (.at (.int .i64 a1))] = (s_laws_szStateVector a0 a1).bind fun r => some [.v (.at (.int .i64 r))]
set_option maxHeartbeats 40000000 in
theorem e_s_laws_szStateVector (F : Fns) (hF_s_laws_szTableEntryS : Has_s_laws_szTableEntryS F) (a0 : (List DTableEntry)) (a1 : Int) : evBody prims (fun F lv => aloop F lv fuel) TY F ⟨Tryz.f48, Tryz.f48.body.getD .skip, fun _ => []⟩ [.a [.sl 92 2 (List.map eTableEntry a0)], .v (.at (.int .i64 a1))] = (s_laws_szStateVector a0 a1).bind fun r => some [.v (.at (.int .i64 r))] := by
  obtain ⟨p, hp⟩ : ∃ p : Prims, p = prims := ⟨_, rfl⟩
  obtain ⟨m_TableEntry, hm_TableEntry⟩ : ∃ m, m = List.map eTableEntry := ⟨_, rfl⟩
  rw [← hp]
  rw [← hm_TableEntry]
  obtain ⟨p_arith, p_cmp, p_wrap, p_scmp, p_scat, p_catOk, p_ssize, p_sat, p_ssub, p_bytes, p_str, p_bnot, p_beq, p_min, p_max, p_len, p_int, p_nth, p_sub, p_rsub, p_ridx, p_rnth, p_rset, p_rapp, p_rlen, p_addN, p_full, p_fits, p_frz, p_own, p_opn, p_lend, p_rmov, p_rout, p_both, p_yI, p_ofB, p_byW, p_mkN, p_rep, p_copy⟩ := p
  have h_cmp : p_cmp = prims.cmp := congrArg Prims.cmp hp
  clear hp
  unfold Has_s_laws_szTableEntryS at hF_s_laws_szTableEntryS
  rw [← hm_TableEntry] at hF_s_laws_szTableEntryS
  generalize hal : (fun (F : St → (Ex → St → Option (List Arg)) → Option (List Arg)) lv => aloop F lv fuel) = al
  rw [s_laws_szStateVector, ← h_cmp]
  conv => lhs; cbv
  rw [hF_s_laws_szTableEntryS a0 a1]
  refine cO (fun hx2 => ?_) ?_
  · rw [hx2]
    first | done | rfl
  · rintro r1 hx2
    rw [hx2]
    conv => lhs; cbv
    refine cC (fun hb3 => ?_) (fun hb3 => ?_)
    · rw [hb3]
      conv => lhs; cbv
      first | done | rfl
    · rw [hb3]
      conv => lhs; cbv
      first | done | rfl
def s_laws_szByteS (a0 : (List UInt8)) (a1 : Int) : Option (Int) := bif prims.cmp .lss (prims.arith .sub .i64 a1 (prims.int (prims.len (List.map eY a0)))) 0 then (some (-1)) else (some (prims.arith .sub .i64 a1 (prims.int (prims.len (List.map eY a0)))))
def Has_s_laws_szByteS (F : Fns) : Prop := ∀ (a0 : (List UInt8)) (a1 : Int), F 91 [.v (.sl 5 1 (List.map eY a0)), .v (.at (.int .i64 a1))] = (s_laws_szByteS a0 a1).bind fun r => some [.v (.at (.int .i64 r))]
set_option maxHeartbeats 40000000 in
theorem e_s_laws_szByteS (F : Fns) (a0 : (List UInt8)) (a1 : Int) : evBody prims (fun F lv => aloop F lv fuel) TY F ⟨Tryz.f91, Tryz.f91.body.getD .skip, fun _ => []⟩ [.v (.sl 5 1 (List.map eY a0)), .v (.at (.int .i64 a1))] = (s_laws_szByteS a0 a1).bind fun r => some [.v (.at (.int .i64 r))] := by
  obtain ⟨p, hp⟩ : ∃ p : Prims, p = prims := ⟨_, rfl⟩
  obtain ⟨m_byte, hm_byte⟩ : ∃ m, m = List.map eY := ⟨_, rfl⟩
  rw [← hp]
  rw [← hm_byte]
  obtain ⟨p_arith, p_cmp, p_wrap, p_scmp, p_scat, p_catOk, p_ssize, p_sat, p_ssub, p_bytes, p_str, p_bnot, p_beq, p_min, p_max, p_len, p_int, p_nth, p_sub, p_rsub, p_ridx, p_rnth, p_rset, p_rapp, p_rlen, p_addN, p_full, p_fits, p_frz, p_own, p_opn, p_lend, p_rmov, p_rout, p_both, p_yI, p_ofB, p_byW, p_mkN, p_rep, p_copy⟩ := p
  have h_arith : p_arith = prims.arith := congrArg Prims.arith hp
  have h_cmp : p_cmp = prims.cmp := congrArg Prims.cmp hp
  have h_int : p_int = prims.int := congrArg Prims.int hp
  have h_len : p_len = prims.len := congrArg Prims.len hp
  clear hp
  generalize hal : (fun (F : St → (Ex → St → Option (List Arg)) → Option (List Arg)) lv => aloop F lv fuel) = al
  rw [s_laws_szByteS, ← h_arith, ← h_cmp, ← h_int, ← h_len, ← hm_byte]
  conv => lhs; cbv
  refine cC (fun hb1 => ?_) (fun hb1 => ?_)
  · rw [hb1]
    conv => lhs; cbv
    first | done | rfl
  · rw [hb1]
    conv => lhs; cbv
    first | done | rfl
def s_laws_szPublication (a0 : DPublication) (a1 : Int) : Option (Int) := (s_laws_szName a0.publisher a1).bind fun r1 => bif prims.cmp .lss r1 0 then (some (-1)) else ((s_laws_szByteS a0.content r1).bind fun r4 => bif prims.cmp .lss r4 0 then (some (-1)) else (some r4))
def Has_s_laws_szPublication (F : Fns) : Prop := ∀ (a0 : DPublication) (a1 : Int), F 76 [.a [.sl 9 1 (List.map eS a0.publisher), .at (.int .i64 a0.seq), .sl 5 1 (List.map eY a0.content)], .v (.at (.int .i64 a1))] = (s_laws_szPublication a0 a1).bind fun r => some [.v (.at (.int .i64 r))]
set_option maxHeartbeats 40000000 in
theorem e_s_laws_szPublication (F : Fns) (hF_s_laws_szName : Has_s_laws_szName F) (hF_s_laws_szByteS : Has_s_laws_szByteS F) (a0 : DPublication) (a1 : Int) : evBody prims (fun F lv => aloop F lv fuel) TY F ⟨Tryz.f76, Tryz.f76.body.getD .skip, fun _ => []⟩ [.a [.sl 9 1 (List.map eS a0.publisher), .at (.int .i64 a0.seq), .sl 5 1 (List.map eY a0.content)], .v (.at (.int .i64 a1))] = (s_laws_szPublication a0 a1).bind fun r => some [.v (.at (.int .i64 r))] := by
  obtain ⟨p, hp⟩ : ∃ p : Prims, p = prims := ⟨_, rfl⟩
  obtain ⟨m_byte, hm_byte⟩ : ∃ m, m = List.map eY := ⟨_, rfl⟩
  obtain ⟨m_string, hm_string⟩ : ∃ m, m = List.map eS := ⟨_, rfl⟩
  rw [← hp]
  rw [← hm_byte, ← hm_string]
  obtain ⟨p_arith, p_cmp, p_wrap, p_scmp, p_scat, p_catOk, p_ssize, p_sat, p_ssub, p_bytes, p_str, p_bnot, p_beq, p_min, p_max, p_len, p_int, p_nth, p_sub, p_rsub, p_ridx, p_rnth, p_rset, p_rapp, p_rlen, p_addN, p_full, p_fits, p_frz, p_own, p_opn, p_lend, p_rmov, p_rout, p_both, p_yI, p_ofB, p_byW, p_mkN, p_rep, p_copy⟩ := p
  have h_cmp : p_cmp = prims.cmp := congrArg Prims.cmp hp
  clear hp
  unfold Has_s_laws_szName at hF_s_laws_szName
  rw [← hm_string] at hF_s_laws_szName
  unfold Has_s_laws_szByteS at hF_s_laws_szByteS
  rw [← hm_byte] at hF_s_laws_szByteS
  generalize hal : (fun (F : St → (Ex → St → Option (List Arg)) → Option (List Arg)) lv => aloop F lv fuel) = al
  rw [s_laws_szPublication, ← h_cmp]
  conv => lhs; cbv
  rw [hF_s_laws_szName a0.publisher a1]
  refine cO (fun hx2 => ?_) ?_
  · rw [hx2]
    first | done | rfl
  · rintro r1 hx2
    rw [hx2]
    conv => lhs; cbv
    refine cC (fun hb3 => ?_) (fun hb3 => ?_)
    · rw [hb3]
      conv => lhs; cbv
      first | done | rfl
    · rw [hb3]
      conv => lhs; cbv
      rw [hF_s_laws_szByteS a0.content r1]
      refine cO (fun hx5 => ?_) ?_
      · rw [hx5]
        first | done | rfl
      · rintro r4 hx5
        rw [hx5]
        conv => lhs; cbv
        refine cC (fun hb6 => ?_) (fun hb6 => ?_)
        · rw [hb6]
          conv => lhs; cbv
          first | done | rfl
        · rw [hb6]
          conv => lhs; cbv
          first | done | rfl
def s_laws_szPublicationS_l1 (a0 : (List DPublication)) : (Int × Int) → Option ((Int × Int) ⊕ ((Int × Int) ⊕ (Int)))
  | (v2, v3) => bif prims.cmp .lss v3 (prims.int (prims.len (List.map ePublication a0))) then ((nthI a0 v3).bind fun x5 => (s_laws_szPublication x5 v2).bind fun r7 => bif prims.cmp .lss r7 0 then (some (.inr (.inr ((-1))))) else (some (.inl (r7, prims.arith .add .i64 v3 1)))) else (some (.inr (.inl (v2, v3))))
def s_laws_szPublicationS (a0 : (List DPublication)) (a1 : Int) : Option (Int) := bif prims.cmp .lss (prims.arith .sub .i64 a1 (prims.int (prims.len (List.map ePublication a0)))) 0 then (some (-1)) else ((whileO (s_laws_szPublicationS_l1 a0) fuel (prims.arith .sub .i64 a1 (prims.int (prims.len (List.map ePublication a0))), 0)).bind fun g => match g with | .inl (w10, w11) => (some w10) | .inr (w12) => (some w12))
def Has_s_laws_szPublicationS (F : Fns) : Prop := ∀ (a0 : (List DPublication)) (a1 : Int), F 49 [.v (.sl 76 3 (List.map ePublication a0)), .v (.at (.int .i64 a1))] = (s_laws_szPublicationS a0 a1).bind fun r => some [.v (.at (.int .i64 r))]
set_option maxHeartbeats 40000000 in
theorem e_s_laws_szPublicationS (F : Fns) (hF_s_laws_szPublication : Has_s_laws_szPublication F) (a0 : (List DPublication)) (a1 : Int) : evBody prims (fun F lv => aloop F lv fuel) TY F ⟨Tryz.f49, Tryz.f49.body.getD .skip, fun id => if id = 5 then [0, 1, 5] else []⟩ [.v (.sl 76 3 (List.map ePublication a0)), .v (.at (.int .i64 a1))] = (s_laws_szPublicationS a0 a1).bind fun r => some [.v (.at (.int .i64 r))] := by
  obtain ⟨p, hp⟩ : ∃ p : Prims, p = prims := ⟨_, rfl⟩
  obtain ⟨m_Publication, hm_Publication⟩ : ∃ m, m = List.map ePublication := ⟨_, rfl⟩
  obtain ⟨m_byte, hm_byte⟩ : ∃ m, m = List.map eY := ⟨_, rfl⟩
  obtain ⟨m_string, hm_string⟩ : ∃ m, m = List.map eS := ⟨_, rfl⟩
  rw [← hp]
  rw [← hm_Publication]
  obtain ⟨p_arith, p_cmp, p_wrap, p_scmp, p_scat, p_catOk, p_ssize, p_sat, p_ssub, p_bytes, p_str, p_bnot, p_beq, p_min, p_max, p_len, p_int, p_nth, p_sub, p_rsub, p_ridx, p_rnth, p_rset, p_rapp, p_rlen, p_addN, p_full, p_fits, p_frz, p_own, p_opn, p_lend, p_rmov, p_rout, p_both, p_yI, p_ofB, p_byW, p_mkN, p_rep, p_copy⟩ := p
  have h_arith : p_arith = prims.arith := congrArg Prims.arith hp
  have h_cmp : p_cmp = prims.cmp := congrArg Prims.cmp hp
  have h_int : p_int = prims.int := congrArg Prims.int hp
  have h_len : p_len = prims.len := congrArg Prims.len hp
  have h_nth : p_nth = prims.nth := congrArg Prims.nth hp
  clear hp
  have nth_Publication := @nthF_Publication
  rw [← h_nth, ← hm_Publication, ← hm_byte, ← hm_string] at nth_Publication
  unfold Has_s_laws_szPublication at hF_s_laws_szPublication
  rw [← hm_byte, ← hm_string] at hF_s_laws_szPublication
  generalize hal : (fun (F : St → (Ex → St → Option (List Arg)) → Option (List Arg)) lv => aloop F lv fuel) = al
  rw [s_laws_szPublicationS, ← h_arith, ← h_cmp, ← h_int, ← h_len, ← hm_Publication]
  conv => lhs; cbv
  refine cC (fun hb1 => ?_) (fun hb1 => ?_)
  · rw [hb1]
    conv => lhs; cbv
    first | done | rfl
  · rw [hb1]
    conv => lhs; cbv
    refine (loop_al hal (fun x => match x with | (v2, v3) => ⟨[.c (.rd true 76 3 (m_Publication a0)), .c (.at (.int .i64 v2)), dd, dd, dd, .c (.at (.int .i64 v3)), dd, dd, dd, dd, dd, dd, dd, dd, dd, dd, dd, dd, dd, dd, dd, dd, dd, dd, dd, dd, dd], [], 1⟩) (s_laws_szPublicationS_l1 a0) (fun K g => match g with | .inl (v2, v3) => K (.exit 0) ⟨[.c (.rd true 76 3 (m_Publication a0)), .c (.at (.int .i64 v2)), dd, dd, dd, .c (.at (.int .i64 v3)), dd, dd, dd, dd, dd, dd, .c (.at (.int .i64 v3)), .c (.rd true 76 3 (m_Publication a0)), .c (.at (.int .i64 (p_int (p_len (m_Publication a0))))), .c (.at (.bool false)), dd, dd, dd, dd, dd, dd, dd, dd, dd, dd, dd], [], 2⟩ | .inr (r) => some [.v (.at (.int .i64 r))]) ?_ (p_arith .sub .i64 a1 (p_int (p_len (m_Publication a0))), 0) _ (rfl)).trans (cL ?_)
    · rintro K1 hr1 ⟨v2, v3⟩ R1
      rw [s_laws_szPublicationS_l1, ← h_arith, ← h_cmp, ← h_int, ← h_len, ← hm_Publication]
      conv => lhs; cbv
      refine cC (fun hb4 => ?_) (fun hb4 => ?_)
      · rw [hb4]
        conv => lhs; cbv
        rw [nth_Publication]
        refine cO (fun hx6 => ?_) ?_
        · rw [hx6]
          first | done | rfl
        · rintro x5 hx6
          rw [hx6]
          conv => lhs; cbv
          rw [hF_s_laws_szPublication x5 v2]
          refine cO (fun hx8 => ?_) ?_
          · rw [hx8]
            first | done | rfl
          · rintro r7 hx8
            rw [hx8]
            conv => lhs; cbv
            refine cC (fun hb9 => ?_) (fun hb9 => ?_)
            · rw [hb9]
              conv => lhs; cbv
              rw [hr1]
              conv => lhs; cbv
              first | done | rfl
            · rw [hb9]
              conv => lhs; cbv
              first | done | rfl
      · rw [hb4]
        conv => lhs; cbv
        first | done | rfl
    · rintro (⟨w10, w11⟩ | w12)
      · conv => lhs; cbv
        first | done | rfl
      · rfl
def s_laws_szMember (a0 : DMember) (a1 : Int) : Option (Int) := (s_laws_szName a0.name a1).bind fun r1 => bif prims.cmp .lss r1 0 then (some (-1)) else ((s_laws_szStateVector a0.vector r1).bind fun r4 => bif prims.cmp .lss r4 0 then (some (-1)) else ((s_laws_szPublicationS a0.publications r4).bind fun r7 => bif prims.cmp .lss r7 0 then (some (-1)) else (some r7)))
def Has_s_laws_szMember (F : Fns) : Prop := ∀ (a0 : DMember) (a1 : Int), F 24 [.a [.sl 9 1 (List.map eS a0.name), .sl 92 2 (List.map eTableEntry a0.vector), .sl 76 3 (List.map ePublication a0.publications)], .v (.at (.int .i64 a1))] = (s_laws_szMember a0 a1).bind fun r => some [.v (.at (.int .i64 r))]
set_option maxHeartbeats 40000000 in
theorem e_s_laws_szMember (F : Fns) (hF_s_laws_szName : Has_s_laws_szName F) (hF_s_laws_szStateVector : Has_s_laws_szStateVector F) (hF_s_laws_szPublicationS : Has_s_laws_szPublicationS F) (a0 : DMember) (a1 : Int) : evBody prims (fun F lv => aloop F lv fuel) TY F ⟨Tryz.f24, Tryz.f24.body.getD .skip, fun _ => []⟩ [.a [.sl 9 1 (List.map eS a0.name), .sl 92 2 (List.map eTableEntry a0.vector), .sl 76 3 (List.map ePublication a0.publications)], .v (.at (.int .i64 a1))] = (s_laws_szMember a0 a1).bind fun r => some [.v (.at (.int .i64 r))] := by
  obtain ⟨p, hp⟩ : ∃ p : Prims, p = prims := ⟨_, rfl⟩
  obtain ⟨m_Publication, hm_Publication⟩ : ∃ m, m = List.map ePublication := ⟨_, rfl⟩
  obtain ⟨m_TableEntry, hm_TableEntry⟩ : ∃ m, m = List.map eTableEntry := ⟨_, rfl⟩
  obtain ⟨m_string, hm_string⟩ : ∃ m, m = List.map eS := ⟨_, rfl⟩
  rw [← hp]
  rw [← hm_Publication, ← hm_TableEntry, ← hm_string]
  obtain ⟨p_arith, p_cmp, p_wrap, p_scmp, p_scat, p_catOk, p_ssize, p_sat, p_ssub, p_bytes, p_str, p_bnot, p_beq, p_min, p_max, p_len, p_int, p_nth, p_sub, p_rsub, p_ridx, p_rnth, p_rset, p_rapp, p_rlen, p_addN, p_full, p_fits, p_frz, p_own, p_opn, p_lend, p_rmov, p_rout, p_both, p_yI, p_ofB, p_byW, p_mkN, p_rep, p_copy⟩ := p
  have h_cmp : p_cmp = prims.cmp := congrArg Prims.cmp hp
  clear hp
  unfold Has_s_laws_szName at hF_s_laws_szName
  rw [← hm_string] at hF_s_laws_szName
  unfold Has_s_laws_szStateVector at hF_s_laws_szStateVector
  rw [← hm_TableEntry] at hF_s_laws_szStateVector
  unfold Has_s_laws_szPublicationS at hF_s_laws_szPublicationS
  rw [← hm_Publication] at hF_s_laws_szPublicationS
  generalize hal : (fun (F : St → (Ex → St → Option (List Arg)) → Option (List Arg)) lv => aloop F lv fuel) = al
  rw [s_laws_szMember, ← h_cmp]
  conv => lhs; cbv
  rw [hF_s_laws_szName a0.name a1]
  refine cO (fun hx2 => ?_) ?_
  · rw [hx2]
    first | done | rfl
  · rintro r1 hx2
    rw [hx2]
    conv => lhs; cbv
    refine cC (fun hb3 => ?_) (fun hb3 => ?_)
    · rw [hb3]
      conv => lhs; cbv
      first | done | rfl
    · rw [hb3]
      conv => lhs; cbv
      rw [hF_s_laws_szStateVector a0.vector r1]
      refine cO (fun hx5 => ?_) ?_
      · rw [hx5]
        first | done | rfl
      · rintro r4 hx5
        rw [hx5]
        conv => lhs; cbv
        refine cC (fun hb6 => ?_) (fun hb6 => ?_)
        · rw [hb6]
          conv => lhs; cbv
          first | done | rfl
        · rw [hb6]
          conv => lhs; cbv
          rw [hF_s_laws_szPublicationS a0.publications r4]
          refine cO (fun hx8 => ?_) ?_
          · rw [hx8]
            first | done | rfl
          · rintro r7 hx8
            rw [hx8]
            conv => lhs; cbv
            refine cC (fun hb9 => ?_) (fun hb9 => ?_)
            · rw [hb9]
              conv => lhs; cbv
              first | done | rfl
            · rw [hb9]
              conv => lhs; cbv
              first | done | rfl
def s_laws_szMemberS_l1 (a0 : (List DMember)) : (Int × Int) → Option ((Int × Int) ⊕ ((Int × Int) ⊕ (Int)))
  | (v2, v3) => bif prims.cmp .lss v3 (prims.int (prims.len (List.map eMember a0))) then ((nthI a0 v3).bind fun x5 => (s_laws_szMember x5 v2).bind fun r7 => bif prims.cmp .lss r7 0 then (some (.inr (.inr ((-1))))) else (some (.inl (r7, prims.arith .add .i64 v3 1)))) else (some (.inr (.inl (v2, v3))))
def s_laws_szMemberS (a0 : (List DMember)) (a1 : Int) : Option (Int) := bif prims.cmp .lss (prims.arith .sub .i64 a1 (prims.int (prims.len (List.map eMember a0)))) 0 then (some (-1)) else ((whileO (s_laws_szMemberS_l1 a0) fuel (prims.arith .sub .i64 a1 (prims.int (prims.len (List.map eMember a0))), 0)).bind fun g => match g with | .inl (w10, w11) => (some w10) | .inr (w12) => (some w12))
def Has_s_laws_szMemberS (F : Fns) : Prop := ∀ (a0 : (List DMember)) (a1 : Int), F 10 [.v (.sl 51 3 (List.map eMember a0)), .v (.at (.int .i64 a1))] = (s_laws_szMemberS a0 a1).bind fun r => some [.v (.at (.int .i64 r))]
set_option maxHeartbeats 40000000 in
theorem e_s_laws_szMemberS (F : Fns) (hF_s_laws_szMember : Has_s_laws_szMember F) (a0 : (List DMember)) (a1 : Int) : evBody prims (fun F lv => aloop F lv fuel) TY F ⟨Tryz.f10, Tryz.f10.body.getD .skip, fun id => if id = 5 then [0, 1, 5] else []⟩ [.v (.sl 51 3 (List.map eMember a0)), .v (.at (.int .i64 a1))] = (s_laws_szMemberS a0 a1).bind fun r => some [.v (.at (.int .i64 r))] := by
  obtain ⟨p, hp⟩ : ∃ p : Prims, p = prims := ⟨_, rfl⟩
  obtain ⟨m_Member, hm_Member⟩ : ∃ m, m = List.map eMember := ⟨_, rfl⟩
  obtain ⟨m_Publication, hm_Publication⟩ : ∃ m, m = List.map ePublication := ⟨_, rfl⟩
  obtain ⟨m_TableEntry, hm_TableEntry⟩ : ∃ m, m = List.map eTableEntry := ⟨_, rfl⟩
  obtain ⟨m_string, hm_string⟩ : ∃ m, m = List.map eS := ⟨_, rfl⟩
  rw [← hp]
  rw [← hm_Member]
  obtain ⟨p_arith, p_cmp, p_wrap, p_scmp, p_scat, p_catOk, p_ssize, p_sat, p_ssub, p_bytes, p_str, p_bnot, p_beq, p_min, p_max, p_len, p_int, p_nth, p_sub, p_rsub, p_ridx, p_rnth, p_rset, p_rapp, p_rlen, p_addN, p_full, p_fits, p_frz, p_own, p_opn, p_lend, p_rmov, p_rout, p_both, p_yI, p_ofB, p_byW, p_mkN, p_rep, p_copy⟩ := p
  have h_arith : p_arith = prims.arith := congrArg Prims.arith hp
  have h_cmp : p_cmp = prims.cmp := congrArg Prims.cmp hp
  have h_int : p_int = prims.int := congrArg Prims.int hp
  have h_len : p_len = prims.len := congrArg Prims.len hp
  have h_nth : p_nth = prims.nth := congrArg Prims.nth hp
  clear hp
  have nth_Member := @nthF_Member
  rw [← h_nth, ← hm_Member, ← hm_Publication, ← hm_TableEntry, ← hm_string] at nth_Member
  unfold Has_s_laws_szMember at hF_s_laws_szMember
  rw [← hm_Publication, ← hm_TableEntry, ← hm_string] at hF_s_laws_szMember
  generalize hal : (fun (F : St → (Ex → St → Option (List Arg)) → Option (List Arg)) lv => aloop F lv fuel) = al
  rw [s_laws_szMemberS, ← h_arith, ← h_cmp, ← h_int, ← h_len, ← hm_Member]
  conv => lhs; cbv
  refine cC (fun hb1 => ?_) (fun hb1 => ?_)
  · rw [hb1]
    conv => lhs; cbv
    first | done | rfl
  · rw [hb1]
    conv => lhs; cbv
    refine (loop_al hal (fun x => match x with | (v2, v3) => ⟨[.c (.rd true 51 3 (m_Member a0)), .c (.at (.int .i64 v2)), dd, dd, dd, .c (.at (.int .i64 v3)), dd, dd, dd, dd, dd, dd, dd, dd, dd, dd, dd, dd, dd, dd, dd, dd, dd, dd, dd, dd, dd], [], 1⟩) (s_laws_szMemberS_l1 a0) (fun K g => match g with | .inl (v2, v3) => K (.exit 0) ⟨[.c (.rd true 51 3 (m_Member a0)), .c (.at (.int .i64 v2)), dd, dd, dd, .c (.at (.int .i64 v3)), dd, dd, dd, dd, dd, dd, .c (.at (.int .i64 v3)), .c (.rd true 51 3 (m_Member a0)), .c (.at (.int .i64 (p_int (p_len (m_Member a0))))), .c (.at (.bool false)), dd, dd, dd, dd, dd, dd, dd, dd, dd, dd, dd], [], 2⟩ | .inr (r) => some [.v (.at (.int .i64 r))]) ?_ (p_arith .sub .i64 a1 (p_int (p_len (m_Member a0))), 0) _ (rfl)).trans (cL ?_)
    · rintro K1 hr1 ⟨v2, v3⟩ R1
      rw [s_laws_szMemberS_l1, ← h_arith, ← h_cmp, ← h_int, ← h_len, ← hm_Member]
      conv => lhs; cbv
      refine cC (fun hb4 => ?_) (fun hb4 => ?_)
      · rw [hb4]
        conv => lhs; cbv
        rw [nth_Member]
        refine cO (fun hx6 => ?_) ?_
        · rw [hx6]
          first | done | rfl
        · rintro x5 hx6
          rw [hx6]
          conv => lhs; cbv
          rw [hF_s_laws_szMember x5 v2]
          refine cO (fun hx8 => ?_) ?_
          · rw [hx8]
            first | done | rfl
          · rintro r7 hx8
            rw [hx8]
            conv => lhs; cbv
            refine cC (fun hb9 => ?_) (fun hb9 => ?_)
            · rw [hb9]
              conv => lhs; cbv
              rw [hr1]
              conv => lhs; cbv
              first | done | rfl
            · rw [hb9]
              conv => lhs; cbv
              first | done | rfl
      · rw [hb4]
        conv => lhs; cbv
        first | done | rfl
    · rintro (⟨w10, w11⟩ | w12)
      · conv => lhs; cbv
        first | done | rfl
      · rfl
def s_laws_szSyncGroup (a0 : DSyncGroup) (a1 : Int) : Option (Int) := (s_laws_szTopology a0.topology a1).bind fun r1 => bif prims.cmp .lss r1 0 then (some (-1)) else ((s_laws_szMemberS a0.members r1).bind fun r4 => bif prims.cmp .lss r4 0 then (some (-1)) else (some r4))
def Has_s_laws_szSyncGroup (F : Fns) : Prop := ∀ (a0 : DSyncGroup) (a1 : Int), F 4 [.a [.at (.int .i64 a0.topology.size), .sl 68 2 (List.map eLink a0.topology.links), .sl 51 3 (List.map eMember a0.members)], .v (.at (.int .i64 a1))] = (s_laws_szSyncGroup a0 a1).bind fun r => some [.v (.at (.int .i64 r))]
set_option maxHeartbeats 40000000 in
theorem e_s_laws_szSyncGroup (F : Fns) (hF_s_laws_szTopology : Has_s_laws_szTopology F) (hF_s_laws_szMemberS : Has_s_laws_szMemberS F) (a0 : DSyncGroup) (a1 : Int) : evBody prims (fun F lv => aloop F lv fuel) TY F ⟨Tryz.f4, Tryz.f4.body.getD .skip, fun _ => []⟩ [.a [.at (.int .i64 a0.topology.size), .sl 68 2 (List.map eLink a0.topology.links), .sl 51 3 (List.map eMember a0.members)], .v (.at (.int .i64 a1))] = (s_laws_szSyncGroup a0 a1).bind fun r => some [.v (.at (.int .i64 r))] := by
  obtain ⟨p, hp⟩ : ∃ p : Prims, p = prims := ⟨_, rfl⟩
  obtain ⟨m_Link, hm_Link⟩ : ∃ m, m = List.map eLink := ⟨_, rfl⟩
  obtain ⟨m_Member, hm_Member⟩ : ∃ m, m = List.map eMember := ⟨_, rfl⟩
  rw [← hp]
  rw [← hm_Link, ← hm_Member]
  obtain ⟨p_arith, p_cmp, p_wrap, p_scmp, p_scat, p_catOk, p_ssize, p_sat, p_ssub, p_bytes, p_str, p_bnot, p_beq, p_min, p_max, p_len, p_int, p_nth, p_sub, p_rsub, p_ridx, p_rnth, p_rset, p_rapp, p_rlen, p_addN, p_full, p_fits, p_frz, p_own, p_opn, p_lend, p_rmov, p_rout, p_both, p_yI, p_ofB, p_byW, p_mkN, p_rep, p_copy⟩ := p
  have h_cmp : p_cmp = prims.cmp := congrArg Prims.cmp hp
  clear hp
  unfold Has_s_laws_szTopology at hF_s_laws_szTopology
  rw [← hm_Link] at hF_s_laws_szTopology
  unfold Has_s_laws_szMemberS at hF_s_laws_szMemberS
  rw [← hm_Member] at hF_s_laws_szMemberS
  generalize hal : (fun (F : St → (Ex → St → Option (List Arg)) → Option (List Arg)) lv => aloop F lv fuel) = al
  rw [s_laws_szSyncGroup, ← h_cmp]
  conv => lhs; cbv
  rw [hF_s_laws_szTopology a0.topology a1]
  refine cO (fun hx2 => ?_) ?_
  · rw [hx2]
    first | done | rfl
  · rintro r1 hx2
    rw [hx2]
    conv => lhs; cbv
    refine cC (fun hb3 => ?_) (fun hb3 => ?_)
    · rw [hb3]
      conv => lhs; cbv
      first | done | rfl
    · rw [hb3]
      conv => lhs; cbv
      rw [hF_s_laws_szMemberS a0.members r1]
      refine cO (fun hx5 => ?_) ?_
      · rw [hx5]
        first | done | rfl
      · rintro r4 hx5
        rw [hx5]
        conv => lhs; cbv
        refine cC (fun hb6 => ?_) (fun hb6 => ?_)
        · rw [hb6]
          conv => lhs; cbv
          first | done | rfl
        · rw [hb6]
          conv => lhs; cbv
          first | done | rfl
def s_laws_toLink (a0 : DLink) : Option (DLink) := some a0
def Has_s_laws_toLink (F : Fns) : Prop := ∀ (a0 : DLink), F 54 [.a [.at (.int .i64 a0.a), .at (.int .i64 a0.b)]] = (s_laws_toLink a0).bind fun r => some [.a [.at (.int .i64 r.a), .at (.int .i64 r.b)]]
set_option maxHeartbeats 40000000 in
theorem e_s_laws_toLink (F : Fns) (a0 : DLink) : evBody prims (fun F lv => aloop F lv fuel) TY F ⟨Tryz.f54, Tryz.f54.body.getD .skip, fun _ => []⟩ [.a [.at (.int .i64 a0.a), .at (.int .i64 a0.b)]] = (s_laws_toLink a0).bind fun r => some [.a [.at (.int .i64 r.a), .at (.int .i64 r.b)]] := by
  obtain ⟨p, hp⟩ : ∃ p : Prims, p = prims := ⟨_, rfl⟩
  rw [← hp]
  obtain ⟨p_arith, p_cmp, p_wrap, p_scmp, p_scat, p_catOk, p_ssize, p_sat, p_ssub, p_bytes, p_str, p_bnot, p_beq, p_min, p_max, p_len, p_int, p_nth, p_sub, p_rsub, p_ridx, p_rnth, p_rset, p_rapp, p_rlen, p_addN, p_full, p_fits, p_frz, p_own, p_opn, p_lend, p_rmov, p_rout, p_both, p_yI, p_ofB, p_byW, p_mkN, p_rep, p_copy⟩ := p
  clear hp
  generalize hal : (fun (F : St → (Ex → St → Option (List Arg)) → Option (List Arg)) lv => aloop F lv fuel) = al
  rw [s_laws_toLink]
  conv => lhs; cbv
  first | done | rfl
def s_laws_toLinkS_l1 (a0 : (List DLink)) : (Int × (List DLink)) → Option ((Int × (List DLink)) ⊕ ((Int × (List DLink))))
  | (v3, v4) => bif prims.cmp .lss v3 (prims.int (prims.len (List.map eLink a0))) then ((nthI a0 v3).bind fun x6 => (s_laws_toLink x6).bind fun r8 => (prims.ridx 0 (prims.len (List.map eLink v4)) v3).bind fun x10 => (v4[x10]?).bind fun x12 => some (.inl (prims.arith .add .i64 v3 1, v4.set x10 r8))) else (some (.inr (v3, v4)))
def s_laws_toLinkS (a0 : (List DLink)) : Option ((List DLink)) := (mkSl ((⟨0, 0⟩ : DLink) : DLink) (prims.int (prims.len (List.map eLink a0))) (prims.int (prims.len (List.map eLink a0))) 16).bind fun x1 => (whileO (s_laws_toLinkS_l1 a0) fuel (0, x1)).bind fun ⟨w14, w15⟩ => some w15
def Has_s_laws_toLinkS (F : Fns) : Prop := ∀ (a0 : (List DLink)), F 34 [.v (.sl 68 2 (List.map eLink a0))] = (s_laws_toLinkS a0).bind fun r => some [.v (.sl 68 2 (List.map eLink r))]
set_option maxHeartbeats 40000000 in
theorem e_s_laws_toLinkS (F : Fns) (hF_s_laws_toLink : Has_s_laws_toLink F) (a0 : (List DLink)) : evBody prims (fun F lv => aloop F lv fuel) TY F ⟨Tryz.f34, Tryz.f34.body.getD .skip, fun id => if id = 3 then [0, 3, 4] else []⟩ [.v (.sl 68 2 (List.map eLink a0))] = (s_laws_toLinkS a0).bind fun r => some [.v (.sl 68 2 (List.map eLink r))] := by
  obtain ⟨p, hp⟩ : ∃ p : Prims, p = prims := ⟨_, rfl⟩
  obtain ⟨m_Link, hm_Link⟩ : ∃ m, m = List.map eLink := ⟨_, rfl⟩
  rw [← hp]
  rw [← hm_Link]
  obtain ⟨p_arith, p_cmp, p_wrap, p_scmp, p_scat, p_catOk, p_ssize, p_sat, p_ssub, p_bytes, p_str, p_bnot, p_beq, p_min, p_max, p_len, p_int, p_nth, p_sub, p_rsub, p_ridx, p_rnth, p_rset, p_rapp, p_rlen, p_addN, p_full, p_fits, p_frz, p_own, p_opn, p_lend, p_rmov, p_rout, p_both, p_yI, p_ofB, p_byW, p_mkN, p_rep, p_copy⟩ := p
  have h_arith : p_arith = prims.arith := congrArg Prims.arith hp
  have h_cmp : p_cmp = prims.cmp := congrArg Prims.cmp hp
  have h_full : p_full = prims.full := congrArg Prims.full hp
  have h_int : p_int = prims.int := congrArg Prims.int hp
  have h_len : p_len = prims.len := congrArg Prims.len hp
  have h_mkN : p_mkN = prims.mkN := congrArg Prims.mkN hp
  have h_nth : p_nth = prims.nth := congrArg Prims.nth hp
  have h_opn : p_opn = prims.opn := congrArg Prims.opn hp
  have h_own : p_own = prims.own := congrArg Prims.own hp
  have h_rep : p_rep = prims.rep := congrArg Prims.rep hp
  have h_ridx : p_ridx = prims.ridx := congrArg Prims.ridx hp
  have h_rnth : p_rnth = prims.rnth := congrArg Prims.rnth hp
  have h_rset : p_rset = prims.rset := congrArg Prims.rset hp
  clear hp
  have full_Link := @fullF_Link
  rw [← h_full, ← h_len, ← h_opn, ← hm_Link] at full_Link
  have lset_Link := @lsetF_Link
  rw [← h_len, ← hm_Link] at lset_Link
  have mkn_Link := @mknF_Link
  rw [← h_len, ← h_mkN, ← hm_Link] at mkn_Link
  have nth_Link := @nthF_Link
  rw [← h_nth, ← hm_Link] at nth_Link
  have own_Link := @ownF_Link
  rw [← h_opn, ← h_own, ← hm_Link] at own_Link
  have rep_Link := @repF_Link
  rw [← h_len, ← h_opn, ← h_rep, ← hm_Link] at rep_Link
  have rnth_Link := @rnthF_Link
  rw [← h_opn, ← h_rnth, ← hm_Link] at rnth_Link
  have rset_Link := @rsetF_Link
  rw [← h_opn, ← h_rset, ← hm_Link] at rset_Link
  unfold Has_s_laws_toLink at hF_s_laws_toLink
  generalize hal : (fun (F : St → (Ex → St → Option (List Arg)) → Option (List Arg)) lv => aloop F lv fuel) = al
  rw [s_laws_toLinkS, ← h_int, ← h_len, ← hm_Link]
  conv => lhs; cbv
  rw [mkn_Link]
  refine cO (fun hx2 => ?_) ?_
  · rw [hx2]
    first | done | rfl
  · rintro x1 hx2
    rw [hx2]
    conv => lhs; cbv
    rw [rep_Link _ _ _ hx2]
    conv => lhs; cbv
    refine (loop_al hal (fun x => match x with | (v3, v4) => ⟨[.c (.rd true 68 2 (m_Link a0)), dd, dd, .c (.row (0, 0, 0) 68 2 0 (p_len (m_Link v4))), .c (.at (.int .i64 v3)), dd, dd, dd, dd, dd, dd, dd, dd, dd, dd, dd, dd, dd, dd, dd, dd, dd, dd], [((0, 0, 0), ⟨true, false, 68, 2, p_opn (m_Link v4)⟩)], 1⟩) (s_laws_toLinkS_l1 a0) (fun K g => match g with | (v3, v4) => K (.exit 0) ⟨[.c (.rd true 68 2 (m_Link a0)), dd, dd, .c (.row (0, 0, 0) 68 2 0 (p_len (m_Link v4))), .c (.at (.int .i64 v3)), dd, dd, dd, .c (.at (.int .i64 v3)), .c (.rd true 68 2 (m_Link a0)), .c (.at (.int .i64 (p_int (p_len (m_Link a0))))), .c (.at (.bool false)), dd, dd, dd, dd, dd, dd, dd, dd, dd, dd, dd], [((0, 0, 0), ⟨true, false, 68, 2, p_opn (m_Link v4)⟩)], 2⟩) ?_ (0, x1) _ (rfl)).trans (cL ?_)
    · rintro K1 hr1 ⟨v3, v4⟩ R1
      rw [s_laws_toLinkS_l1, ← h_arith, ← h_cmp, ← h_int, ← h_len, ← h_ridx, ← hm_Link]
      conv => lhs; cbv
      refine cC (fun hb5 => ?_) (fun hb5 => ?_)
      · rw [hb5]
        conv => lhs; cbv
        rw [nth_Link]
        refine cO (fun hx7 => ?_) ?_
        · rw [hx7]
          first | done | rfl
        · rintro x6 hx7
          rw [hx7]
          conv => lhs; cbv
          rw [hF_s_laws_toLink x6]
          refine cO (fun hx9 => ?_) ?_
          · rw [hx9]
            first | done | rfl
          · rintro r8 hx9
            rw [hx9]
            conv => lhs; cbv
            refine cO (fun hx11 => ?_) ?_
            · rw [hx11]
              first | done | rfl
            · rintro x10 hx11
              rw [hx11]
              conv => lhs; cbv
              rw [rnth_Link]
              refine cO (fun hx13 => ?_) ?_
              · rw [hx13]
                first | done | rfl
              · rintro x12 hx13
                rw [hx13]
                conv => lhs; cbv
                rw [rset_Link]
                try conv => lhs; rw [← lset_Link v4 x10 r8]
                conv => lhs; cbv
                first | done | rfl
      · rw [hb5]
        conv => lhs; cbv
        first | done | rfl
    · rintro ⟨w14, w15⟩
      conv => lhs; cbv
      rw [if_pos (full_Link _)]
      conv => lhs; cbv
      rw [own_Link]
      conv => lhs; cbv
      first | done | rfl
def s_laws_toTopology (a0 : DTopology) : Option (DTopology) := (s_laws_toLinkS a0.links).bind fun r1 => some (⟨a0.size, r1⟩ : DTopology)
def Has_s_laws_toTopology (F : Fns) : Prop := ∀ (a0 : DTopology), F 15 [.a [.at (.int .i64 a0.size), .sl 68 2 (List.map eLink a0.links)]] = (s_laws_toTopology a0).bind fun r => some [.a [.at (.int .i64 r.size), .sl 68 2 (List.map eLink r.links)]]
set_option maxHeartbeats 40000000 in
theorem e_s_laws_toTopology (F : Fns) (hF_s_laws_toLinkS : Has_s_laws_toLinkS F) (a0 : DTopology) : evBody prims (fun F lv => aloop F lv fuel) TY F ⟨Tryz.f15, Tryz.f15.body.getD .skip, fun _ => []⟩ [.a [.at (.int .i64 a0.size), .sl 68 2 (List.map eLink a0.links)]] = (s_laws_toTopology a0).bind fun r => some [.a [.at (.int .i64 r.size), .sl 68 2 (List.map eLink r.links)]] := by
  obtain ⟨p, hp⟩ : ∃ p : Prims, p = prims := ⟨_, rfl⟩
  obtain ⟨m_Link, hm_Link⟩ : ∃ m, m = List.map eLink := ⟨_, rfl⟩
  rw [← hp]
  rw [← hm_Link]
  obtain ⟨p_arith, p_cmp, p_wrap, p_scmp, p_scat, p_catOk, p_ssize, p_sat, p_ssub, p_bytes, p_str, p_bnot, p_beq, p_min, p_max, p_len, p_int, p_nth, p_sub, p_rsub, p_ridx, p_rnth, p_rset, p_rapp, p_rlen, p_addN, p_full, p_fits, p_frz, p_own, p_opn, p_lend, p_rmov, p_rout, p_both, p_yI, p_ofB, p_byW, p_mkN, p_rep, p_copy⟩ := p
  have h_full : p_full = prims.full := congrArg Prims.full hp
  have h_len : p_len = prims.len := congrArg Prims.len hp
  have h_opn : p_opn = prims.opn := congrArg Prims.opn hp
  have h_own : p_own = prims.own := congrArg Prims.own hp
  clear hp
  have full_Link := @fullF_Link
  rw [← h_full, ← h_len, ← h_opn, ← hm_Link] at full_Link
  have own_Link := @ownF_Link
  rw [← h_opn, ← h_own, ← hm_Link] at own_Link
  unfold Has_s_laws_toLinkS at hF_s_laws_toLinkS
  rw [← hm_Link] at hF_s_laws_toLinkS
  generalize hal : (fun (F : St → (Ex → St → Option (List Arg)) → Option (List Arg)) lv => aloop F lv fuel) = al
  rw [s_laws_toTopology]
  conv => lhs; cbv
  rw [hF_s_laws_toLinkS a0.links]
  refine cO (fun hx2 => ?_) ?_
  · rw [hx2]
    first | done | rfl
  · rintro r1 hx2
    rw [hx2]
    conv => lhs; cbv
    rw [if_pos (full_Link _)]
    conv => lhs; cbv
    rw [own_Link]
    conv => lhs; cbv
    first | done | rfl
def s_laws_toStringS_l1 (a0 : (List ByteArray)) : (Int × (List ByteArray)) → Option ((Int × (List ByteArray)) ⊕ ((Int × (List ByteArray))))
  | (v3, v4) => bif prims.cmp .lss v3 (prims.int (prims.len (List.map eS a0))) then ((nthI a0 v3).bind fun x6 => (prims.ridx 0 (prims.len (List.map eS v4)) v3).bind fun x8 => (v4[x8]?).bind fun x10 => some (.inl (prims.arith .add .i64 v3 1, v4.set x8 x6))) else (some (.inr (v3, v4)))
def s_laws_toStringS (a0 : (List ByteArray)) : Option ((List ByteArray)) := (mkSl ((ByteArray.mk (Array.mk [])) : ByteArray) (prims.int (prims.len (List.map eS a0))) (prims.int (prims.len (List.map eS a0))) 16).bind fun x1 => (whileO (s_laws_toStringS_l1 a0) fuel (0, x1)).bind fun ⟨w12, w13⟩ => some w13
def Has_s_laws_toStringS (F : Fns) : Prop := ∀ (a0 : (List ByteArray)), F 78 [.v (.sl 9 1 (List.map eS a0))] = (s_laws_toStringS a0).bind fun r => some [.v (.sl 9 1 (List.map eS r))]
set_option maxHeartbeats 40000000 in
theorem e_s_laws_toStringS (F : Fns) (a0 : (List ByteArray)) : evBody prims (fun F lv => aloop F lv fuel) TY F ⟨Tryz.f78, Tryz.f78.body.getD .skip, fun id => if id = 3 then [0, 3, 4] else []⟩ [.v (.sl 9 1 (List.map eS a0))] = (s_laws_toStringS a0).bind fun r => some [.v (.sl 9 1 (List.map eS r))] := by
  obtain ⟨p, hp⟩ : ∃ p : Prims, p = prims := ⟨_, rfl⟩
  obtain ⟨m_string, hm_string⟩ : ∃ m, m = List.map eS := ⟨_, rfl⟩
  rw [← hp]
  rw [← hm_string]
  obtain ⟨p_arith, p_cmp, p_wrap, p_scmp, p_scat, p_catOk, p_ssize, p_sat, p_ssub, p_bytes, p_str, p_bnot, p_beq, p_min, p_max, p_len, p_int, p_nth, p_sub, p_rsub, p_ridx, p_rnth, p_rset, p_rapp, p_rlen, p_addN, p_full, p_fits, p_frz, p_own, p_opn, p_lend, p_rmov, p_rout, p_both, p_yI, p_ofB, p_byW, p_mkN, p_rep, p_copy⟩ := p
  have h_arith : p_arith = prims.arith := congrArg Prims.arith hp
  have h_cmp : p_cmp = prims.cmp := congrArg Prims.cmp hp
  have h_full : p_full = prims.full := congrArg Prims.full hp
  have h_int : p_int = prims.int := congrArg Prims.int hp
  have h_len : p_len = prims.len := congrArg Prims.len hp
  have h_mkN : p_mkN = prims.mkN := congrArg Prims.mkN hp
  have h_nth : p_nth = prims.nth := congrArg Prims.nth hp
  have h_opn : p_opn = prims.opn := congrArg Prims.opn hp
  have h_own : p_own = prims.own := congrArg Prims.own hp
  have h_rep : p_rep = prims.rep := congrArg Prims.rep hp
  have h_ridx : p_ridx = prims.ridx := congrArg Prims.ridx hp
  have h_rnth : p_rnth = prims.rnth := congrArg Prims.rnth hp
  have h_rset : p_rset = prims.rset := congrArg Prims.rset hp
  clear hp
  have full_string := @fullF_string
  rw [← h_full, ← h_len, ← h_opn, ← hm_string] at full_string
  have lset_string := @lsetF_string
  rw [← h_len, ← hm_string] at lset_string
  have mkn_string := @mknF_string
  rw [← h_len, ← h_mkN, ← hm_string] at mkn_string
  have nth_string := @nthF_string
  rw [← h_nth, ← hm_string] at nth_string
  have own_string := @ownF_string
  rw [← h_opn, ← h_own, ← hm_string] at own_string
  have rep_string := @repF_string
  rw [← h_len, ← h_opn, ← h_rep, ← hm_string] at rep_string
  have rnth_string := @rnthF_string
  rw [← h_opn, ← h_rnth, ← hm_string] at rnth_string
  have rset_string := @rsetF_string
  rw [← h_opn, ← h_rset, ← hm_string] at rset_string
  generalize hal : (fun (F : St → (Ex → St → Option (List Arg)) → Option (List Arg)) lv => aloop F lv fuel) = al
  rw [s_laws_toStringS, ← h_int, ← h_len, ← hm_string]
  conv => lhs; cbv
  rw [mkn_string]
  refine cO (fun hx2 => ?_) ?_
  · rw [hx2]
    first | done | rfl
  · rintro x1 hx2
    rw [hx2]
    conv => lhs; cbv
    rw [rep_string _ _ _ hx2]
    conv => lhs; cbv
    refine (loop_al hal (fun x => match x with | (v3, v4) => ⟨[.c (.rd true 9 1 (m_string a0)), dd, dd, .c (.row (0, 0, 0) 9 1 0 (p_len (m_string v4))), .c (.at (.int .i64 v3)), dd, dd, dd, dd, dd, dd, dd, dd, dd, dd, dd, dd, dd, dd, dd, dd, dd], [((0, 0, 0), ⟨true, false, 9, 1, p_opn (m_string v4)⟩)], 1⟩) (s_laws_toStringS_l1 a0) (fun K g => match g with | (v3, v4) => K (.exit 0) ⟨[.c (.rd true 9 1 (m_string a0)), dd, dd, .c (.row (0, 0, 0) 9 1 0 (p_len (m_string v4))), .c (.at (.int .i64 v3)), dd, dd, dd, .c (.at (.int .i64 v3)), .c (.rd true 9 1 (m_string a0)), .c (.at (.int .i64 (p_int (p_len (m_string a0))))), .c (.at (.bool false)), dd, dd, dd, dd, dd, dd, dd, dd, dd, dd], [((0, 0, 0), ⟨true, false, 9, 1, p_opn (m_string v4)⟩)], 2⟩) ?_ (0, x1) _ (rfl)).trans (cL ?_)
    · rintro K1 hr1 ⟨v3, v4⟩ R1
      rw [s_laws_toStringS_l1, ← h_arith, ← h_cmp, ← h_int, ← h_len, ← h_ridx, ← hm_string]
      conv => lhs; cbv
      refine cC (fun hb5 => ?_) (fun hb5 => ?_)
      · rw [hb5]
        conv => lhs; cbv
        rw [nth_string]
        refine cO (fun hx7 => ?_) ?_
        · rw [hx7]
          first | done | rfl
        · rintro x6 hx7
          rw [hx7]
          conv => lhs; cbv
          refine cO (fun hx9 => ?_) ?_
          · rw [hx9]
            first | done | rfl
          · rintro x8 hx9
            rw [hx9]
            conv => lhs; cbv
            rw [rnth_string]
            refine cO (fun hx11 => ?_) ?_
            · rw [hx11]
              first | done | rfl
            · rintro x10 hx11
              rw [hx11]
              conv => lhs; cbv
              rw [rset_string]
              try conv => lhs; rw [← lset_string v4 x8 x6]
              conv => lhs; cbv
              first | done | rfl
      · rw [hb5]
        conv => lhs; cbv
        first | done | rfl
    · rintro ⟨w12, w13⟩
      conv => lhs; cbv
      rw [if_pos (full_string _)]
      conv => lhs; cbv
      rw [own_string]
      conv => lhs; cbv
      first | done | rfl
def s_laws_toName (a0 : (List ByteArray)) : Option ((List ByteArray)) := (s_laws_toStringS a0).bind fun r1 => some r1
def Has_s_laws_toName (F : Fns) : Prop := ∀ (a0 : (List ByteArray)), F 55 [.a [.sl 9 1 (List.map eS a0)]] = (s_laws_toName a0).bind fun r => some [.a [.sl 9 1 (List.map eS r)]]
set_option maxHeartbeats 40000000 in
theorem e_s_laws_toName (F : Fns) (hF_s_laws_toStringS : Has_s_laws_toStringS F) (a0 : (List ByteArray)) : evBody prims (fun F lv => aloop F lv fuel) TY F ⟨Tryz.f55, Tryz.f55.body.getD .skip, fun _ => []⟩ [.a [.sl 9 1 (List.map eS a0)]] = (s_laws_toName a0).bind fun r => some [.a [.sl 9 1 (List.map eS r)]] := by
  obtain ⟨p, hp⟩ : ∃ p : Prims, p = prims := ⟨_, rfl⟩
  obtain ⟨m_string, hm_string⟩ : ∃ m, m = List.map eS := ⟨_, rfl⟩
  rw [← hp]
  rw [← hm_string]
  obtain ⟨p_arith, p_cmp, p_wrap, p_scmp, p_scat, p_catOk, p_ssize, p_sat, p_ssub, p_bytes, p_str, p_bnot, p_beq, p_min, p_max, p_len, p_int, p_nth, p_sub, p_rsub, p_ridx, p_rnth, p_rset, p_rapp, p_rlen, p_addN, p_full, p_fits, p_frz, p_own, p_opn, p_lend, p_rmov, p_rout, p_both, p_yI, p_ofB, p_byW, p_mkN, p_rep, p_copy⟩ := p
  have h_full : p_full = prims.full := congrArg Prims.full hp
  have h_len : p_len = prims.len := congrArg Prims.len hp
  have h_opn : p_opn = prims.opn := congrArg Prims.opn hp
  have h_own : p_own = prims.own := congrArg Prims.own hp
  clear hp
  have full_string := @fullF_string
  rw [← h_full, ← h_len, ← h_opn, ← hm_string] at full_string
  have own_string := @ownF_string
  rw [← h_opn, ← h_own, ← hm_string] at own_string
  unfold Has_s_laws_toStringS at hF_s_laws_toStringS
  rw [← hm_string] at hF_s_laws_toStringS
  generalize hal : (fun (F : St → (Ex → St → Option (List Arg)) → Option (List Arg)) lv => aloop F lv fuel) = al
  rw [s_laws_toName]
  conv => lhs; cbv
  rw [hF_s_laws_toStringS a0]
  refine cO (fun hx2 => ?_) ?_
  · rw [hx2]
    first | done | rfl
  · rintro r1 hx2
    rw [hx2]
    conv => lhs; cbv
    rw [if_pos (full_string _)]
    conv => lhs; cbv
    rw [own_string]
    conv => lhs; cbv
    first | done | rfl
def s_laws_toTableEntry (a0 : DTableEntry) : Option (DTableEntry) := (s_laws_toName a0.name).bind fun r1 => some (⟨r1, a0.value⟩ : DTableEntry)
def Has_s_laws_toTableEntry (F : Fns) : Prop := ∀ (a0 : DTableEntry), F 92 [.a [.sl 9 1 (List.map eS a0.name), .at (.int .i64 a0.value)]] = (s_laws_toTableEntry a0).bind fun r => some [.a [.sl 9 1 (List.map eS r.name), .at (.int .i64 r.value)]]
set_option maxHeartbeats 40000000 in
theorem e_s_laws_toTableEntry (F : Fns) (hF_s_laws_toName : Has_s_laws_toName F) (a0 : DTableEntry) : evBody prims (fun F lv => aloop F lv fuel) TY F ⟨Tryz.f92, Tryz.f92.body.getD .skip, fun _ => []⟩ [.a [.sl 9 1 (List.map eS a0.name), .at (.int .i64 a0.value)]] = (s_laws_toTableEntry a0).bind fun r => some [.a [.sl 9 1 (List.map eS r.name), .at (.int .i64 r.value)]] := by
  obtain ⟨p, hp⟩ : ∃ p : Prims, p = prims := ⟨_, rfl⟩
  obtain ⟨m_string, hm_string⟩ : ∃ m, m = List.map eS := ⟨_, rfl⟩
  rw [← hp]
  rw [← hm_string]
  obtain ⟨p_arith, p_cmp, p_wrap, p_scmp, p_scat, p_catOk, p_ssize, p_sat, p_ssub, p_bytes, p_str, p_bnot, p_beq, p_min, p_max, p_len, p_int, p_nth, p_sub, p_rsub, p_ridx, p_rnth, p_rset, p_rapp, p_rlen, p_addN, p_full, p_fits, p_frz, p_own, p_opn, p_lend, p_rmov, p_rout, p_both, p_yI, p_ofB, p_byW, p_mkN, p_rep, p_copy⟩ := p
  have h_full : p_full = prims.full := congrArg Prims.full hp
  have h_len : p_len = prims.len := congrArg Prims.len hp
  have h_opn : p_opn = prims.opn := congrArg Prims.opn hp
  have h_own : p_own = prims.own := congrArg Prims.own hp
  clear hp
  have full_string := @fullF_string
  rw [← h_full, ← h_len, ← h_opn, ← hm_string] at full_string
  have own_string := @ownF_string
  rw [← h_opn, ← h_own, ← hm_string] at own_string
  unfold Has_s_laws_toName at hF_s_laws_toName
  rw [← hm_string] at hF_s_laws_toName
  generalize hal : (fun (F : St → (Ex → St → Option (List Arg)) → Option (List Arg)) lv => aloop F lv fuel) = al
  rw [s_laws_toTableEntry]
  conv => lhs; cbv
  rw [hF_s_laws_toName a0.name]
  refine cO (fun hx2 => ?_) ?_
  · rw [hx2]
    first | done | rfl
  · rintro r1 hx2
    rw [hx2]
    conv => lhs; cbv
    rw [if_pos (full_string _)]
    conv => lhs; cbv
    rw [own_string]
    conv => lhs; cbv
    first | done | rfl
def s_laws_toTableEntryS_l1 (a0 : (List DTableEntry)) : (Int × (List DTableEntry)) → Option ((Int × (List DTableEntry)) ⊕ ((Int × (List DTableEntry))))
  | (v3, v4) => bif prims.cmp .lss v3 (prims.int (prims.len (List.map eTableEntry a0))) then ((nthI a0 v3).bind fun x6 => (s_laws_toTableEntry x6).bind fun r8 => (prims.ridx 0 (prims.len (List.map eTableEntry v4)) v3).bind fun x10 => (v4[x10]?).bind fun x12 => some (.inl (prims.arith .add .i64 v3 1, v4.set x10 r8))) else (some (.inr (v3, v4)))
def s_laws_toTableEntryS (a0 : (List DTableEntry)) : Option ((List DTableEntry)) := (mkSl ((⟨[], 0⟩ : DTableEntry) : DTableEntry) (prims.int (prims.len (List.map eTableEntry a0))) (prims.int (prims.len (List.map eTableEntry a0))) 32).bind fun x1 => (whileO (s_laws_toTableEntryS_l1 a0) fuel (0, x1)).bind fun ⟨w14, w15⟩ => some w15
def Has_s_laws_toTableEntryS (F : Fns) : Prop := ∀ (a0 : (List DTableEntry)), F 79 [.v (.sl 92 2 (List.map eTableEntry a0))] = (s_laws_toTableEntryS a0).bind fun r => some [.v (.sl 92 2 (List.map eTableEntry r))]
set_option maxHeartbeats 40000000 in
theorem e_s_laws_toTableEntryS (F : Fns) (hF_s_laws_toTableEntry : Has_s_laws_toTableEntry F) (a0 : (List DTableEntry)) : evBody prims (fun F lv => aloop F lv fuel) TY F ⟨Tryz.f79, Tryz.f79.body.getD .skip, fun id => if id = 3 then [0, 3, 4] else []⟩ [.v (.sl 92 2 (List.map eTableEntry a0))] = (s_laws_toTableEntryS a0).bind fun r => some [.v (.sl 92 2 (List.map eTableEntry r))] := by
  obtain ⟨p, hp⟩ : ∃ p : Prims, p = prims := ⟨_, rfl⟩
  obtain ⟨m_TableEntry, hm_TableEntry⟩ : ∃ m, m = List.map eTableEntry := ⟨_, rfl⟩
  obtain ⟨m_string, hm_string⟩ : ∃ m, m = List.map eS := ⟨_, rfl⟩
  rw [← hp]
  rw [← hm_TableEntry]
  obtain ⟨p_arith, p_cmp, p_wrap, p_scmp, p_scat, p_catOk, p_ssize, p_sat, p_ssub, p_bytes, p_str, p_bnot, p_beq, p_min, p_max, p_len, p_int, p_nth, p_sub, p_rsub, p_ridx, p_rnth, p_rset, p_rapp, p_rlen, p_addN, p_full, p_fits, p_frz, p_own, p_opn, p_lend, p_rmov, p_rout, p_both, p_yI, p_ofB, p_byW, p_mkN, p_rep, p_copy⟩ := p
  have h_arith : p_arith = prims.arith := congrArg Prims.arith hp
  have h_cmp : p_cmp = prims.cmp := congrArg Prims.cmp hp
  have h_full : p_full = prims.full := congrArg Prims.full hp
  have h_int : p_int = prims.int := congrArg Prims.int hp
  have h_len : p_len = prims.len := congrArg Prims.len hp
  have h_mkN : p_mkN = prims.mkN := congrArg Prims.mkN hp
  have h_nth : p_nth = prims.nth := congrArg Prims.nth hp
  have h_opn : p_opn = prims.opn := congrArg Prims.opn hp
  have h_own : p_own = prims.own := congrArg Prims.own hp
  have h_rep : p_rep = prims.rep := congrArg Prims.rep hp
  have h_ridx : p_ridx = prims.ridx := congrArg Prims.ridx hp
  have h_rnth : p_rnth = prims.rnth := congrArg Prims.rnth hp
  have h_rset : p_rset = prims.rset := congrArg Prims.rset hp
  clear hp
  have full_TableEntry := @fullF_TableEntry
  rw [← h_full, ← h_len, ← h_opn, ← hm_TableEntry] at full_TableEntry
  have full_string := @fullF_string
  rw [← h_full, ← h_len, ← h_opn, ← hm_string] at full_string
  have lset_TableEntry := @lsetF_TableEntry
  rw [← h_len, ← hm_TableEntry] at lset_TableEntry
  have mkn_TableEntry := @mknF_TableEntry
  rw [← h_len, ← h_mkN, ← hm_TableEntry] at mkn_TableEntry
  have nth_TableEntry := @nthF_TableEntry
  rw [← h_nth, ← hm_TableEntry, ← hm_string] at nth_TableEntry
  have own_TableEntry := @ownF_TableEntry
  rw [← h_opn, ← h_own, ← hm_TableEntry] at own_TableEntry
  have own_string := @ownF_string
  rw [← h_opn, ← h_own, ← hm_string] at own_string
  have rep_TableEntry := @repF_TableEntry
  rw [← h_len, ← h_opn, ← h_rep, ← hm_TableEntry] at rep_TableEntry
  have rnth_TableEntry := @rnthF_TableEntry
  rw [← h_opn, ← h_rnth, ← hm_TableEntry, ← hm_string] at rnth_TableEntry
  have rset_TableEntry := @rsetF_TableEntry
  rw [← h_opn, ← h_rset, ← hm_TableEntry, ← hm_string] at rset_TableEntry
  unfold Has_s_laws_toTableEntry at hF_s_laws_toTableEntry
  rw [← hm_string] at hF_s_laws_toTableEntry
  generalize hal : (fun (F : St → (Ex → St → Option (List Arg)) → Option (List Arg)) lv => aloop F lv fuel) = al
  rw [s_laws_toTableEntryS, ← h_int, ← h_len, ← hm_TableEntry]
  conv => lhs; cbv
  rw [mkn_TableEntry]
  refine cO (fun hx2 => ?_) ?_
  · rw [hx2]
    first | done | rfl
  · rintro x1 hx2
    rw [hx2]
    conv => lhs; cbv
    rw [rep_TableEntry _ _ _ hx2]
    conv => lhs; cbv
    refine (loop_al hal (fun x => match x with | (v3, v4) => ⟨[.c (.rd true 92 2 (m_TableEntry a0)), dd, dd, .c (.row (0, 0, 0) 92 2 0 (p_len (m_TableEntry v4))), .c (.at (.int .i64 v3)), dd, dd, dd, dd, dd, dd, dd, dd, dd, dd, dd, dd, dd, dd, dd, dd, dd, dd], [((0, 0, 0), ⟨true, false, 92, 2, p_opn (m_TableEntry v4)⟩)], 1⟩) (s_laws_toTableEntryS_l1 a0) (fun K g => match g with | (v3, v4) => K (.exit 0) ⟨[.c (.rd true 92 2 (m_TableEntry a0)), dd, dd, .c (.row (0, 0, 0) 92 2 0 (p_len (m_TableEntry v4))), .c (.at (.int .i64 v3)), dd, dd, dd, .c (.at (.int .i64 v3)), .c (.rd true 92 2 (m_TableEntry a0)), .c (.at (.int .i64 (p_int (p_len (m_TableEntry a0))))), .c (.at (.bool false)), dd, dd, dd, dd, dd, dd, dd, dd, dd, dd, dd], [((0, 0, 0), ⟨true, false, 92, 2, p_opn (m_TableEntry v4)⟩)], 2⟩) ?_ (0, x1) _ (rfl)).trans (cL ?_)
    · rintro K1 hr1 ⟨v3, v4⟩ R1
      rw [s_laws_toTableEntryS_l1, ← h_arith, ← h_cmp, ← h_int, ← h_len, ← h_ridx, ← hm_TableEntry]
      conv => lhs; cbv
      refine cC (fun hb5 => ?_) (fun hb5 => ?_)
      · rw [hb5]
        conv => lhs; cbv
        rw [nth_TableEntry]
        refine cO (fun hx7 => ?_) ?_
        · rw [hx7]
          first | done | rfl
        · rintro x6 hx7
          rw [hx7]
          conv => lhs; cbv
          rw [hF_s_laws_toTableEntry x6]
          refine cO (fun hx9 => ?_) ?_
          · rw [hx9]
            first | done | rfl
          · rintro r8 hx9
            rw [hx9]
            conv => lhs; cbv
            refine cO (fun hx11 => ?_) ?_
            · rw [hx11]
              first | done | rfl
            · rintro x10 hx11
              rw [hx11]
              conv => lhs; cbv
              rw [rnth_TableEntry]
              refine cO (fun hx13 => ?_) ?_
              · rw [hx13]
                first | done | rfl
              · rintro x12 hx13
                rw [hx13]
                conv => lhs; cbv
                rw [if_pos (full_string _)]
                conv => lhs; cbv
                rw [own_string]
                conv => lhs; cbv
                rw [rset_TableEntry]
                try conv => lhs; rw [← lset_TableEntry v4 x10 r8]
                conv => lhs; cbv
                first | done | rfl
      · rw [hb5]
        conv => lhs; cbv
        first | done | rfl
    · rintro ⟨w14, w15⟩
      conv => lhs; cbv
      rw [if_pos (full_TableEntry _)]
      conv => lhs; cbv
      rw [own_TableEntry]
      conv => lhs; cbv
      first | done | rfl
def s_laws_toStateVector (a0 : (List DTableEntry)) : Option ((List DTableEntry)) := (s_laws_toTableEntryS a0).bind fun r1 => some r1
def Has_s_laws_toStateVector (F : Fns) : Prop := ∀ (a0 : (List DTableEntry)), F 56 [.a [.sl 92 2 (List.map eTableEntry a0)]] = (s_laws_toStateVector a0).bind fun r => some [.a [.sl 92 2 (List.map eTableEntry r)]]
set_option maxHeartbeats 40000000 in
theorem e_s_laws_toStateVector (F : Fns) (hF_s_laws_toTableEntryS : Has_s_laws_toTableEntryS F) (a0 : (List DTableEntry)) : evBody prims (fun F lv => aloop F lv fuel) TY F ⟨Tryz.f56, Tryz.f56.body.getD .skip, fun _ => []⟩ [.a [.sl 92 2 (List.map eTableEntry a0)]] = (s_laws_toStateVector a0).bind fun r => some [.a [.sl 92 2 (List.map eTableEntry r)]] := by
  obtain ⟨p, hp⟩ : ∃ p : Prims, p = prims := ⟨_, rfl⟩
  obtain ⟨m_TableEntry, hm_TableEntry⟩ : ∃ m, m = List.map eTableEntry := ⟨_, rfl⟩
  rw [← hp]
  rw [← hm_TableEntry]
  obtain ⟨p_arith, p_cmp, p_wrap, p_scmp, p_scat, p_catOk, p_ssize, p_sat, p_ssub, p_bytes, p_str, p_bnot, p_beq, p_min, p_max, p_len, p_int, p_nth, p_sub, p_rsub, p_ridx, p_rnth, p_rset, p_rapp, p_rlen, p_addN, p_full, p_fits, p_frz, p_own, p_opn, p_lend, p_rmov, p_rout, p_both, p_yI, p_ofB, p_byW, p_mkN, p_rep, p_copy⟩ := p
  have h_full : p_full = prims.full := congrArg Prims.full hp
  have h_len : p_len = prims.len := congrArg Prims.len hp
  have h_opn : p_opn = prims.opn := congrArg Prims.opn hp
  have h_own : p_own = prims.own := congrArg Prims.own hp
  clear hp
  have full_TableEntry := @fullF_TableEntry
  rw [← h_full, ← h_len, ← h_opn, ← hm_TableEntry] at full_TableEntry
  have own_TableEntry := @ownF_TableEntry
  rw [← h_opn, ← h_own, ← hm_TableEntry] at own_TableEntry
  unfold Has_s_laws_toTableEntryS at hF_s_laws_toTableEntryS
  rw [← hm_TableEntry] at hF_s_laws_toTableEntryS
  generalize hal : (fun (F : St → (Ex → St → Option (List Arg)) → Option (List Arg)) lv => aloop F lv fuel) = al
  rw [s_laws_toStateVector]
  conv => lhs; cbv
  rw [hF_s_laws_toTableEntryS a0]
  refine cO (fun hx2 => ?_) ?_
  · rw [hx2]
    first | done | rfl
  · rintro r1 hx2
    rw [hx2]
    conv => lhs; cbv
    rw [if_pos (full_TableEntry _)]
    conv => lhs; cbv
    rw [own_TableEntry]
    conv => lhs; cbv
    first | done | rfl
def s_laws_toByteS_l1 (a0 : (List UInt8)) : (Int × (List UInt8)) → Option ((Int × (List UInt8)) ⊕ ((Int × (List UInt8))))
  | (v3, v4) => bif prims.cmp .lss v3 (prims.int (prims.len (List.map eY a0))) then ((nthI a0 v3).bind fun x6 => (prims.ridx 0 (prims.len (List.map eY v4)) v3).bind fun x8 => (v4[x8]?).bind fun x10 => some (.inl (prims.arith .add .i64 v3 1, v4.set x8 x6))) else (some (.inr (v3, v4)))
def s_laws_toByteS (a0 : (List UInt8)) : Option ((List UInt8)) := (mkSl (0 : UInt8) (prims.int (prims.len (List.map eY a0))) (prims.int (prims.len (List.map eY a0))) 1).bind fun x1 => (whileO (s_laws_toByteS_l1 a0) fuel (0, x1)).bind fun ⟨w12, w13⟩ => some w13
def Has_s_laws_toByteS (F : Fns) : Prop := ∀ (a0 : (List UInt8)), F 93 [.v (.sl 5 1 (List.map eY a0))] = (s_laws_toByteS a0).bind fun r => some [.v (.sl 5 1 (List.map eY r))]
set_option maxHeartbeats 40000000 in
theorem e_s_laws_toByteS (F : Fns) (a0 : (List UInt8)) : evBody prims (fun F lv => aloop F lv fuel) TY F ⟨Tryz.f93, Tryz.f93.body.getD .skip, fun id => if id = 3 then [0, 3, 4] else []⟩ [.v (.sl 5 1 (List.map eY a0))] = (s_laws_toByteS a0).bind fun r => some [.v (.sl 5 1 (List.map eY r))] := by
  obtain ⟨p, hp⟩ : ∃ p : Prims, p = prims := ⟨_, rfl⟩
  obtain ⟨m_byte, hm_byte⟩ : ∃ m, m = List.map eY := ⟨_, rfl⟩
  rw [← hp]
  rw [← hm_byte]
  obtain ⟨p_arith, p_cmp, p_wrap, p_scmp, p_scat, p_catOk, p_ssize, p_sat, p_ssub, p_bytes, p_str, p_bnot, p_beq, p_min, p_max, p_len, p_int, p_nth, p_sub, p_rsub, p_ridx, p_rnth, p_rset, p_rapp, p_rlen, p_addN, p_full, p_fits, p_frz, p_own, p_opn, p_lend, p_rmov, p_rout, p_both, p_yI, p_ofB, p_byW, p_mkN, p_rep, p_copy⟩ := p
  have h_arith : p_arith = prims.arith := congrArg Prims.arith hp
  have h_cmp : p_cmp = prims.cmp := congrArg Prims.cmp hp
  have h_full : p_full = prims.full := congrArg Prims.full hp
  have h_int : p_int = prims.int := congrArg Prims.int hp
  have h_len : p_len = prims.len := congrArg Prims.len hp
  have h_mkN : p_mkN = prims.mkN := congrArg Prims.mkN hp
  have h_nth : p_nth = prims.nth := congrArg Prims.nth hp
  have h_opn : p_opn = prims.opn := congrArg Prims.opn hp
  have h_own : p_own = prims.own := congrArg Prims.own hp
  have h_rep : p_rep = prims.rep := congrArg Prims.rep hp
  have h_ridx : p_ridx = prims.ridx := congrArg Prims.ridx hp
  have h_rnth : p_rnth = prims.rnth := congrArg Prims.rnth hp
  have h_rset : p_rset = prims.rset := congrArg Prims.rset hp
  have h_yI : p_yI = prims.yI := congrArg Prims.yI hp
  clear hp
  have full_byte := @fullF_byte
  rw [← h_full, ← h_len, ← h_opn, ← hm_byte] at full_byte
  have lset_byte := @lsetF_byte
  rw [← h_len, ← hm_byte] at lset_byte
  have mkn_byte := @mknF_byte
  rw [← h_len, ← h_mkN, ← hm_byte] at mkn_byte
  have nth_byte := @nthF_byte
  rw [← h_nth, ← h_yI, ← hm_byte] at nth_byte
  have own_byte := @ownF_byte
  rw [← h_opn, ← h_own, ← hm_byte] at own_byte
  have rep_byte := @repF_byte
  rw [← h_len, ← h_opn, ← h_rep, ← hm_byte] at rep_byte
  have rnth_byte := @rnthF_byte
  rw [← h_opn, ← h_rnth, ← h_yI, ← hm_byte] at rnth_byte
  have rset_byte := @rsetF_byte
  rw [← h_opn, ← h_rset, ← h_yI, ← hm_byte] at rset_byte
  generalize hal : (fun (F : St → (Ex → St → Option (List Arg)) → Option (List Arg)) lv => aloop F lv fuel) = al
  rw [s_laws_toByteS, ← h_int, ← h_len, ← hm_byte]
  conv => lhs; cbv
  rw [mkn_byte]
  refine cO (fun hx2 => ?_) ?_
  · rw [hx2]
    first | done | rfl
  · rintro x1 hx2
    rw [hx2]
    conv => lhs; cbv
    rw [rep_byte _ _ _ hx2]
    conv => lhs; cbv
    refine (loop_al hal (fun x => match x with | (v3, v4) => ⟨[.c (.rd true 5 1 (m_byte a0)), dd, dd, .c (.row (0, 0, 0) 5 1 0 (p_len (m_byte v4))), .c (.at (.int .i64 v3)), dd, dd, dd, dd, dd, dd, dd, dd, dd, dd, dd, dd, dd, dd, dd, dd, dd], [((0, 0, 0), ⟨true, false, 5, 1, p_opn (m_byte v4)⟩)], 1⟩) (s_laws_toByteS_l1 a0) (fun K g => match g with | (v3, v4) => K (.exit 0) ⟨[.c (.rd true 5 1 (m_byte a0)), dd, dd, .c (.row (0, 0, 0) 5 1 0 (p_len (m_byte v4))), .c (.at (.int .i64 v3)), dd, dd, dd, .c (.at (.int .i64 v3)), .c (.rd true 5 1 (m_byte a0)), .c (.at (.int .i64 (p_int (p_len (m_byte a0))))), .c (.at (.bool false)), dd, dd, dd, dd, dd, dd, dd, dd, dd, dd], [((0, 0, 0), ⟨true, false, 5, 1, p_opn (m_byte v4)⟩)], 2⟩) ?_ (0, x1) _ (rfl)).trans (cL ?_)
    · rintro K1 hr1 ⟨v3, v4⟩ R1
      rw [s_laws_toByteS_l1, ← h_arith, ← h_cmp, ← h_int, ← h_len, ← h_ridx, ← hm_byte]
      conv => lhs; cbv
      refine cC (fun hb5 => ?_) (fun hb5 => ?_)
      · rw [hb5]
        conv => lhs; cbv
        rw [nth_byte]
        refine cO (fun hx7 => ?_) ?_
        · rw [hx7]
          first | done | rfl
        · rintro x6 hx7
          rw [hx7]
          conv => lhs; cbv
          refine cO (fun hx9 => ?_) ?_
          · rw [hx9]
            first | done | rfl
          · rintro x8 hx9
            rw [hx9]
            conv => lhs; cbv
            rw [rnth_byte]
            refine cO (fun hx11 => ?_) ?_
            · rw [hx11]
              first | done | rfl
            · rintro x10 hx11
              rw [hx11]
              conv => lhs; cbv
              rw [rset_byte]
              try conv => lhs; rw [← lset_byte v4 x8 x6]
              conv => lhs; cbv
              first | done | rfl
      · rw [hb5]
        conv => lhs; cbv
        first | done | rfl
    · rintro ⟨w12, w13⟩
      conv => lhs; cbv
      rw [if_pos (full_byte _)]
      conv => lhs; cbv
      rw [own_byte]
      conv => lhs; cbv
      first | done | rfl
def s_laws_toPublication (a0 : DPublication) : Option (DPublication) := (s_laws_toName a0.publisher).bind fun r1 => (s_laws_toByteS a0.content).bind fun r3 => some (⟨r1, a0.seq, r3⟩ : DPublication)
def Has_s_laws_toPublication (F : Fns) : Prop := ∀ (a0 : DPublication), F 80 [.a [.sl 9 1 (List.map eS a0.publisher), .at (.int .i64 a0.seq), .sl 5 1 (List.map eY a0.content)]] = (s_laws_toPublication a0).bind fun r => some [.a [.sl 9 1 (List.map eS r.publisher), .at (.int .i64 r.seq), .sl 5 1 (List.map eY r.content)]]
set_option maxHeartbeats 40000000 in
theorem e_s_laws_toPublication (F : Fns) (hF_s_laws_toName : Has_s_laws_toName F) (hF_s_laws_toByteS : Has_s_laws_toByteS F) (a0 : DPublication) : evBody prims (fun F lv => aloop F lv fuel) TY F ⟨Tryz.f80, Tryz.f80.body.getD .skip, fun _ => []⟩ [.a [.sl 9 1 (List.map eS a0.publisher), .at (.int .i64 a0.seq), .sl 5 1 (List.map eY a0.content)]] = (s_laws_toPublication a0).bind fun r => some [.a [.sl 9 1 (List.map eS r.publisher), .at (.int .i64 r.seq), .sl 5 1 (List.map eY r.content)]] := by
  obtain ⟨p, hp⟩ : ∃ p : Prims, p = prims := ⟨_, rfl⟩
  obtain ⟨m_byte, hm_byte⟩ : ∃ m, m = List.map eY := ⟨_, rfl⟩
  obtain ⟨m_string, hm_string⟩ : ∃ m, m = List.map eS := ⟨_, rfl⟩
  rw [← hp]
  rw [← hm_byte, ← hm_string]
  obtain ⟨p_arith, p_cmp, p_wrap, p_scmp, p_scat, p_catOk, p_ssize, p_sat, p_ssub, p_bytes, p_str, p_bnot, p_beq, p_min, p_max, p_len, p_int, p_nth, p_sub, p_rsub, p_ridx, p_rnth, p_rset, p_rapp, p_rlen, p_addN, p_full, p_fits, p_frz, p_own, p_opn, p_lend, p_rmov, p_rout, p_both, p_yI, p_ofB, p_byW, p_mkN, p_rep, p_copy⟩ := p
  have h_full : p_full = prims.full := congrArg Prims.full hp
  have h_len : p_len = prims.len := congrArg Prims.len hp
  have h_opn : p_opn = prims.opn := congrArg Prims.opn hp
  have h_own : p_own = prims.own := congrArg Prims.own hp
  clear hp
  have full_byte := @fullF_byte
  rw [← h_full, ← h_len, ← h_opn, ← hm_byte] at full_byte
  have full_string := @fullF_string
  rw [← h_full, ← h_len, ← h_opn, ← hm_string] at full_string
  have own_byte := @ownF_byte
  rw [← h_opn, ← h_own, ← hm_byte] at own_byte
  have own_string := @ownF_string
  rw [← h_opn, ← h_own, ← hm_string] at own_string
  unfold Has_s_laws_toName at hF_s_laws_toName
  rw [← hm_string] at hF_s_laws_toName
  unfold Has_s_laws_toByteS at hF_s_laws_toByteS
  rw [← hm_byte] at hF_s_laws_toByteS
  generalize hal : (fun (F : St → (Ex → St → Option (List Arg)) → Option (List Arg)) lv => aloop F lv fuel) = al
  rw [s_laws_toPublication]
  conv => lhs; cbv
  rw [hF_s_laws_toName a0.publisher]
  refine cO (fun hx2 => ?_) ?_
  · rw [hx2]
    first | done | rfl
  · rintro r1 hx2
    rw [hx2]
    conv => lhs; cbv
    rw [hF_s_laws_toByteS a0.content]
    refine cO (fun hx4 => ?_) ?_
    · rw [hx4]
      first | done | rfl
    · rintro r3 hx4
      rw [hx4]
      conv => lhs; cbv
      rw [if_pos (full_string _)]
      conv => lhs; cbv
      rw [own_string]
      conv => lhs; cbv
      rw [if_pos (full_byte _)]
      conv => lhs; cbv
      rw [own_byte]
      conv => lhs; cbv
      first | done | rfl
def s_laws_toPublicationS_l1 (a0 : (List DPublication)) : (Int × (List DPublication)) → Option ((Int × (List DPublication)) ⊕ ((Int × (List DPublication))))
  | (v3, v4) => bif prims.cmp .lss v3 (prims.int (prims.len (List.map ePublication a0))) then ((nthI a0 v3).bind fun x6 => (s_laws_toPublication x6).bind fun r8 => (prims.ridx 0 (prims.len (List.map ePublication v4)) v3).bind fun x10 => (v4[x10]?).bind fun x12 => some (.inl (prims.arith .add .i64 v3 1, v4.set x10 r8))) else (some (.inr (v3, v4)))
def s_laws_toPublicationS (a0 : (List DPublication)) : Option ((List DPublication)) := (mkSl ((⟨[], 0, []⟩ : DPublication) : DPublication) (prims.int (prims.len (List.map ePublication a0))) (prims.int (prims.len (List.map ePublication a0))) 56).bind fun x1 => (whileO (s_laws_toPublicationS_l1 a0) fuel (0, x1)).bind fun ⟨w14, w15⟩ => some w15
def Has_s_laws_toPublicationS (F : Fns) : Prop := ∀ (a0 : (List DPublication)), F 57 [.v (.sl 76 3 (List.map ePublication a0))] = (s_laws_toPublicationS a0).bind fun r => some [.v (.sl 76 3 (List.map ePublication r))]
set_option maxHeartbeats 40000000 in
theorem e_s_laws_toPublicationS (F : Fns) (hF_s_laws_toPublication : Has_s_laws_toPublication F) (a0 : (List DPublication)) : evBody prims (fun F lv => aloop F lv fuel) TY F ⟨Tryz.f57, Tryz.f57.body.getD .skip, fun id => if id = 3 then [0, 3, 4] else []⟩ [.v (.sl 76 3 (List.map ePublication a0))] = (s_laws_toPublicationS a0).bind fun r => some [.v (.sl 76 3 (List.map ePublication r))] := by
  obtain ⟨p, hp⟩ : ∃ p : Prims, p = prims := ⟨_, rfl⟩
  obtain ⟨m_Publication, hm_Publication⟩ : ∃ m, m = List.map ePublication := ⟨_, rfl⟩
  obtain ⟨m_byte, hm_byte⟩ : ∃ m, m = List.map eY := ⟨_, rfl⟩
  obtain ⟨m_string, hm_string⟩ : ∃ m, m = List.map eS := ⟨_, rfl⟩
  rw [← hp]
  rw [← hm_Publication]
  obtain ⟨p_arith, p_cmp, p_wrap, p_scmp, p_scat, p_catOk, p_ssize, p_sat, p_ssub, p_bytes, p_str, p_bnot, p_beq, p_min, p_max, p_len, p_int, p_nth, p_sub, p_rsub, p_ridx, p_rnth, p_rset, p_rapp, p_rlen, p_addN, p_full, p_fits, p_frz, p_own, p_opn, p_lend, p_rmov, p_rout, p_both, p_yI, p_ofB, p_byW, p_mkN, p_rep, p_copy⟩ := p
  have h_arith : p_arith = prims.arith := congrArg Prims.arith hp
  have h_cmp : p_cmp = prims.cmp := congrArg Prims.cmp hp
  have h_full : p_full = prims.full := congrArg Prims.full hp
  have h_int : p_int = prims.int := congrArg Prims.int hp
  have h_len : p_len = prims.len := congrArg Prims.len hp
  have h_mkN : p_mkN = prims.mkN := congrArg Prims.mkN hp
  have h_nth : p_nth = prims.nth := congrArg Prims.nth hp
  have h_opn : p_opn = prims.opn := congrArg Prims.opn hp
  have h_own : p_own = prims.own := congrArg Prims.own hp
  have h_rep : p_rep = prims.rep := congrArg Prims.rep hp
  have h_ridx : p_ridx = prims.ridx := congrArg Prims.ridx hp
  have h_rnth : p_rnth = prims.rnth := congrArg Prims.rnth hp
  have h_rset : p_rset = prims.rset := congrArg Prims.rset hp
  clear hp
  have full_Publication := @fullF_Publication
  rw [← h_full, ← h_len, ← h_opn, ← hm_Publication] at full_Publication
  have full_byte := @fullF_byte
  rw [← h_full, ← h_len, ← h_opn, ← hm_byte] at full_byte
  have full_string := @fullF_string
  rw [← h_full, ← h_len, ← h_opn, ← hm_string] at full_string
  have lset_Publication := @lsetF_Publication
  rw [← h_len, ← hm_Publication] at lset_Publication
  have mkn_Publication := @mknF_Publication
  rw [← h_len, ← h_mkN, ← hm_Publication] at mkn_Publication
  have nth_Publication := @nthF_Publication
  rw [← h_nth, ← hm_Publication, ← hm_byte, ← hm_string] at nth_Publication
  have own_Publication := @ownF_Publication
  rw [← h_opn, ← h_own, ← hm_Publication] at own_Publication
  have own_byte := @ownF_byte
  rw [← h_opn, ← h_own, ← hm_byte] at own_byte
  have own_string := @ownF_string
  rw [← h_opn, ← h_own, ← hm_string] at own_string
  have rep_Publication := @repF_Publication
  rw [← h_len, ← h_opn, ← h_rep, ← hm_Publication] at rep_Publication
  have rnth_Publication := @rnthF_Publication
  rw [← h_opn, ← h_rnth, ← hm_Publication, ← hm_byte, ← hm_string] at rnth_Publication
  have rset_Publication := @rsetF_Publication
  rw [← h_opn, ← h_rset, ← hm_Publication, ← hm_byte, ← hm_string] at rset_Publication
  unfold Has_s_laws_toPublication at hF_s_laws_toPublication
  rw [← hm_byte, ← hm_string] at hF_s_laws_toPublication
  generalize hal : (fun (F : St → (Ex → St → Option (List Arg)) → Option (List Arg)) lv => aloop F lv fuel) = al
  rw [s_laws_toPublicationS, ← h_int, ← h_len, ← hm_Publication]
  conv => lhs; cbv
  rw [mkn_Publication]
  refine cO (fun hx2 => ?_) ?_
  · rw [hx2]
    first | done | rfl
  · rintro x1 hx2
    rw [hx2]
    conv => lhs; cbv
    rw [rep_Publication _ _ _ hx2]
    conv => lhs; cbv
    refine (loop_al hal (fun x => match x with | (v3, v4) => ⟨[.c (.rd true 76 3 (m_Publication a0)), dd, dd, .c (.row (0, 0, 0) 76 3 0 (p_len (m_Publication v4))), .c (.at (.int .i64 v3)), dd, dd, dd, dd, dd, dd, dd, dd, dd, dd, dd, dd, dd, dd, dd, dd, dd, dd], [((0, 0, 0), ⟨true, false, 76, 3, p_opn (m_Publication v4)⟩)], 1⟩) (s_laws_toPublicationS_l1 a0) (fun K g => match g with | (v3, v4) => K (.exit 0) ⟨[.c (.rd true 76 3 (m_Publication a0)), dd, dd, .c (.row (0, 0, 0) 76 3 0 (p_len (m_Publication v4))), .c (.at (.int .i64 v3)), dd, dd, dd, .c (.at (.int .i64 v3)), .c (.rd true 76 3 (m_Publication a0)), .c (.at (.int .i64 (p_int (p_len (m_Publication a0))))), .c (.at (.bool false)), dd, dd, dd, dd, dd, dd, dd, dd, dd, dd, dd], [((0, 0, 0), ⟨true, false, 76, 3, p_opn (m_Publication v4)⟩)], 2⟩) ?_ (0, x1) _ (rfl)).trans (cL ?_)
    · rintro K1 hr1 ⟨v3, v4⟩ R1
      rw [s_laws_toPublicationS_l1, ← h_arith, ← h_cmp, ← h_int, ← h_len, ← h_ridx, ← hm_Publication]
      conv => lhs; cbv
      refine cC (fun hb5 => ?_) (fun hb5 => ?_)
      · rw [hb5]
        conv => lhs; cbv
        rw [nth_Publication]
        refine cO (fun hx7 => ?_) ?_
        · rw [hx7]
          first | done | rfl
        · rintro x6 hx7
          rw [hx7]
          conv => lhs; cbv
          rw [hF_s_laws_toPublication x6]
          refine cO (fun hx9 => ?_) ?_
          · rw [hx9]
            first | done | rfl
          · rintro r8 hx9
            rw [hx9]
            conv => lhs; cbv
            refine cO (fun hx11 => ?_) ?_
            · rw [hx11]
              first | done | rfl
            · rintro x10 hx11
              rw [hx11]
              conv => lhs; cbv
              rw [rnth_Publication]
              refine cO (fun hx13 => ?_) ?_
              · rw [hx13]
                first | done | rfl
              · rintro x12 hx13
                rw [hx13]
                conv => lhs; cbv
                rw [if_pos (full_string _)]
                conv => lhs; cbv
                rw [own_string]
                conv => lhs; cbv
                rw [if_pos (full_byte _)]
                conv => lhs; cbv
                rw [own_byte]
                conv => lhs; cbv
                rw [rset_Publication]
                try conv => lhs; rw [← lset_Publication v4 x10 r8]
                conv => lhs; cbv
                first | done | rfl
      · rw [hb5]
        conv => lhs; cbv
        first | done | rfl
    · rintro ⟨w14, w15⟩
      conv => lhs; cbv
      rw [if_pos (full_Publication _)]
      conv => lhs; cbv
      rw [own_Publication]
      conv => lhs; cbv
      first | done | rfl
def s_laws_toMember (a0 : DMember) : Option (DMember) := (s_laws_toName a0.name).bind fun r1 => (s_laws_toStateVector a0.vector).bind fun r3 => (s_laws_toPublicationS a0.publications).bind fun r5 => some (⟨r1, r3, r5⟩ : DMember)
def Has_s_laws_toMember (F : Fns) : Prop := ∀ (a0 : DMember), F 35 [.a [.sl 9 1 (List.map eS a0.name), .sl 92 2 (List.map eTableEntry a0.vector), .sl 76 3 (List.map ePublication a0.publications)]] = (s_laws_toMember a0).bind fun r => some [.a [.sl 9 1 (List.map eS r.name), .sl 92 2 (List.map eTableEntry r.vector), .sl 76 3 (List.map ePublication r.publications)]]
set_option maxHeartbeats 40000000 in
theorem e_s_laws_toMember (F : Fns) (hF_s_laws_toName : Has_s_laws_toName F) (hF_s_laws_toStateVector : Has_s_laws_toStateVector F) (hF_s_laws_toPublicationS : Has_s_laws_toPublicationS F) (a0 : DMember) : evBody prims (fun F lv => aloop F lv fuel) TY F ⟨Tryz.f35, Tryz.f35.body.getD .skip, fun _ => []⟩ [.a [.sl 9 1 (List.map eS a0.name), .sl 92 2 (List.map eTableEntry a0.vector), .sl 76 3 (List.map ePublication a0.publications)]] = (s_laws_toMember a0).bind fun r => some [.a [.sl 9 1 (List.map eS r.name), .sl 92 2 (List.map eTableEntry r.vector), .sl 76 3 (List.map ePublication r.publications)]] := by
  obtain ⟨p, hp⟩ : ∃ p : Prims, p = prims := ⟨_, rfl⟩
  obtain ⟨m_Publication, hm_Publication⟩ : ∃ m, m = List.map ePublication := ⟨_, rfl⟩
  obtain ⟨m_TableEntry, hm_TableEntry⟩ : ∃ m, m = List.map eTableEntry := ⟨_, rfl⟩
  obtain ⟨m_string, hm_string⟩ : ∃ m, m = List.map eS := ⟨_, rfl⟩
  rw [← hp]
  rw [← hm_Publication, ← hm_TableEntry, ← hm_string]
  obtain ⟨p_arith, p_cmp, p_wrap, p_scmp, p_scat, p_catOk, p_ssize, p_sat, p_ssub, p_bytes, p_str, p_bnot, p_beq, p_min, p_max, p_len, p_int, p_nth, p_sub, p_rsub, p_ridx, p_rnth, p_rset, p_rapp, p_rlen, p_addN, p_full, p_fits, p_frz, p_own, p_opn, p_lend, p_rmov, p_rout, p_both, p_yI, p_ofB, p_byW, p_mkN, p_rep, p_copy⟩ := p
  have h_full : p_full = prims.full := congrArg Prims.full hp
  have h_len : p_len = prims.len := congrArg Prims.len hp
  have h_opn : p_opn = prims.opn := congrArg Prims.opn hp
  have h_own : p_own = prims.own := congrArg Prims.own hp
  clear hp
  have full_Publication := @fullF_Publication
  rw [← h_full, ← h_len, ← h_opn, ← hm_Publication] at full_Publication
  have full_TableEntry := @fullF_TableEntry
  rw [← h_full, ← h_len, ← h_opn, ← hm_TableEntry] at full_TableEntry
  have full_string := @fullF_string
  rw [← h_full, ← h_len, ← h_opn, ← hm_string] at full_string
  have own_Publication := @ownF_Publication
  rw [← h_opn, ← h_own, ← hm_Publication] at own_Publication
  have own_TableEntry := @ownF_TableEntry
  rw [← h_opn, ← h_own, ← hm_TableEntry] at own_TableEntry
  have own_string := @ownF_string
  rw [← h_opn, ← h_own, ← hm_string] at own_string
  unfold Has_s_laws_toName at hF_s_laws_toName
  rw [← hm_string] at hF_s_laws_toName
  unfold Has_s_laws_toStateVector at hF_s_laws_toStateVector
  rw [← hm_TableEntry] at hF_s_laws_toStateVector
  unfold Has_s_laws_toPublicationS at hF_s_laws_toPublicationS
  rw [← hm_Publication] at hF_s_laws_toPublicationS
  generalize hal : (fun (F : St → (Ex → St → Option (List Arg)) → Option (List Arg)) lv => aloop F lv fuel) = al
  rw [s_laws_toMember]
  conv => lhs; cbv
  rw [hF_s_laws_toName a0.name]
  refine cO (fun hx2 => ?_) ?_
  · rw [hx2]
    first | done | rfl
  · rintro r1 hx2
    rw [hx2]
    conv => lhs; cbv
    rw [hF_s_laws_toStateVector a0.vector]
    refine cO (fun hx4 => ?_) ?_
    · rw [hx4]
      first | done | rfl
    · rintro r3 hx4
      rw [hx4]
      conv => lhs; cbv
      rw [hF_s_laws_toPublicationS a0.publications]
      refine cO (fun hx6 => ?_) ?_
      · rw [hx6]
        first | done | rfl
      · rintro r5 hx6
        rw [hx6]
        conv => lhs; cbv
        rw [if_pos (full_string _)]
        conv => lhs; cbv
        rw [own_string]
        conv => lhs; cbv
        rw [if_pos (full_TableEntry _)]
        conv => lhs; cbv
        rw [own_TableEntry]
        conv => lhs; cbv
        rw [if_pos (full_Publication _)]
        conv => lhs; cbv
        rw [own_Publication]
        conv => lhs; cbv
        first | done | rfl
def s_laws_toMemberS_l1 (a0 : (List DMember)) : (Int × (List DMember)) → Option ((Int × (List DMember)) ⊕ ((Int × (List DMember))))
  | (v3, v4) => bif prims.cmp .lss v3 (prims.int (prims.len (List.map eMember a0))) then ((nthI a0 v3).bind fun x6 => (s_laws_toMember x6).bind fun r8 => (prims.ridx 0 (prims.len (List.map eMember v4)) v3).bind fun x10 => (v4[x10]?).bind fun x12 => some (.inl (prims.arith .add .i64 v3 1, v4.set x10 r8))) else (some (.inr (v3, v4)))
def s_laws_toMemberS (a0 : (List DMember)) : Option ((List DMember)) := (mkSl ((⟨[], [], []⟩ : DMember) : DMember) (prims.int (prims.len (List.map eMember a0))) (prims.int (prims.len (List.map eMember a0))) 72).bind fun x1 => (whileO (s_laws_toMemberS_l1 a0) fuel (0, x1)).bind fun ⟨w14, w15⟩ => some w15
def Has_s_laws_toMemberS (F : Fns) : Prop := ∀ (a0 : (List DMember)), F 16 [.v (.sl 51 3 (List.map eMember a0))] = (s_laws_toMemberS a0).bind fun r => some [.v (.sl 51 3 (List.map eMember r))]
set_option maxHeartbeats 40000000 in
theorem e_s_laws_toMemberS (F : Fns) (hF_s_laws_toMember : Has_s_laws_toMember F) (a0 : (List DMember)) : evBody prims (fun F lv => aloop F lv fuel) TY F ⟨Tryz.f16, Tryz.f16.body.getD .skip, fun id => if id = 3 then [0, 3, 4] else []⟩ [.v (.sl 51 3 (List.map eMember a0))] = (s_laws_toMemberS a0).bind fun r => some [.v (.sl 51 3 (List.map eMember r))] := by
  obtain ⟨p, hp⟩ : ∃ p : Prims, p = prims := ⟨_, rfl⟩
  obtain ⟨m_Member, hm_Member⟩ : ∃ m, m = List.map eMember := ⟨_, rfl⟩
  obtain ⟨m_Publication, hm_Publication⟩ : ∃ m, m = List.map ePublication := ⟨_, rfl⟩
  obtain ⟨m_TableEntry, hm_TableEntry⟩ : ∃ m, m = List.map eTableEntry := ⟨_, rfl⟩
  obtain ⟨m_string, hm_string⟩ : ∃ m, m = List.map eS := ⟨_, rfl⟩
  rw [← hp]
  rw [← hm_Member]
  obtain ⟨p_arith, p_cmp, p_wrap, p_scmp, p_scat, p_catOk, p_ssize, p_sat, p_ssub, p_bytes, p_str, p_bnot, p_beq, p_min, p_max, p_len, p_int, p_nth, p_sub, p_rsub, p_ridx, p_rnth, p_rset, p_rapp, p_rlen, p_addN, p_full, p_fits, p_frz, p_own, p_opn, p_lend, p_rmov, p_rout, p_both, p_yI, p_ofB, p_byW, p_mkN, p_rep, p_copy⟩ := p
  have h_arith : p_arith = prims.arith := congrArg Prims.arith hp
  have h_cmp : p_cmp = prims.cmp := congrArg Prims.cmp hp
  have h_full : p_full = prims.full := congrArg Prims.full hp
  have h_int : p_int = prims.int := congrArg Prims.int hp
  have h_len : p_len = prims.len := congrArg Prims.len hp
  have h_mkN : p_mkN = prims.mkN := congrArg Prims.mkN hp
  have h_nth : p_nth = prims.nth := congrArg Prims.nth hp
  have h_opn : p_opn = prims.opn := congrArg Prims.opn hp
  have h_own : p_own = prims.own := congrArg Prims.own hp
  have h_rep : p_rep = prims.rep := congrArg Prims.rep hp
  have h_ridx : p_ridx = prims.ridx := congrArg Prims.ridx hp
  have h_rnth : p_rnth = prims.rnth := congrArg Prims.rnth hp
  have h_rset : p_rset = prims.rset := congrArg Prims.rset hp
  clear hp
  have full_Member := @fullF_Member
  rw [← h_full, ← h_len, ← h_opn, ← hm_Member] at full_Member
  have full_Publication := @fullF_Publication
  rw [← h_full, ← h_len, ← h_opn, ← hm_Publication] at full_Publication
  have full_TableEntry := @fullF_TableEntry
  rw [← h_full, ← h_len, ← h_opn, ← hm_TableEntry] at full_TableEntry
  have full_string := @fullF_string
  rw [← h_full, ← h_len, ← h_opn, ← hm_string] at full_string
  have lset_Member := @lsetF_Member
  rw [← h_len, ← hm_Member] at lset_Member
  have mkn_Member := @mknF_Member
  rw [← h_len, ← h_mkN, ← hm_Member] at mkn_Member
  have nth_Member := @nthF_Member
  rw [← h_nth, ← hm_Member, ← hm_Publication, ← hm_TableEntry, ← hm_string] at nth_Member
  have own_Member := @ownF_Member
  rw [← h_opn, ← h_own, ← hm_Member] at own_Member
  have own_Publication := @ownF_Publication
  rw [← h_opn, ← h_own, ← hm_Publication] at own_Publication
  have own_TableEntry := @ownF_TableEntry
  rw [← h_opn, ← h_own, ← hm_TableEntry] at own_TableEntry
  have own_string := @ownF_string
  rw [← h_opn, ← h_own, ← hm_string] at own_string
  have rep_Member := @repF_Member
  rw [← h_len, ← h_opn, ← h_rep, ← hm_Member] at rep_Member
  have rnth_Member := @rnthF_Member
  rw [← h_opn, ← h_rnth, ← hm_Member, ← hm_Publication, ← hm_TableEntry, ← hm_string] at rnth_Member
  have rset_Member := @rsetF_Member
  rw [← h_opn, ← h_rset, ← hm_Member, ← hm_Publication, ← hm_TableEntry, ← hm_string] at rset_Member
  unfold Has_s_laws_toMember at hF_s_laws_toMember
  rw [← hm_Publication, ← hm_TableEntry, ← hm_string] at hF_s_laws_toMember
  generalize hal : (fun (F : St → (Ex → St → Option (List Arg)) → Option (List Arg)) lv => aloop F lv fuel) = al
  rw [s_laws_toMemberS, ← h_int, ← h_len, ← hm_Member]
  conv => lhs; cbv
  rw [mkn_Member]
  refine cO (fun hx2 => ?_) ?_
  · rw [hx2]
    first | done | rfl
  · rintro x1 hx2
    rw [hx2]
    conv => lhs; cbv
    rw [rep_Member _ _ _ hx2]
    conv => lhs; cbv
    refine (loop_al hal (fun x => match x with | (v3, v4) => ⟨[.c (.rd true 51 3 (m_Member a0)), dd, dd, .c (.row (0, 0, 0) 51 3 0 (p_len (m_Member v4))), .c (.at (.int .i64 v3)), dd, dd, dd, dd, dd, dd, dd, dd, dd, dd, dd, dd, dd, dd, dd, dd, dd, dd], [((0, 0, 0), ⟨true, false, 51, 3, p_opn (m_Member v4)⟩)], 1⟩) (s_laws_toMemberS_l1 a0) (fun K g => match g with | (v3, v4) => K (.exit 0) ⟨[.c (.rd true 51 3 (m_Member a0)), dd, dd, .c (.row (0, 0, 0) 51 3 0 (p_len (m_Member v4))), .c (.at (.int .i64 v3)), dd, dd, dd, .c (.at (.int .i64 v3)), .c (.rd true 51 3 (m_Member a0)), .c (.at (.int .i64 (p_int (p_len (m_Member a0))))), .c (.at (.bool false)), dd, dd, dd, dd, dd, dd, dd, dd, dd, dd, dd], [((0, 0, 0), ⟨true, false, 51, 3, p_opn (m_Member v4)⟩)], 2⟩) ?_ (0, x1) _ (rfl)).trans (cL ?_)
    · rintro K1 hr1 ⟨v3, v4⟩ R1
      rw [s_laws_toMemberS_l1, ← h_arith, ← h_cmp, ← h_int, ← h_len, ← h_ridx, ← hm_Member]
      conv => lhs; cbv
      refine cC (fun hb5 => ?_) (fun hb5 => ?_)
      · rw [hb5]
        conv => lhs; cbv
        rw [nth_Member]
        refine cO (fun hx7 => ?_) ?_
        · rw [hx7]
          first | done | rfl
        · rintro x6 hx7
          rw [hx7]
          conv => lhs; cbv
          rw [hF_s_laws_toMember x6]
          refine cO (fun hx9 => ?_) ?_
          · rw [hx9]
            first | done | rfl
          · rintro r8 hx9
            rw [hx9]
            conv => lhs; cbv
            refine cO (fun hx11 => ?_) ?_
            · rw [hx11]
              first | done | rfl
            · rintro x10 hx11
              rw [hx11]
              conv => lhs; cbv
              rw [rnth_Member]
              refine cO (fun hx13 => ?_) ?_
              · rw [hx13]
                first | done | rfl
              · rintro x12 hx13
                rw [hx13]
                conv => lhs; cbv
                rw [if_pos (full_string _)]
                conv => lhs; cbv
                rw [own_string]
                conv => lhs; cbv
                rw [if_pos (full_TableEntry _)]
                conv => lhs; cbv
                rw [own_TableEntry]
                conv => lhs; cbv
                rw [if_pos (full_Publication _)]
                conv => lhs; cbv
                rw [own_Publication]
                conv => lhs; cbv
                rw [rset_Member]
                try conv => lhs; rw [← lset_Member v4 x10 r8]
                conv => lhs; cbv
                first | done | rfl
      · rw [hb5]
        conv => lhs; cbv
        first | done | rfl
    · rintro ⟨w14, w15⟩
      conv => lhs; cbv
      rw [if_pos (full_Member _)]
      conv => lhs; cbv
      rw [own_Member]
      conv => lhs; cbv
      first | done | rfl
def s_laws_toSyncGroup (a0 : DSyncGroup) : Option (DSyncGroup) := (s_laws_toTopology a0.topology).bind fun r1 => (s_laws_toMemberS a0.members).bind fun r3 => some (⟨r1, r3⟩ : DSyncGroup)
def Has_s_laws_toSyncGroup (F : Fns) : Prop := ∀ (a0 : DSyncGroup), F 6 [.a [.at (.int .i64 a0.topology.size), .sl 68 2 (List.map eLink a0.topology.links), .sl 51 3 (List.map eMember a0.members)]] = (s_laws_toSyncGroup a0).bind fun r => some [.a [.at (.int .i64 r.topology.size), .sl 68 2 (List.map eLink r.topology.links), .sl 51 3 (List.map eMember r.members)]]
set_option maxHeartbeats 40000000 in
theorem e_s_laws_toSyncGroup (F : Fns) (hF_s_laws_toTopology : Has_s_laws_toTopology F) (hF_s_laws_toMemberS : Has_s_laws_toMemberS F) (a0 : DSyncGroup) : evBody prims (fun F lv => aloop F lv fuel) TY F ⟨Tryz.f6, Tryz.f6.body.getD .skip, fun _ => []⟩ [.a [.at (.int .i64 a0.topology.size), .sl 68 2 (List.map eLink a0.topology.links), .sl 51 3 (List.map eMember a0.members)]] = (s_laws_toSyncGroup a0).bind fun r => some [.a [.at (.int .i64 r.topology.size), .sl 68 2 (List.map eLink r.topology.links), .sl 51 3 (List.map eMember r.members)]] := by
  obtain ⟨p, hp⟩ : ∃ p : Prims, p = prims := ⟨_, rfl⟩
  obtain ⟨m_Link, hm_Link⟩ : ∃ m, m = List.map eLink := ⟨_, rfl⟩
  obtain ⟨m_Member, hm_Member⟩ : ∃ m, m = List.map eMember := ⟨_, rfl⟩
  rw [← hp]
  rw [← hm_Link, ← hm_Member]
  obtain ⟨p_arith, p_cmp, p_wrap, p_scmp, p_scat, p_catOk, p_ssize, p_sat, p_ssub, p_bytes, p_str, p_bnot, p_beq, p_min, p_max, p_len, p_int, p_nth, p_sub, p_rsub, p_ridx, p_rnth, p_rset, p_rapp, p_rlen, p_addN, p_full, p_fits, p_frz, p_own, p_opn, p_lend, p_rmov, p_rout, p_both, p_yI, p_ofB, p_byW, p_mkN, p_rep, p_copy⟩ := p
  have h_full : p_full = prims.full := congrArg Prims.full hp
  have h_len : p_len = prims.len := congrArg Prims.len hp
  have h_opn : p_opn = prims.opn := congrArg Prims.opn hp
  have h_own : p_own = prims.own := congrArg Prims.own hp
  clear hp
  have full_Link := @fullF_Link
  rw [← h_full, ← h_len, ← h_opn, ← hm_Link] at full_Link
  have full_Member := @fullF_Member
  rw [← h_full, ← h_len, ← h_opn, ← hm_Member] at full_Member
  have own_Link := @ownF_Link
  rw [← h_opn, ← h_own, ← hm_Link] at own_Link
  have own_Member := @ownF_Member
  rw [← h_opn, ← h_own, ← hm_Member] at own_Member
  unfold Has_s_laws_toTopology at hF_s_laws_toTopology
  rw [← hm_Link] at hF_s_laws_toTopology
  unfold Has_s_laws_toMemberS at hF_s_laws_toMemberS
  rw [← hm_Member] at hF_s_laws_toMemberS
  generalize hal : (fun (F : St → (Ex → St → Option (List Arg)) → Option (List Arg)) lv => aloop F lv fuel) = al
  rw [s_laws_toSyncGroup]
  conv => lhs; cbv
  rw [hF_s_laws_toTopology a0.topology]
  refine cO (fun hx2 => ?_) ?_
  · rw [hx2]
    first | done | rfl
  · rintro r1 hx2
    rw [hx2]
    conv => lhs; cbv
    rw [hF_s_laws_toMemberS a0.members]
    refine cO (fun hx4 => ?_) ?_
    · rw [hx4]
      first | done | rfl
    · rintro r3 hx4
      rw [hx4]
      conv => lhs; cbv
      rw [if_pos (full_Link _)]
      conv => lhs; cbv
      rw [own_Link]
      conv => lhs; cbv
      rw [if_pos (full_Member _)]
      conv => lhs; cbv
      rw [own_Member]
      conv => lhs; cbv
      first | done | rfl
def s_spec_l1In (a0 : Int) (a1 : Int) (a2 : Int) : Option (Bool) := bif prims.cmp .geq a0 a1 then (some (prims.cmp .leq a0 a2)) else (some false)
def Has_s_spec_l1In (F : Fns) : Prop := ∀ (a0 : Int) (a1 : Int) (a2 : Int), F 25 [.v (.at (.int .i64 a0)), .v (.at (.int .i64 a1)), .v (.at (.int .i64 a2))] = (s_spec_l1In a0 a1 a2).bind fun r => some [.v (.at (.bool r))]
set_option maxHeartbeats 40000000 in
theorem e_s_spec_l1In (F : Fns) (a0 : Int) (a1 : Int) (a2 : Int) : evBody prims (fun F lv => aloop F lv fuel) TY F ⟨Tryz.f25, Tryz.f25.body.getD .skip, fun _ => []⟩ [.v (.at (.int .i64 a0)), .v (.at (.int .i64 a1)), .v (.at (.int .i64 a2))] = (s_spec_l1In a0 a1 a2).bind fun r => some [.v (.at (.bool r))] := by
  obtain ⟨p, hp⟩ : ∃ p : Prims, p = prims := ⟨_, rfl⟩
  rw [← hp]
  obtain ⟨p_arith, p_cmp, p_wrap, p_scmp, p_scat, p_catOk, p_ssize, p_sat, p_ssub, p_bytes, p_str, p_bnot, p_beq, p_min, p_max, p_len, p_int, p_nth, p_sub, p_rsub, p_ridx, p_rnth, p_rset, p_rapp, p_rlen, p_addN, p_full, p_fits, p_frz, p_own, p_opn, p_lend, p_rmov, p_rout, p_both, p_yI, p_ofB, p_byW, p_mkN, p_rep, p_copy⟩ := p
  have h_cmp : p_cmp = prims.cmp := congrArg Prims.cmp hp
  clear hp
  generalize hal : (fun (F : St → (Ex → St → Option (List Arg)) → Option (List Arg)) lv => aloop F lv fuel) = al
  rw [s_spec_l1In, ← h_cmp]
  conv => lhs; cbv
  refine cC (fun hb1 => ?_) (fun hb1 => ?_)
  · rw [hb1]
    conv => lhs; cbv
    first | done | rfl
  · rw [hb1]
    conv => lhs; cbv
    first | done | rfl
def s_spec_l19Pair (a0 : DLink) (a1 : DLink) : Option (Bool) := bif prims.cmp .lss a0.a a1.a then (some true) else (bif prims.cmp .eql a0.a a1.a then (some (prims.cmp .lss a0.b a1.b)) else (some false))
def Has_s_spec_l19Pair (F : Fns) : Prop := ∀ (a0 : DLink) (a1 : DLink), F 26 [.a [.at (.int .i64 a0.a), .at (.int .i64 a0.b)], .a [.at (.int .i64 a1.a), .at (.int .i64 a1.b)]] = (s_spec_l19Pair a0 a1).bind fun r => some [.v (.at (.bool r))]
set_option maxHeartbeats 40000000 in
theorem e_s_spec_l19Pair (F : Fns) (a0 : DLink) (a1 : DLink) : evBody prims (fun F lv => aloop F lv fuel) TY F ⟨Tryz.f26, Tryz.f26.body.getD .skip, fun _ => []⟩ [.a [.at (.int .i64 a0.a), .at (.int .i64 a0.b)], .a [.at (.int .i64 a1.a), .at (.int .i64 a1.b)]] = (s_spec_l19Pair a0 a1).bind fun r => some [.v (.at (.bool r))] := by
  obtain ⟨p, hp⟩ : ∃ p : Prims, p = prims := ⟨_, rfl⟩
  rw [← hp]
  obtain ⟨p_arith, p_cmp, p_wrap, p_scmp, p_scat, p_catOk, p_ssize, p_sat, p_ssub, p_bytes, p_str, p_bnot, p_beq, p_min, p_max, p_len, p_int, p_nth, p_sub, p_rsub, p_ridx, p_rnth, p_rset, p_rapp, p_rlen, p_addN, p_full, p_fits, p_frz, p_own, p_opn, p_lend, p_rmov, p_rout, p_both, p_yI, p_ofB, p_byW, p_mkN, p_rep, p_copy⟩ := p
  have h_cmp : p_cmp = prims.cmp := congrArg Prims.cmp hp
  clear hp
  generalize hal : (fun (F : St → (Ex → St → Option (List Arg)) → Option (List Arg)) lv => aloop F lv fuel) = al
  rw [s_spec_l19Pair, ← h_cmp]
  conv => lhs; cbv
  refine cC (fun hb1 => ?_) (fun hb1 => ?_)
  · rw [hb1]
    conv => lhs; cbv
    first | done | rfl
  · rw [hb1]
    conv => lhs; cbv
    refine cC (fun hb2 => ?_) (fun hb2 => ?_)
    · rw [hb2]
      conv => lhs; cbv
      first | done | rfl
    · rw [hb2]
      conv => lhs; cbv
      first | done | rfl
def s_spec_ValidTopology_l1 (a0 : DTopology) : Int → Option ((Int) ⊕ ((Int) ⊕ (Bool)))
  | v1 => bif prims.cmp .lss v1 (prims.int (prims.len (List.map eLink a0.links))) then ((nthI a0.links v1).bind fun x3 => (s_spec_l1In x3.a 0 (prims.arith .sub .i64 a0.size 1)).bind fun r5 => bif prims.bnot r5 then (some (.inr (.inr (false)))) else ((s_spec_l1In x3.b 0 (prims.arith .sub .i64 a0.size 1)).bind fun r8 => bif prims.bnot r8 then (some (.inr (.inr (false)))) else (bif prims.cmp .geq x3.a x3.b then (some (.inr (.inr (false)))) else (bif prims.cmp .gtr v1 0 then ((nthI a0.links (prims.arith .sub .i64 v1 1)).bind fun x13 => (s_spec_l19Pair x13 x3).bind fun r15 => bif prims.bnot r15 then (some (.inr (.inr (false)))) else (some (.inl (prims.arith .add .i64 v1 1)))) else (some (.inl (prims.arith .add .i64 v1 1))))))) else (some (.inr (.inl v1)))
def s_spec_ValidTopology (a0 : DTopology) : Option (Bool) := (whileO (s_spec_ValidTopology_l1 a0) fuel 0).bind fun g => match g with | .inl w18 => ((s_spec_l1In a0.size 1 6).bind fun r19 => some r19) | .inr (w21) => (some w21)
def Has_s_spec_ValidTopology (F : Fns) : Prop := ∀ (a0 : DTopology), F 11 [.a [.at (.int .i64 a0.size), .sl 68 2 (List.map eLink a0.links)]] = (s_spec_ValidTopology a0).bind fun r => some [.v (.at (.bool r))]
set_option maxHeartbeats 40000000 in
theorem e_s_spec_ValidTopology (F : Fns) (hF_s_spec_l1In : Has_s_spec_l1In F) (hF_s_spec_l19Pair : Has_s_spec_l19Pair F) (a0 : DTopology) : evBody prims (fun F lv => aloop F lv fuel) TY F ⟨Tryz.f11, Tryz.f11.body.getD .skip, fun id => if id = 2 then [1, 3] else []⟩ [.a [.at (.int .i64 a0.size), .sl 68 2 (List.map eLink a0.links)]] = (s_spec_ValidTopology a0).bind fun r => some [.v (.at (.bool r))] := by
  obtain ⟨p, hp⟩ : ∃ p : Prims, p = prims := ⟨_, rfl⟩
  obtain ⟨m_Link, hm_Link⟩ : ∃ m, m = List.map eLink := ⟨_, rfl⟩
  rw [← hp]
  rw [← hm_Link]
  obtain ⟨p_arith, p_cmp, p_wrap, p_scmp, p_scat, p_catOk, p_ssize, p_sat, p_ssub, p_bytes, p_str, p_bnot, p_beq, p_min, p_max, p_len, p_int, p_nth, p_sub, p_rsub, p_ridx, p_rnth, p_rset, p_rapp, p_rlen, p_addN, p_full, p_fits, p_frz, p_own, p_opn, p_lend, p_rmov, p_rout, p_both, p_yI, p_ofB, p_byW, p_mkN, p_rep, p_copy⟩ := p
  have h_arith : p_arith = prims.arith := congrArg Prims.arith hp
  have h_bnot : p_bnot = prims.bnot := congrArg Prims.bnot hp
  have h_cmp : p_cmp = prims.cmp := congrArg Prims.cmp hp
  have h_int : p_int = prims.int := congrArg Prims.int hp
  have h_len : p_len = prims.len := congrArg Prims.len hp
  have h_nth : p_nth = prims.nth := congrArg Prims.nth hp
  clear hp
  have nth_Link := @nthF_Link
  rw [← h_nth, ← hm_Link] at nth_Link
  unfold Has_s_spec_l1In at hF_s_spec_l1In
  unfold Has_s_spec_l19Pair at hF_s_spec_l19Pair
  generalize hal : (fun (F : St → (Ex → St → Option (List Arg)) → Option (List Arg)) lv => aloop F lv fuel) = al
  rw [s_spec_ValidTopology]
  conv => lhs; cbv
  refine (loop_al hal (fun v1 => ⟨[dd, .c (.ptr (0, 0, 0) 2 0 0), dd, .c (.at (.int .i64 v1)), dd, dd, dd, dd, dd, dd, dd, dd, dd, dd, dd, dd, dd, dd, dd, dd, dd, dd, dd, dd, dd, dd, dd, dd, dd, dd, dd, dd, dd, dd, dd, dd, dd, dd, dd, dd, dd, dd, dd, dd, dd, dd, dd, dd, dd, dd, dd, dd, dd, dd, dd, dd, dd, dd], [((0, 0, 0), ⟨false, true, 32, 2, [[.at (.int .i64 a0.size), .rd true 68 2 (m_Link a0.links)]]⟩)], 1⟩) (s_spec_ValidTopology_l1 a0) (fun K g => match g with | .inl v1 => K (.exit 0) ⟨[dd, .c (.ptr (0, 0, 0) 2 0 0), dd, .c (.at (.int .i64 v1)), dd, .c (.at (.int .i64 v1)), .c (.ptr (0, 0, 0) 2 0 1), .c (.rd true 68 2 (m_Link a0.links)), .c (.at (.int .i64 (p_int (p_len (m_Link a0.links))))), .c (.at (.bool false)), dd, dd, dd, dd, dd, dd, dd, dd, dd, dd, dd, dd, dd, dd, dd, dd, dd, dd, dd, dd, dd, dd, dd, dd, dd, dd, dd, dd, dd, dd, dd, dd, dd, dd, dd, dd, dd, dd, dd, dd, dd, dd, dd, dd, dd, dd, dd, dd], [((0, 0, 0), ⟨false, true, 32, 2, [[.at (.int .i64 a0.size), .rd true 68 2 (m_Link a0.links)]]⟩)], 2⟩ | .inr (r) => some [.v (.at (.bool r))]) ?_ 0 _ (rfl)).trans (cL ?_)
  · rintro K1 hr1 v1 R1
    rw [s_spec_ValidTopology_l1, ← h_arith, ← h_bnot, ← h_cmp, ← h_int, ← h_len, ← hm_Link]
    conv => lhs; cbv
    refine cC (fun hb2 => ?_) (fun hb2 => ?_)
    · rw [hb2]
      conv => lhs; cbv
      rw [nth_Link]
      refine cO (fun hx4 => ?_) ?_
      · rw [hx4]
        first | done | rfl
      · rintro x3 hx4
        rw [hx4]
        conv => lhs; cbv
        rw [hF_s_spec_l1In x3.a 0 (p_arith .sub .i64 a0.size 1)]
        refine cO (fun hx6 => ?_) ?_
        · rw [hx6]
          first | done | rfl
        · rintro r5 hx6
          rw [hx6]
          conv => lhs; cbv
          refine cC (fun hb7 => ?_) (fun hb7 => ?_)
          · rw [hb7]
            conv => lhs; cbv
            rw [hr1]
            conv => lhs; cbv
            first | done | rfl
          · rw [hb7]
            conv => lhs; cbv
            rw [hF_s_spec_l1In x3.b 0 (p_arith .sub .i64 a0.size 1)]
            refine cO (fun hx9 => ?_) ?_
            · rw [hx9]
              first | done | rfl
            · rintro r8 hx9
              rw [hx9]
              conv => lhs; cbv
              refine cC (fun hb10 => ?_) (fun hb10 => ?_)
              · rw [hb10]
                conv => lhs; cbv
                rw [hr1]
                conv => lhs; cbv
                first | done | rfl
              · rw [hb10]
                conv => lhs; cbv
                refine cC (fun hb11 => ?_) (fun hb11 => ?_)
                · rw [hb11]
                  conv => lhs; cbv
                  rw [hr1]
                  conv => lhs; cbv
                  first | done | rfl
                · rw [hb11]
                  conv => lhs; cbv
                  refine cC (fun hb12 => ?_) (fun hb12 => ?_)
                  · rw [hb12]
                    conv => lhs; cbv
                    rw [nth_Link]
                    refine cO (fun hx14 => ?_) ?_
                    · rw [hx14]
                      first | done | rfl
                    · rintro x13 hx14
                      rw [hx14]
                      conv => lhs; cbv
                      rw [hF_s_spec_l19Pair x13 x3]
                      refine cO (fun hx16 => ?_) ?_
                      · rw [hx16]
                        first | done | rfl
                      · rintro r15 hx16
                        rw [hx16]
                        conv => lhs; cbv
                        refine cC (fun hb17 => ?_) (fun hb17 => ?_)
                        · rw [hb17]
                          conv => lhs; cbv
                          rw [hr1]
                          conv => lhs; cbv
                          first | done | rfl
                        · rw [hb17]
                          conv => lhs; cbv
                          first | done | rfl
                  · rw [hb12]
                    conv => lhs; cbv
                    first | done | rfl
    · rw [hb2]
      conv => lhs; cbv
      first | done | rfl
  · rintro (w18 | w21)
    · conv => lhs; cbv
      rw [hF_s_spec_l1In a0.size 1 6]
      refine cO (fun hx20 => ?_) ?_
      · rw [hx20]
        first | done | rfl
      · rintro r19 hx20
        rw [hx20]
        conv => lhs; cbv
        first | done | rfl
    · rfl
def s_spec_ValidPart_l1 (a0 : ByteArray) : Int → Option ((Int) ⊕ ((Int) ⊕ (Bool)))
  | v4 => bif prims.cmp .lss v4 (prims.ssize a0) then ((prims.sat a0 v4).bind fun x6 => (s_spec_l1In (prims.wrap .i64 x6) 97 122).bind fun r8 => bif prims.bnot r8 then ((s_spec_l1In (prims.wrap .i64 x6) 48 57).bind fun r11 => bif prims.bnot r11 then (bif prims.cmp .neq (prims.wrap .i64 x6) 45 then (some (.inr (.inr (false)))) else (some (.inl (prims.arith .add .i64 v4 1)))) else (some (.inl (prims.arith .add .i64 v4 1)))) else (some (.inl (prims.arith .add .i64 v4 1)))) else (some (.inr (.inl v4)))
def s_spec_ValidPart (a0 : ByteArray) : Option (Bool) := (s_spec_l1In (prims.ssize a0) 1 8).bind fun r1 => bif prims.bnot r1 then (some false) else ((whileO (s_spec_ValidPart_l1 a0) fuel 0).bind fun g => match g with | .inl w15 => (some true) | .inr (w16) => (some w16))
def Has_s_spec_ValidPart (F : Fns) : Prop := ∀ (a0 : ByteArray), F 50 [.v (.at (.string a0))] = (s_spec_ValidPart a0).bind fun r => some [.v (.at (.bool r))]
set_option maxHeartbeats 40000000 in
theorem e_s_spec_ValidPart (F : Fns) (hF_s_spec_l1In : Has_s_spec_l1In F) (a0 : ByteArray) : evBody prims (fun F lv => aloop F lv fuel) TY F ⟨Tryz.f50, Tryz.f50.body.getD .skip, fun id => if id = 4 then [0, 3] else []⟩ [.v (.at (.string a0))] = (s_spec_ValidPart a0).bind fun r => some [.v (.at (.bool r))] := by
  obtain ⟨p, hp⟩ : ∃ p : Prims, p = prims := ⟨_, rfl⟩
  rw [← hp]
  obtain ⟨p_arith, p_cmp, p_wrap, p_scmp, p_scat, p_catOk, p_ssize, p_sat, p_ssub, p_bytes, p_str, p_bnot, p_beq, p_min, p_max, p_len, p_int, p_nth, p_sub, p_rsub, p_ridx, p_rnth, p_rset, p_rapp, p_rlen, p_addN, p_full, p_fits, p_frz, p_own, p_opn, p_lend, p_rmov, p_rout, p_both, p_yI, p_ofB, p_byW, p_mkN, p_rep, p_copy⟩ := p
  have h_arith : p_arith = prims.arith := congrArg Prims.arith hp
  have h_bnot : p_bnot = prims.bnot := congrArg Prims.bnot hp
  have h_cmp : p_cmp = prims.cmp := congrArg Prims.cmp hp
  have h_sat : p_sat = prims.sat := congrArg Prims.sat hp
  have h_ssize : p_ssize = prims.ssize := congrArg Prims.ssize hp
  have h_wrap : p_wrap = prims.wrap := congrArg Prims.wrap hp
  clear hp
  unfold Has_s_spec_l1In at hF_s_spec_l1In
  generalize hal : (fun (F : St → (Ex → St → Option (List Arg)) → Option (List Arg)) lv => aloop F lv fuel) = al
  rw [s_spec_ValidPart, ← h_bnot, ← h_ssize]
  conv => lhs; cbv
  rw [hF_s_spec_l1In (p_ssize a0) 1 8]
  refine cO (fun hx2 => ?_) ?_
  · rw [hx2]
    first | done | rfl
  · rintro r1 hx2
    rw [hx2]
    conv => lhs; cbv
    refine cC (fun hb3 => ?_) (fun hb3 => ?_)
    · rw [hb3]
      conv => lhs; cbv
      first | done | rfl
    · rw [hb3]
      conv => lhs; cbv
      refine (loop_al hal (fun v4 => ⟨[.c (.at (.string a0)), dd, dd, .c (.at (.int .i64 v4)), dd, dd, dd, dd, dd, dd, dd, dd, dd, dd, dd, dd, dd, dd, dd, dd, dd, dd, dd, dd, dd, dd, dd, dd, dd, dd, dd], [], 1⟩) (s_spec_ValidPart_l1 a0) (fun K g => match g with | .inl v4 => K (.exit 0) ⟨[.c (.at (.string a0)), dd, dd, .c (.at (.int .i64 v4)), dd, dd, dd, dd, dd, .c (.at (.int .i64 v4)), .c (.at (.string a0)), .c (.at (.int .i64 (p_ssize a0))), .c (.at (.bool false)), dd, dd, dd, dd, dd, dd, dd, dd, dd, dd, dd, dd, dd, dd, dd, dd, dd, dd], [], 2⟩ | .inr (r) => some [.v (.at (.bool r))]) ?_ 0 _ (rfl)).trans (cL ?_)
      · rintro K1 hr1 v4 R1
        rw [s_spec_ValidPart_l1, ← h_arith, ← h_bnot, ← h_cmp, ← h_sat, ← h_ssize, ← h_wrap]
        conv => lhs; cbv
        refine cC (fun hb5 => ?_) (fun hb5 => ?_)
        · rw [hb5]
          conv => lhs; cbv
          refine cO (fun hx7 => ?_) ?_
          · rw [hx7]
            first | done | rfl
          · rintro x6 hx7
            rw [hx7]
            conv => lhs; cbv
            rw [hF_s_spec_l1In (p_wrap .i64 x6) 97 122]
            refine cO (fun hx9 => ?_) ?_
            · rw [hx9]
              first | done | rfl
            · rintro r8 hx9
              rw [hx9]
              conv => lhs; cbv
              refine cC (fun hb10 => ?_) (fun hb10 => ?_)
              · rw [hb10]
                conv => lhs; cbv
                rw [hF_s_spec_l1In (p_wrap .i64 x6) 48 57]
                refine cO (fun hx12 => ?_) ?_
                · rw [hx12]
                  first | done | rfl
                · rintro r11 hx12
                  rw [hx12]
                  conv => lhs; cbv
                  refine cC (fun hb13 => ?_) (fun hb13 => ?_)
                  · rw [hb13]
                    conv => lhs; cbv
                    refine cC (fun hb14 => ?_) (fun hb14 => ?_)
                    · rw [hb14]
                      conv => lhs; cbv
                      rw [hr1]
                      conv => lhs; cbv
                      first | done | rfl
                    · rw [hb14]
                      conv => lhs; cbv
                      first | done | rfl
                  · rw [hb13]
                    conv => lhs; cbv
                    first | done | rfl
              · rw [hb10]
                conv => lhs; cbv
                first | done | rfl
        · rw [hb5]
          conv => lhs; cbv
          first | done | rfl
      · rintro (w15 | w16)
        · conv => lhs; cbv
          first | done | rfl
        · rfl
def s_spec_ValidName_l1 (a0 : (List ByteArray)) : Int → Option ((Int) ⊕ ((Int) ⊕ (Bool)))
  | v1 => bif prims.cmp .lss v1 (prims.int (prims.len (List.map eS a0))) then ((nthI a0 v1).bind fun x3 => (s_spec_ValidPart x3).bind fun r5 => bif prims.bnot r5 then (some (.inr (.inr (false)))) else (some (.inl (prims.arith .add .i64 v1 1)))) else (some (.inr (.inl v1)))
def s_spec_ValidName (a0 : (List ByteArray)) : Option (Bool) := (whileO (s_spec_ValidName_l1 a0) fuel 0).bind fun g => match g with | .inl w8 => (some (prims.cmp .leq (prims.int (prims.len (List.map eS a0))) 6)) | .inr (w9) => (some w9)
def Has_s_spec_ValidName (F : Fns) : Prop := ∀ (a0 : (List ByteArray)), F 27 [.a [.sl 9 1 (List.map eS a0)]] = (s_spec_ValidName a0).bind fun r => some [.v (.at (.bool r))]
set_option maxHeartbeats 40000000 in
theorem e_s_spec_ValidName (F : Fns) (hF_s_spec_ValidPart : Has_s_spec_ValidPart F) (a0 : (List ByteArray)) : evBody prims (fun F lv => aloop F lv fuel) TY F ⟨Tryz.f27, Tryz.f27.body.getD .skip, fun id => if id = 2 then [1, 3] else []⟩ [.a [.sl 9 1 (List.map eS a0)]] = (s_spec_ValidName a0).bind fun r => some [.v (.at (.bool r))] := by
  obtain ⟨p, hp⟩ : ∃ p : Prims, p = prims := ⟨_, rfl⟩
  obtain ⟨m_string, hm_string⟩ : ∃ m, m = List.map eS := ⟨_, rfl⟩
  rw [← hp]
  rw [← hm_string]
  obtain ⟨p_arith, p_cmp, p_wrap, p_scmp, p_scat, p_catOk, p_ssize, p_sat, p_ssub, p_bytes, p_str, p_bnot, p_beq, p_min, p_max, p_len, p_int, p_nth, p_sub, p_rsub, p_ridx, p_rnth, p_rset, p_rapp, p_rlen, p_addN, p_full, p_fits, p_frz, p_own, p_opn, p_lend, p_rmov, p_rout, p_both, p_yI, p_ofB, p_byW, p_mkN, p_rep, p_copy⟩ := p
  have h_arith : p_arith = prims.arith := congrArg Prims.arith hp
  have h_bnot : p_bnot = prims.bnot := congrArg Prims.bnot hp
  have h_cmp : p_cmp = prims.cmp := congrArg Prims.cmp hp
  have h_int : p_int = prims.int := congrArg Prims.int hp
  have h_len : p_len = prims.len := congrArg Prims.len hp
  have h_nth : p_nth = prims.nth := congrArg Prims.nth hp
  clear hp
  have nth_string := @nthF_string
  rw [← h_nth, ← hm_string] at nth_string
  unfold Has_s_spec_ValidPart at hF_s_spec_ValidPart
  generalize hal : (fun (F : St → (Ex → St → Option (List Arg)) → Option (List Arg)) lv => aloop F lv fuel) = al
  rw [s_spec_ValidName, ← h_cmp, ← h_int, ← h_len, ← hm_string]
  conv => lhs; cbv
  refine (loop_al hal (fun v1 => ⟨[dd, .c (.ptr (0, 0, 0) 1 0 0), dd, .c (.at (.int .i64 v1)), dd, dd, dd, dd, dd, dd, dd, dd, dd, dd, dd, dd, dd, dd, dd, dd, dd, dd], [((0, 0, 0), ⟨false, true, 45, 1, [[.rd true 9 1 (m_string a0)]]⟩)], 1⟩) (s_spec_ValidName_l1 a0) (fun K g => match g with | .inl v1 => K (.exit 0) ⟨[dd, .c (.ptr (0, 0, 0) 1 0 0), dd, .c (.at (.int .i64 v1)), .c (.at (.int .i64 v1)), .c (.ptr (0, 0, 0) 1 0 0), .c (.rd true 9 1 (m_string a0)), .c (.at (.int .i64 (p_int (p_len (m_string a0))))), .c (.at (.bool false)), dd, dd, dd, dd, dd, dd, dd, dd, dd, dd, dd, dd, dd], [((0, 0, 0), ⟨false, true, 45, 1, [[.rd true 9 1 (m_string a0)]]⟩)], 2⟩ | .inr (r) => some [.v (.at (.bool r))]) ?_ 0 _ (rfl)).trans (cL ?_)
  · rintro K1 hr1 v1 R1
    rw [s_spec_ValidName_l1, ← h_arith, ← h_bnot, ← h_cmp, ← h_int, ← h_len, ← hm_string]
    conv => lhs; cbv
    refine cC (fun hb2 => ?_) (fun hb2 => ?_)
    · rw [hb2]
      conv => lhs; cbv
      rw [nth_string]
      refine cO (fun hx4 => ?_) ?_
      · rw [hx4]
        first | done | rfl
      · rintro x3 hx4
        rw [hx4]
        conv => lhs; cbv
        rw [hF_s_spec_ValidPart x3]
        refine cO (fun hx6 => ?_) ?_
        · rw [hx6]
          first | done | rfl
        · rintro r5 hx6
          rw [hx6]
          conv => lhs; cbv
          refine cC (fun hb7 => ?_) (fun hb7 => ?_)
          · rw [hb7]
            conv => lhs; cbv
            rw [hr1]
            conv => lhs; cbv
            first | done | rfl
          · rw [hb7]
            conv => lhs; cbv
            first | done | rfl
    · rw [hb2]
      conv => lhs; cbv
      first | done | rfl
  · rintro (w8 | w9)
    · conv => lhs; cbv
      first | done | rfl
    · rfl
def s_spec_l4Cmp (a0 : ByteArray) (a1 : ByteArray) : Option (Int) := bif prims.scmp .lss a0 a1 then (some (-1)) else (bif prims.scmp .gtr a0 a1 then (some 1) else (some 0))
def Has_s_spec_l4Cmp (F : Fns) : Prop := ∀ (a0 : ByteArray) (a1 : ByteArray), F 53 [.v (.at (.string a0)), .v (.at (.string a1))] = (s_spec_l4Cmp a0 a1).bind fun r => some [.v (.at (.int .i64 r))]
set_option maxHeartbeats 40000000 in
theorem e_s_spec_l4Cmp (F : Fns) (a0 : ByteArray) (a1 : ByteArray) : evBody prims (fun F lv => aloop F lv fuel) TY F ⟨Tryz.f53, Tryz.f53.body.getD .skip, fun _ => []⟩ [.v (.at (.string a0)), .v (.at (.string a1))] = (s_spec_l4Cmp a0 a1).bind fun r => some [.v (.at (.int .i64 r))] := by
  obtain ⟨p, hp⟩ : ∃ p : Prims, p = prims := ⟨_, rfl⟩
  rw [← hp]
  obtain ⟨p_arith, p_cmp, p_wrap, p_scmp, p_scat, p_catOk, p_ssize, p_sat, p_ssub, p_bytes, p_str, p_bnot, p_beq, p_min, p_max, p_len, p_int, p_nth, p_sub, p_rsub, p_ridx, p_rnth, p_rset, p_rapp, p_rlen, p_addN, p_full, p_fits, p_frz, p_own, p_opn, p_lend, p_rmov, p_rout, p_both, p_yI, p_ofB, p_byW, p_mkN, p_rep, p_copy⟩ := p
  have h_scmp : p_scmp = prims.scmp := congrArg Prims.scmp hp
  clear hp
  generalize hal : (fun (F : St → (Ex → St → Option (List Arg)) → Option (List Arg)) lv => aloop F lv fuel) = al
  rw [s_spec_l4Cmp, ← h_scmp]
  conv => lhs; cbv
  refine cC (fun hb1 => ?_) (fun hb1 => ?_)
  · rw [hb1]
    conv => lhs; cbv
    first | done | rfl
  · rw [hb1]
    conv => lhs; cbv
    refine cC (fun hb2 => ?_) (fun hb2 => ?_)
    · rw [hb2]
      conv => lhs; cbv
      first | done | rfl
    · rw [hb2]
      conv => lhs; cbv
      first | done | rfl
def s_spec_CompareNames_l1 (a0 : (List ByteArray)) (a1 : (List ByteArray)) : Int → Option ((Int) ⊕ ((Int) ⊕ (Int) ⊕ (Int)))
  | v1 => bif prims.cmp .lss v1 (prims.int (prims.len (List.map eS a0))) then (bif prims.cmp .lss v1 (prims.int (prims.len (List.map eS a1))) then ((nthI a0 v1).bind fun x4 => (nthI a1 v1).bind fun x6 => (s_spec_l4Cmp x4 x6).bind fun r8 => bif prims.cmp .neq r8 0 then (some (.inr (.inr (.inr (r8))))) else (some (.inl (prims.arith .add .i64 v1 1)))) else (some (.inr (.inl v1)))) else (some (.inr (.inr (.inl v1))))
def s_spec_CompareNames (a0 : (List ByteArray)) (a1 : (List ByteArray)) : Option (Int) := (whileO (s_spec_CompareNames_l1 a0 a1) fuel 0).bind fun g => match g with | .inl w11 => (bif prims.cmp .lss (prims.int (prims.len (List.map eS a0))) (prims.int (prims.len (List.map eS a1))) then (some (-1)) else (bif prims.cmp .gtr (prims.int (prims.len (List.map eS a0))) (prims.int (prims.len (List.map eS a1))) then (some 1) else (some 0))) | .inr (.inl w14) => (bif prims.cmp .lss (prims.int (prims.len (List.map eS a0))) (prims.int (prims.len (List.map eS a1))) then (some (-1)) else (bif prims.cmp .gtr (prims.int (prims.len (List.map eS a0))) (prims.int (prims.len (List.map eS a1))) then (some 1) else (some 0))) | .inr (.inr (w17)) => (some w17)
def Has_s_spec_CompareNames (F : Fns) : Prop := ∀ (a0 : (List ByteArray)) (a1 : (List ByteArray)), F 32 [.a [.sl 9 1 (List.map eS a0)], .a [.sl 9 1 (List.map eS a1)]] = (s_spec_CompareNames a0 a1).bind fun r => some [.v (.at (.int .i64 r))]
set_option maxHeartbeats 40000000 in
theorem e_s_spec_CompareNames (F : Fns) (hF_s_spec_l4Cmp : Has_s_spec_l4Cmp F) (a0 : (List ByteArray)) (a1 : (List ByteArray)) : evBody prims (fun F lv => aloop F lv fuel) TY F ⟨Tryz.f32, Tryz.f32.body.getD .skip, fun id => if id = 2 then [2, 3, 5] else []⟩ [.a [.sl 9 1 (List.map eS a0)], .a [.sl 9 1 (List.map eS a1)]] = (s_spec_CompareNames a0 a1).bind fun r => some [.v (.at (.int .i64 r))] := by
  obtain ⟨p, hp⟩ : ∃ p : Prims, p = prims := ⟨_, rfl⟩
  obtain ⟨m_string, hm_string⟩ : ∃ m, m = List.map eS := ⟨_, rfl⟩
  rw [← hp]
  rw [← hm_string]
  obtain ⟨p_arith, p_cmp, p_wrap, p_scmp, p_scat, p_catOk, p_ssize, p_sat, p_ssub, p_bytes, p_str, p_bnot, p_beq, p_min, p_max, p_len, p_int, p_nth, p_sub, p_rsub, p_ridx, p_rnth, p_rset, p_rapp, p_rlen, p_addN, p_full, p_fits, p_frz, p_own, p_opn, p_lend, p_rmov, p_rout, p_both, p_yI, p_ofB, p_byW, p_mkN, p_rep, p_copy⟩ := p
  have h_arith : p_arith = prims.arith := congrArg Prims.arith hp
  have h_cmp : p_cmp = prims.cmp := congrArg Prims.cmp hp
  have h_int : p_int = prims.int := congrArg Prims.int hp
  have h_len : p_len = prims.len := congrArg Prims.len hp
  have h_nth : p_nth = prims.nth := congrArg Prims.nth hp
  clear hp
  have nth_string := @nthF_string
  rw [← h_nth, ← hm_string] at nth_string
  unfold Has_s_spec_l4Cmp at hF_s_spec_l4Cmp
  generalize hal : (fun (F : St → (Ex → St → Option (List Arg)) → Option (List Arg)) lv => aloop F lv fuel) = al
  rw [s_spec_CompareNames, ← h_cmp, ← h_int, ← h_len, ← hm_string]
  conv => lhs; cbv
  refine (loop_al hal (fun v1 => ⟨[dd, dd, .c (.ptr (0, 0, 0) 1 0 0), .c (.ptr (0, 0, 1) 1 0 0), dd, .c (.at (.int .i64 v1)), dd, dd, dd, dd, dd, dd, dd, dd, dd, dd, dd, dd, dd, dd, dd, dd, dd, dd, dd, dd, dd, dd, dd, dd, dd, dd, dd, dd, dd, dd, dd, dd, dd, dd, dd, dd, dd, dd, dd, dd, dd, dd, dd, dd, dd], [((0, 0, 1), ⟨false, true, 45, 1, [[.rd true 9 1 (m_string a1)]]⟩), ((0, 0, 0), ⟨false, true, 45, 1, [[.rd true 9 1 (m_string a0)]]⟩)], 1⟩) (s_spec_CompareNames_l1 a0 a1) (fun K g => match g with | .inl v1 => K (.exit 0) ⟨[dd, dd, .c (.ptr (0, 0, 0) 1 0 0), .c (.ptr (0, 0, 1) 1 0 0), dd, .c (.at (.int .i64 v1)), dd, .c (.at (.int .i64 v1)), .c (.ptr (0, 0, 0) 1 0 0), .c (.rd true 9 1 (m_string a0)), .c (.at (.int .i64 (p_int (p_len (m_string a0))))), .c (.at (.bool true)), .c (.at (.bool true)), .c (.at (.int .i64 v1)), .c (.ptr (0, 0, 1) 1 0 0), .c (.rd true 9 1 (m_string a1)), .c (.at (.int .i64 (p_int (p_len (m_string a1))))), .c (.at (.bool false)), .c (.at (.bool false)), dd, dd, dd, dd, dd, dd, dd, dd, dd, dd, dd, dd, dd, dd, dd, dd, dd, dd, dd, dd, dd, dd, dd, dd, dd, dd, dd, dd, dd, dd, dd, dd], [((0, 0, 1), ⟨false, true, 45, 1, [[.rd true 9 1 (m_string a1)]]⟩), ((0, 0, 0), ⟨false, true, 45, 1, [[.rd true 9 1 (m_string a0)]]⟩)], 2⟩ | .inr (.inl v1) => K (.exit 0) ⟨[dd, dd, .c (.ptr (0, 0, 0) 1 0 0), .c (.ptr (0, 0, 1) 1 0 0), dd, .c (.at (.int .i64 v1)), dd, .c (.at (.int .i64 v1)), .c (.ptr (0, 0, 0) 1 0 0), .c (.rd true 9 1 (m_string a0)), .c (.at (.int .i64 (p_int (p_len (m_string a0))))), .c (.at (.bool false)), .c (.at (.bool false)), .c (.at undef), .c (.at undef), .c (.at undef), .c (.at undef), .c (.at undef), .c (.at (.bool false)), dd, dd, dd, dd, dd, dd, dd, dd, dd, dd, dd, dd, dd, dd, dd, dd, dd, dd, dd, dd, dd, dd, dd, dd, dd, dd, dd, dd, dd, dd, dd, dd], [((0, 0, 1), ⟨false, true, 45, 1, [[.rd true 9 1 (m_string a1)]]⟩), ((0, 0, 0), ⟨false, true, 45, 1, [[.rd true 9 1 (m_string a0)]]⟩)], 2⟩ | .inr (.inr (r)) => some [.v (.at (.int .i64 r))]) ?_ 0 _ (rfl)).trans (cL ?_)
  · rintro K1 hr1 v1 R1
    rw [s_spec_CompareNames_l1, ← h_arith, ← h_cmp, ← h_int, ← h_len, ← hm_string]
    conv => lhs; cbv
    refine cC (fun hb2 => ?_) (fun hb2 => ?_)
    · rw [hb2]
      conv => lhs; cbv
      refine cC (fun hb3 => ?_) (fun hb3 => ?_)
      · rw [hb3]
        conv => lhs; cbv
        rw [nth_string]
        refine cO (fun hx5 => ?_) ?_
        · rw [hx5]
          first | done | rfl
        · rintro x4 hx5
          rw [hx5]
          conv => lhs; cbv
          rw [nth_string]
          refine cO (fun hx7 => ?_) ?_
          · rw [hx7]
            first | done | rfl
          · rintro x6 hx7
            rw [hx7]
            conv => lhs; cbv
            rw [hF_s_spec_l4Cmp x4 x6]
            refine cO (fun hx9 => ?_) ?_
            · rw [hx9]
              first | done | rfl
            · rintro r8 hx9
              rw [hx9]
              conv => lhs; cbv
              refine cC (fun hb10 => ?_) (fun hb10 => ?_)
              · rw [hb10]
                conv => lhs; cbv
                rw [hr1]
                conv => lhs; cbv
                first | done | rfl
              · rw [hb10]
                conv => lhs; cbv
                first | done | rfl
      · rw [hb3]
        conv => lhs; cbv
        first | done | rfl
    · rw [hb2]
      conv => lhs; cbv
      first | done | rfl
  · rintro (w11 | w14 | w17)
    · conv => lhs; cbv
      refine cC (fun hb12 => ?_) (fun hb12 => ?_)
      · rw [hb12]
        conv => lhs; cbv
        first | done | rfl
      · rw [hb12]
        conv => lhs; cbv
        refine cC (fun hb13 => ?_) (fun hb13 => ?_)
        · rw [hb13]
          conv => lhs; cbv
          first | done | rfl
        · rw [hb13]
          conv => lhs; cbv
          first | done | rfl
    · conv => lhs; cbv
      refine cC (fun hb15 => ?_) (fun hb15 => ?_)
      · rw [hb15]
        conv => lhs; cbv
        first | done | rfl
      · rw [hb15]
        conv => lhs; cbv
        refine cC (fun hb16 => ?_) (fun hb16 => ?_)
        · rw [hb16]
          conv => lhs; cbv
          first | done | rfl
        · rw [hb16]
          conv => lhs; cbv
          first | done | rfl
    · rfl
def s_spec_ValidTable_l1 (a0 : (List DTableEntry)) : Int → Option ((Int) ⊕ ((Int) ⊕ (Bool)))
  | v1 => bif prims.cmp .lss v1 (prims.int (prims.len (List.map eTableEntry a0))) then ((nthI a0 v1).bind fun x3 => (s_spec_ValidName x3.name).bind fun r5 => bif prims.bnot r5 then (some (.inr (.inr (false)))) else (bif prims.cmp .gtr v1 0 then ((nthI a0 (prims.arith .sub .i64 v1 1)).bind fun x9 => (s_spec_CompareNames x9.name x3.name).bind fun r12 => bif prims.cmp .geq r12 0 then (some (.inr (.inr (false)))) else (some (.inl (prims.arith .add .i64 v1 1)))) else (some (.inl (prims.arith .add .i64 v1 1))))) else (some (.inr (.inl v1)))
def s_spec_ValidTable (a0 : (List DTableEntry)) : Option (Bool) := (whileO (s_spec_ValidTable_l1 a0) fuel 0).bind fun g => match g with | .inl w15 => (some (prims.cmp .leq (prims.int (prims.len (List.map eTableEntry a0))) 20)) | .inr (w16) => (some w16)
def Has_s_spec_ValidTable (F : Fns) : Prop := ∀ (a0 : (List DTableEntry)), F 51 [.v (.sl 92 2 (List.map eTableEntry a0))] = (s_spec_ValidTable a0).bind fun r => some [.v (.at (.bool r))]
set_option maxHeartbeats 40000000 in
theorem e_s_spec_ValidTable (F : Fns) (hF_s_spec_ValidName : Has_s_spec_ValidName F) (hF_s_spec_CompareNames : Has_s_spec_CompareNames F) (a0 : (List DTableEntry)) : evBody prims (fun F lv => aloop F lv fuel) TY F ⟨Tryz.f51, Tryz.f51.body.getD .skip, fun id => if id = 2 then [0, 3] else []⟩ [.v (.sl 92 2 (List.map eTableEntry a0))] = (s_spec_ValidTable a0).bind fun r => some [.v (.at (.bool r))] := by
  obtain ⟨p, hp⟩ : ∃ p : Prims, p = prims := ⟨_, rfl⟩
  obtain ⟨m_TableEntry, hm_TableEntry⟩ : ∃ m, m = List.map eTableEntry := ⟨_, rfl⟩
  obtain ⟨m_string, hm_string⟩ : ∃ m, m = List.map eS := ⟨_, rfl⟩
  rw [← hp]
  rw [← hm_TableEntry]
  obtain ⟨p_arith, p_cmp, p_wrap, p_scmp, p_scat, p_catOk, p_ssize, p_sat, p_ssub, p_bytes, p_str, p_bnot, p_beq, p_min, p_max, p_len, p_int, p_nth, p_sub, p_rsub, p_ridx, p_rnth, p_rset, p_rapp, p_rlen, p_addN, p_full, p_fits, p_frz, p_own, p_opn, p_lend, p_rmov, p_rout, p_both, p_yI, p_ofB, p_byW, p_mkN, p_rep, p_copy⟩ := p
  have h_arith : p_arith = prims.arith := congrArg Prims.arith hp
  have h_bnot : p_bnot = prims.bnot := congrArg Prims.bnot hp
  have h_cmp : p_cmp = prims.cmp := congrArg Prims.cmp hp
  have h_int : p_int = prims.int := congrArg Prims.int hp
  have h_len : p_len = prims.len := congrArg Prims.len hp
  have h_nth : p_nth = prims.nth := congrArg Prims.nth hp
  clear hp
  have nth_TableEntry := @nthF_TableEntry
  rw [← h_nth, ← hm_TableEntry, ← hm_string] at nth_TableEntry
  unfold Has_s_spec_ValidName at hF_s_spec_ValidName
  rw [← hm_string] at hF_s_spec_ValidName
  unfold Has_s_spec_CompareNames at hF_s_spec_CompareNames
  rw [← hm_string] at hF_s_spec_CompareNames
  generalize hal : (fun (F : St → (Ex → St → Option (List Arg)) → Option (List Arg)) lv => aloop F lv fuel) = al
  rw [s_spec_ValidTable, ← h_cmp, ← h_int, ← h_len, ← hm_TableEntry]
  conv => lhs; cbv
  refine (loop_al hal (fun v1 => ⟨[.c (.rd true 92 2 (m_TableEntry a0)), dd, dd, .c (.at (.int .i64 v1)), dd, dd, dd, dd, dd, dd, dd, dd, dd, dd, dd, dd, dd, dd, dd, dd, dd, dd, dd, dd, dd, dd, dd, dd, dd, dd, dd, dd, dd, dd, dd, dd, dd, dd, dd], [], 1⟩) (s_spec_ValidTable_l1 a0) (fun K g => match g with | .inl v1 => K (.exit 0) ⟨[.c (.rd true 92 2 (m_TableEntry a0)), dd, dd, .c (.at (.int .i64 v1)), .c (.at (.int .i64 v1)), .c (.rd true 92 2 (m_TableEntry a0)), .c (.at (.int .i64 (p_int (p_len (m_TableEntry a0))))), .c (.at (.bool false)), dd, dd, dd, dd, dd, dd, dd, dd, dd, dd, dd, dd, dd, dd, dd, dd, dd, dd, dd, dd, dd, dd, dd, dd, dd, dd, dd, dd, dd, dd, dd], [], 2⟩ | .inr (r) => some [.v (.at (.bool r))]) ?_ 0 _ (rfl)).trans (cL ?_)
  · rintro K1 hr1 v1 R1
    rw [s_spec_ValidTable_l1, ← h_arith, ← h_bnot, ← h_cmp, ← h_int, ← h_len, ← hm_TableEntry]
    conv => lhs; cbv
    refine cC (fun hb2 => ?_) (fun hb2 => ?_)
    · rw [hb2]
      conv => lhs; cbv
      rw [nth_TableEntry]
      refine cO (fun hx4 => ?_) ?_
      · rw [hx4]
        first | done | rfl
      · rintro x3 hx4
        rw [hx4]
        conv => lhs; cbv
        rw [hF_s_spec_ValidName x3.name]
        refine cO (fun hx6 => ?_) ?_
        · rw [hx6]
          first | done | rfl
        · rintro r5 hx6
          rw [hx6]
          conv => lhs; cbv
          refine cC (fun hb7 => ?_) (fun hb7 => ?_)
          · rw [hb7]
            conv => lhs; cbv
            rw [hr1]
            conv => lhs; cbv
            first | done | rfl
          · rw [hb7]
            conv => lhs; cbv
            refine cC (fun hb8 => ?_) (fun hb8 => ?_)
            · rw [hb8]
              conv => lhs; cbv
              rw [nth_TableEntry]
              refine cO (fun hx10 => ?_) ?_
              · rw [hx10]
                first | done | rfl
              · rintro x9 hx10
                rw [hx10]
                conv => lhs; cbv
                rw [nth_TableEntry]
                rw [hx4]
                conv => lhs; cbv
                rw [hF_s_spec_CompareNames x9.name x3.name]
                refine cO (fun hx13 => ?_) ?_
                · rw [hx13]
                  first | done | rfl
                · rintro r12 hx13
                  rw [hx13]
                  conv => lhs; cbv
                  refine cC (fun hb14 => ?_) (fun hb14 => ?_)
                  · rw [hb14]
                    conv => lhs; cbv
                    rw [hr1]
                    conv => lhs; cbv
                    first | done | rfl
                  · rw [hb14]
                    conv => lhs; cbv
                    first | done | rfl
            · rw [hb8]
              conv => lhs; cbv
              first | done | rfl
    · rw [hb2]
      conv => lhs; cbv
      first | done | rfl
  · rintro (w15 | w16)
    · conv => lhs; cbv
      first | done | rfl
    · rfl
def s_spec_ValidVector_l1 (a0 : (List DTableEntry)) : Int → Option ((Int) ⊕ ((Int) ⊕ (Bool)))
  | v1 => bif prims.cmp .lss v1 (prims.int (prims.len (List.map eTableEntry a0))) then ((nthI a0 v1).bind fun x3 => (s_spec_l1In x3.value 1 1000).bind fun r5 => bif prims.bnot r5 then (some (.inr (.inr (false)))) else (some (.inl (prims.arith .add .i64 v1 1)))) else (some (.inr (.inl v1)))
def s_spec_ValidVector (a0 : (List DTableEntry)) : Option (Bool) := (whileO (s_spec_ValidVector_l1 a0) fuel 0).bind fun g => match g with | .inl w8 => ((s_spec_ValidTable a0).bind fun r9 => some r9) | .inr (w11) => (some w11)
def Has_s_spec_ValidVector (F : Fns) : Prop := ∀ (a0 : (List DTableEntry)), F 28 [.a [.sl 92 2 (List.map eTableEntry a0)]] = (s_spec_ValidVector a0).bind fun r => some [.v (.at (.bool r))]
set_option maxHeartbeats 40000000 in
theorem e_s_spec_ValidVector (F : Fns) (hF_s_spec_l1In : Has_s_spec_l1In F) (hF_s_spec_ValidTable : Has_s_spec_ValidTable F) (a0 : (List DTableEntry)) : evBody prims (fun F lv => aloop F lv fuel) TY F ⟨Tryz.f28, Tryz.f28.body.getD .skip, fun id => if id = 2 then [1, 3] else []⟩ [.a [.sl 92 2 (List.map eTableEntry a0)]] = (s_spec_ValidVector a0).bind fun r => some [.v (.at (.bool r))] := by
  obtain ⟨p, hp⟩ : ∃ p : Prims, p = prims := ⟨_, rfl⟩
  obtain ⟨m_TableEntry, hm_TableEntry⟩ : ∃ m, m = List.map eTableEntry := ⟨_, rfl⟩
  obtain ⟨m_string, hm_string⟩ : ∃ m, m = List.map eS := ⟨_, rfl⟩
  rw [← hp]
  rw [← hm_TableEntry]
  obtain ⟨p_arith, p_cmp, p_wrap, p_scmp, p_scat, p_catOk, p_ssize, p_sat, p_ssub, p_bytes, p_str, p_bnot, p_beq, p_min, p_max, p_len, p_int, p_nth, p_sub, p_rsub, p_ridx, p_rnth, p_rset, p_rapp, p_rlen, p_addN, p_full, p_fits, p_frz, p_own, p_opn, p_lend, p_rmov, p_rout, p_both, p_yI, p_ofB, p_byW, p_mkN, p_rep, p_copy⟩ := p
  have h_arith : p_arith = prims.arith := congrArg Prims.arith hp
  have h_bnot : p_bnot = prims.bnot := congrArg Prims.bnot hp
  have h_cmp : p_cmp = prims.cmp := congrArg Prims.cmp hp
  have h_int : p_int = prims.int := congrArg Prims.int hp
  have h_len : p_len = prims.len := congrArg Prims.len hp
  have h_nth : p_nth = prims.nth := congrArg Prims.nth hp
  clear hp
  have nth_TableEntry := @nthF_TableEntry
  rw [← h_nth, ← hm_TableEntry, ← hm_string] at nth_TableEntry
  unfold Has_s_spec_l1In at hF_s_spec_l1In
  unfold Has_s_spec_ValidTable at hF_s_spec_ValidTable
  rw [← hm_TableEntry] at hF_s_spec_ValidTable
  generalize hal : (fun (F : St → (Ex → St → Option (List Arg)) → Option (List Arg)) lv => aloop F lv fuel) = al
  rw [s_spec_ValidVector]
  conv => lhs; cbv
  refine (loop_al hal (fun v1 => ⟨[dd, .c (.ptr (0, 0, 0) 1 0 0), dd, .c (.at (.int .i64 v1)), dd, dd, dd, dd, dd, dd, dd, dd, dd, dd, dd, dd, dd, dd, dd, dd, dd, dd], [((0, 0, 0), ⟨false, true, 48, 1, [[.rd true 92 2 (m_TableEntry a0)]]⟩)], 1⟩) (s_spec_ValidVector_l1 a0) (fun K g => match g with | .inl v1 => K (.exit 0) ⟨[dd, .c (.ptr (0, 0, 0) 1 0 0), dd, .c (.at (.int .i64 v1)), .c (.at (.int .i64 v1)), .c (.ptr (0, 0, 0) 1 0 0), .c (.rd true 92 2 (m_TableEntry a0)), .c (.at (.int .i64 (p_int (p_len (m_TableEntry a0))))), .c (.at (.bool false)), dd, dd, dd, dd, dd, dd, dd, dd, dd, dd, dd, dd, dd], [((0, 0, 0), ⟨false, true, 48, 1, [[.rd true 92 2 (m_TableEntry a0)]]⟩)], 2⟩ | .inr (r) => some [.v (.at (.bool r))]) ?_ 0 _ (rfl)).trans (cL ?_)
  · rintro K1 hr1 v1 R1
    rw [s_spec_ValidVector_l1, ← h_arith, ← h_bnot, ← h_cmp, ← h_int, ← h_len, ← hm_TableEntry]
    conv => lhs; cbv
    refine cC (fun hb2 => ?_) (fun hb2 => ?_)
    · rw [hb2]
      conv => lhs; cbv
      rw [nth_TableEntry]
      refine cO (fun hx4 => ?_) ?_
      · rw [hx4]
        first | done | rfl
      · rintro x3 hx4
        rw [hx4]
        conv => lhs; cbv
        rw [hF_s_spec_l1In x3.value 1 1000]
        refine cO (fun hx6 => ?_) ?_
        · rw [hx6]
          first | done | rfl
        · rintro r5 hx6
          rw [hx6]
          conv => lhs; cbv
          refine cC (fun hb7 => ?_) (fun hb7 => ?_)
          · rw [hb7]
            conv => lhs; cbv
            rw [hr1]
            conv => lhs; cbv
            first | done | rfl
          · rw [hb7]
            conv => lhs; cbv
            first | done | rfl
    · rw [hb2]
      conv => lhs; cbv
      first | done | rfl
  · rintro (w8 | w11)
    · conv => lhs; cbv
      rw [hF_s_spec_ValidTable a0]
      refine cO (fun hx10 => ?_) ?_
      · rw [hx10]
        first | done | rfl
      · rintro r9 hx10
        rw [hx10]
        conv => lhs; cbv
        first | done | rfl
    · rfl
def s_spec_VectorSum_l1 (a0 : (List DTableEntry)) : (Int × Int) → Option ((Int × Int) ⊕ ((Int × Int)))
  | (v1, v2) => bif prims.cmp .lss v2 (prims.int (prims.len (List.map eTableEntry a0))) then ((nthI a0 v2).bind fun x4 => some (.inl (prims.arith .add .i64 v1 x4.value, prims.arith .add .i64 v2 1))) else (some (.inr (v1, v2)))
def s_spec_VectorSum (a0 : (List DTableEntry)) : Option (Int) := (whileO (s_spec_VectorSum_l1 a0) fuel (0, 0)).bind fun ⟨w6, w7⟩ => some w6
def Has_s_spec_VectorSum (F : Fns) : Prop := ∀ (a0 : (List DTableEntry)), F 29 [.a [.sl 92 2 (List.map eTableEntry a0)]] = (s_spec_VectorSum a0).bind fun r => some [.v (.at (.int .i64 r))]
set_option maxHeartbeats 40000000 in
theorem e_s_spec_VectorSum (F : Fns) (a0 : (List DTableEntry)) : evBody prims (fun F lv => aloop F lv fuel) TY F ⟨Tryz.f29, Tryz.f29.body.getD .skip, fun id => if id = 3 then [1, 3, 4] else []⟩ [.a [.sl 92 2 (List.map eTableEntry a0)]] = (s_spec_VectorSum a0).bind fun r => some [.v (.at (.int .i64 r))] := by
  obtain ⟨p, hp⟩ : ∃ p : Prims, p = prims := ⟨_, rfl⟩
  obtain ⟨m_TableEntry, hm_TableEntry⟩ : ∃ m, m = List.map eTableEntry := ⟨_, rfl⟩
  obtain ⟨m_string, hm_string⟩ : ∃ m, m = List.map eS := ⟨_, rfl⟩
  rw [← hp]
  rw [← hm_TableEntry]
  obtain ⟨p_arith, p_cmp, p_wrap, p_scmp, p_scat, p_catOk, p_ssize, p_sat, p_ssub, p_bytes, p_str, p_bnot, p_beq, p_min, p_max, p_len, p_int, p_nth, p_sub, p_rsub, p_ridx, p_rnth, p_rset, p_rapp, p_rlen, p_addN, p_full, p_fits, p_frz, p_own, p_opn, p_lend, p_rmov, p_rout, p_both, p_yI, p_ofB, p_byW, p_mkN, p_rep, p_copy⟩ := p
  have h_arith : p_arith = prims.arith := congrArg Prims.arith hp
  have h_cmp : p_cmp = prims.cmp := congrArg Prims.cmp hp
  have h_int : p_int = prims.int := congrArg Prims.int hp
  have h_len : p_len = prims.len := congrArg Prims.len hp
  have h_nth : p_nth = prims.nth := congrArg Prims.nth hp
  clear hp
  have nth_TableEntry := @nthF_TableEntry
  rw [← h_nth, ← hm_TableEntry, ← hm_string] at nth_TableEntry
  generalize hal : (fun (F : St → (Ex → St → Option (List Arg)) → Option (List Arg)) lv => aloop F lv fuel) = al
  rw [s_spec_VectorSum]
  conv => lhs; cbv
  refine (loop_al hal (fun x => match x with | (v1, v2) => ⟨[dd, .c (.ptr (0, 0, 0) 1 0 0), dd, .c (.at (.int .i64 v1)), .c (.at (.int .i64 v2)), dd, dd, dd, dd, dd, dd, dd, dd, dd, dd, dd, dd, dd, dd, dd, dd], [((0, 0, 0), ⟨false, true, 48, 1, [[.rd true 92 2 (m_TableEntry a0)]]⟩)], 1⟩) (s_spec_VectorSum_l1 a0) (fun K g => match g with | (v1, v2) => K (.exit 0) ⟨[dd, .c (.ptr (0, 0, 0) 1 0 0), dd, .c (.at (.int .i64 v1)), .c (.at (.int .i64 v2)), .c (.at (.int .i64 v2)), .c (.ptr (0, 0, 0) 1 0 0), .c (.rd true 92 2 (m_TableEntry a0)), .c (.at (.int .i64 (p_int (p_len (m_TableEntry a0))))), .c (.at (.bool false)), dd, dd, dd, dd, dd, dd, dd, dd, dd, dd, dd], [((0, 0, 0), ⟨false, true, 48, 1, [[.rd true 92 2 (m_TableEntry a0)]]⟩)], 2⟩) ?_ (0, 0) _ (rfl)).trans (cL ?_)
  · rintro K1 hr1 ⟨v1, v2⟩ R1
    rw [s_spec_VectorSum_l1, ← h_arith, ← h_cmp, ← h_int, ← h_len, ← hm_TableEntry]
    conv => lhs; cbv
    refine cC (fun hb3 => ?_) (fun hb3 => ?_)
    · rw [hb3]
      conv => lhs; cbv
      rw [nth_TableEntry]
      refine cO (fun hx5 => ?_) ?_
      · rw [hx5]
        first | done | rfl
      · rintro x4 hx5
        rw [hx5]
        conv => lhs; cbv
        first | done | rfl
    · rw [hb3]
      conv => lhs; cbv
      first | done | rfl
  · rintro ⟨w6, w7⟩
    conv => lhs; cbv
    first | done | rfl
def s_spec_EqualNames (a0 : (List ByteArray)) (a1 : (List ByteArray)) : Option (Bool) := (s_spec_CompareNames a0 a1).bind fun r1 => some (prims.cmp .eql r1 0)
def Has_s_spec_EqualNames (F : Fns) : Prop := ∀ (a0 : (List ByteArray)) (a1 : (List ByteArray)), F 13 [.a [.sl 9 1 (List.map eS a0)], .a [.sl 9 1 (List.map eS a1)]] = (s_spec_EqualNames a0 a1).bind fun r => some [.v (.at (.bool r))]
set_option maxHeartbeats 40000000 in
theorem e_s_spec_EqualNames (F : Fns) (hF_s_spec_CompareNames : Has_s_spec_CompareNames F) (a0 : (List ByteArray)) (a1 : (List ByteArray)) : evBody prims (fun F lv => aloop F lv fuel) TY F ⟨Tryz.f13, Tryz.f13.body.getD .skip, fun _ => []⟩ [.a [.sl 9 1 (List.map eS a0)], .a [.sl 9 1 (List.map eS a1)]] = (s_spec_EqualNames a0 a1).bind fun r => some [.v (.at (.bool r))] := by
  obtain ⟨p, hp⟩ : ∃ p : Prims, p = prims := ⟨_, rfl⟩
  obtain ⟨m_string, hm_string⟩ : ∃ m, m = List.map eS := ⟨_, rfl⟩
  rw [← hp]
  rw [← hm_string]
  obtain ⟨p_arith, p_cmp, p_wrap, p_scmp, p_scat, p_catOk, p_ssize, p_sat, p_ssub, p_bytes, p_str, p_bnot, p_beq, p_min, p_max, p_len, p_int, p_nth, p_sub, p_rsub, p_ridx, p_rnth, p_rset, p_rapp, p_rlen, p_addN, p_full, p_fits, p_frz, p_own, p_opn, p_lend, p_rmov, p_rout, p_both, p_yI, p_ofB, p_byW, p_mkN, p_rep, p_copy⟩ := p
  have h_cmp : p_cmp = prims.cmp := congrArg Prims.cmp hp
  clear hp
  unfold Has_s_spec_CompareNames at hF_s_spec_CompareNames
  rw [← hm_string] at hF_s_spec_CompareNames
  generalize hal : (fun (F : St → (Ex → St → Option (List Arg)) → Option (List Arg)) lv => aloop F lv fuel) = al
  rw [s_spec_EqualNames, ← h_cmp]
  conv => lhs; cbv
  rw [hF_s_spec_CompareNames a0 a1]
  refine cO (fun hx2 => ?_) ?_
  · rw [hx2]
    first | done | rfl
  · rintro r1 hx2
    rw [hx2]
    conv => lhs; cbv
    first | done | rfl
def s_spec_l6Find_l1 (a0 : (List DTableEntry)) (a1 : (List ByteArray)) : Int → Option ((Int) ⊕ ((Int) ⊕ (Int)))
  | v1 => bif prims.cmp .lss v1 (prims.int (prims.len (List.map eTableEntry a0))) then ((nthI a0 v1).bind fun x3 => (s_spec_EqualNames x3.name a1).bind fun r5 => bif r5 then (some (.inr (.inr (v1)))) else (some (.inl (prims.arith .add .i64 v1 1)))) else (some (.inr (.inl v1)))
def s_spec_l6Find (a0 : (List DTableEntry)) (a1 : (List ByteArray)) : Option (Int) := (whileO (s_spec_l6Find_l1 a0 a1) fuel 0).bind fun g => match g with | .inl w8 => (some (-1)) | .inr (w9) => (some w9)
def Has_s_spec_l6Find (F : Fns) : Prop := ∀ (a0 : (List DTableEntry)) (a1 : (List ByteArray)), F 77 [.v (.sl 92 2 (List.map eTableEntry a0)), .a [.sl 9 1 (List.map eS a1)]] = (s_spec_l6Find a0 a1).bind fun r => some [.v (.at (.int .i64 r))]
set_option maxHeartbeats 40000000 in
theorem e_s_spec_l6Find (F : Fns) (hF_s_spec_EqualNames : Has_s_spec_EqualNames F) (a0 : (List DTableEntry)) (a1 : (List ByteArray)) : evBody prims (fun F lv => aloop F lv fuel) TY F ⟨Tryz.f77, Tryz.f77.body.getD .skip, fun id => if id = 2 then [0, 3, 5] else []⟩ [.v (.sl 92 2 (List.map eTableEntry a0)), .a [.sl 9 1 (List.map eS a1)]] = (s_spec_l6Find a0 a1).bind fun r => some [.v (.at (.int .i64 r))] := by
  obtain ⟨p, hp⟩ : ∃ p : Prims, p = prims := ⟨_, rfl⟩
  obtain ⟨m_TableEntry, hm_TableEntry⟩ : ∃ m, m = List.map eTableEntry := ⟨_, rfl⟩
  obtain ⟨m_string, hm_string⟩ : ∃ m, m = List.map eS := ⟨_, rfl⟩
  rw [← hp]
  rw [← hm_TableEntry, ← hm_string]
  obtain ⟨p_arith, p_cmp, p_wrap, p_scmp, p_scat, p_catOk, p_ssize, p_sat, p_ssub, p_bytes, p_str, p_bnot, p_beq, p_min, p_max, p_len, p_int, p_nth, p_sub, p_rsub, p_ridx, p_rnth, p_rset, p_rapp, p_rlen, p_addN, p_full, p_fits, p_frz, p_own, p_opn, p_lend, p_rmov, p_rout, p_both, p_yI, p_ofB, p_byW, p_mkN, p_rep, p_copy⟩ := p
  have h_arith : p_arith = prims.arith := congrArg Prims.arith hp
  have h_cmp : p_cmp = prims.cmp := congrArg Prims.cmp hp
  have h_int : p_int = prims.int := congrArg Prims.int hp
  have h_len : p_len = prims.len := congrArg Prims.len hp
  have h_nth : p_nth = prims.nth := congrArg Prims.nth hp
  clear hp
  have nth_TableEntry := @nthF_TableEntry
  rw [← h_nth, ← hm_TableEntry, ← hm_string] at nth_TableEntry
  unfold Has_s_spec_EqualNames at hF_s_spec_EqualNames
  rw [← hm_string] at hF_s_spec_EqualNames
  generalize hal : (fun (F : St → (Ex → St → Option (List Arg)) → Option (List Arg)) lv => aloop F lv fuel) = al
  rw [s_spec_l6Find]
  conv => lhs; cbv
  refine (loop_al hal (fun v1 => ⟨[.c (.rd true 92 2 (m_TableEntry a0)), dd, dd, .c (.ptr (0, 0, 0) 1 0 0), dd, .c (.at (.int .i64 v1)), dd, dd, dd, dd, dd, dd, dd, dd, dd, dd, dd, dd, dd, dd], [((0, 0, 0), ⟨false, true, 45, 1, [[.rd true 9 1 (m_string a1)]]⟩)], 1⟩) (s_spec_l6Find_l1 a0 a1) (fun K g => match g with | .inl v1 => K (.exit 0) ⟨[.c (.rd true 92 2 (m_TableEntry a0)), dd, dd, .c (.ptr (0, 0, 0) 1 0 0), dd, .c (.at (.int .i64 v1)), .c (.at (.int .i64 v1)), .c (.rd true 92 2 (m_TableEntry a0)), .c (.at (.int .i64 (p_int (p_len (m_TableEntry a0))))), .c (.at (.bool false)), dd, dd, dd, dd, dd, dd, dd, dd, dd, dd], [((0, 0, 0), ⟨false, true, 45, 1, [[.rd true 9 1 (m_string a1)]]⟩)], 2⟩ | .inr (r) => some [.v (.at (.int .i64 r))]) ?_ 0 _ (rfl)).trans (cL ?_)
  · rintro K1 hr1 v1 R1
    rw [s_spec_l6Find_l1, ← h_arith, ← h_cmp, ← h_int, ← h_len, ← hm_TableEntry]
    conv => lhs; cbv
    refine cC (fun hb2 => ?_) (fun hb2 => ?_)
    · rw [hb2]
      conv => lhs; cbv
      rw [nth_TableEntry]
      refine cO (fun hx4 => ?_) ?_
      · rw [hx4]
        first | done | rfl
      · rintro x3 hx4
        rw [hx4]
        conv => lhs; cbv
        rw [hF_s_spec_EqualNames x3.name a1]
        refine cO (fun hx6 => ?_) ?_
        · rw [hx6]
          first | done | rfl
        · rintro r5 hx6
          rw [hx6]
          conv => lhs; cbv
          refine cC (fun hb7 => ?_) (fun hb7 => ?_)
          · rw [hb7]
            conv => lhs; cbv
            rw [hr1]
            conv => lhs; cbv
            first | done | rfl
          · rw [hb7]
            conv => lhs; cbv
            first | done | rfl
    · rw [hb2]
      conv => lhs; cbv
      first | done | rfl
  · rintro (w8 | w9)
    · conv => lhs; cbv
      first | done | rfl
    · rfl
def s_spec_LookupEntry (a0 : (List DTableEntry)) (a1 : (List ByteArray)) : Option (Int × Bool) := (s_spec_l6Find a0 a1).bind fun r1 => bif prims.cmp .lss r1 0 then (some (0, false)) else ((nthI a0 r1).bind fun x4 => some (x4.value, true))
def Has_s_spec_LookupEntry (F : Fns) : Prop := ∀ (a0 : (List DTableEntry)) (a1 : (List ByteArray)), F 52 [.v (.sl 92 2 (List.map eTableEntry a0)), .a [.sl 9 1 (List.map eS a1)]] = (s_spec_LookupEntry a0 a1).bind fun r => some [.v (.at (.int .i64 r.1)), .v (.at (.bool r.2))]
set_option maxHeartbeats 40000000 in
theorem e_s_spec_LookupEntry (F : Fns) (hF_s_spec_l6Find : Has_s_spec_l6Find F) (a0 : (List DTableEntry)) (a1 : (List ByteArray)) : evBody prims (fun F lv => aloop F lv fuel) TY F ⟨Tryz.f52, Tryz.f52.body.getD .skip, fun _ => []⟩ [.v (.sl 92 2 (List.map eTableEntry a0)), .a [.sl 9 1 (List.map eS a1)]] = (s_spec_LookupEntry a0 a1).bind fun r => some [.v (.at (.int .i64 r.1)), .v (.at (.bool r.2))] := by
  obtain ⟨p, hp⟩ : ∃ p : Prims, p = prims := ⟨_, rfl⟩
  obtain ⟨m_TableEntry, hm_TableEntry⟩ : ∃ m, m = List.map eTableEntry := ⟨_, rfl⟩
  obtain ⟨m_string, hm_string⟩ : ∃ m, m = List.map eS := ⟨_, rfl⟩
  rw [← hp]
  rw [← hm_TableEntry, ← hm_string]
  obtain ⟨p_arith, p_cmp, p_wrap, p_scmp, p_scat, p_catOk, p_ssize, p_sat, p_ssub, p_bytes, p_str, p_bnot, p_beq, p_min, p_max, p_len, p_int, p_nth, p_sub, p_rsub, p_ridx, p_rnth, p_rset, p_rapp, p_rlen, p_addN, p_full, p_fits, p_frz, p_own, p_opn, p_lend, p_rmov, p_rout, p_both, p_yI, p_ofB, p_byW, p_mkN, p_rep, p_copy⟩ := p
  have h_cmp : p_cmp = prims.cmp := congrArg Prims.cmp hp
  have h_nth : p_nth = prims.nth := congrArg Prims.nth hp
  clear hp
  have nth_TableEntry := @nthF_TableEntry
  rw [← h_nth, ← hm_TableEntry, ← hm_string] at nth_TableEntry
  unfold Has_s_spec_l6Find at hF_s_spec_l6Find
  rw [← hm_TableEntry, ← hm_string] at hF_s_spec_l6Find
  generalize hal : (fun (F : St → (Ex → St → Option (List Arg)) → Option (List Arg)) lv => aloop F lv fuel) = al
  rw [s_spec_LookupEntry, ← h_cmp]
  conv => lhs; cbv
  rw [hF_s_spec_l6Find a0 a1]
  refine cO (fun hx2 => ?_) ?_
  · rw [hx2]
    first | done | rfl
  · rintro r1 hx2
    rw [hx2]
    conv => lhs; cbv
    refine cC (fun hb3 => ?_) (fun hb3 => ?_)
    · rw [hb3]
      conv => lhs; cbv
      first | done | rfl
    · rw [hb3]
      conv => lhs; cbv
      rw [nth_TableEntry]
      refine cO (fun hx5 => ?_) ?_
      · rw [hx5]
        first | done | rfl
      · rintro x4 hx5
        rw [hx5]
        conv => lhs; cbv
        first | done | rfl
def s_spec_SeqOf (a0 : (List DTableEntry)) (a1 : (List ByteArray)) : Option (Int) := (s_spec_LookupEntry a0 a1).bind fun ⟨r1_0, r1_1⟩ => some r1_0
def Has_s_spec_SeqOf (F : Fns) : Prop := ∀ (a0 : (List DTableEntry)) (a1 : (List ByteArray)), F 30 [.a [.sl 92 2 (List.map eTableEntry a0)], .a [.sl 9 1 (List.map eS a1)]] = (s_spec_SeqOf a0 a1).bind fun r => some [.v (.at (.int .i64 r))]
set_option maxHeartbeats 40000000 in
theorem e_s_spec_SeqOf (F : Fns) (hF_s_spec_LookupEntry : Has_s_spec_LookupEntry F) (a0 : (List DTableEntry)) (a1 : (List ByteArray)) : evBody prims (fun F lv => aloop F lv fuel) TY F ⟨Tryz.f30, Tryz.f30.body.getD .skip, fun _ => []⟩ [.a [.sl 92 2 (List.map eTableEntry a0)], .a [.sl 9 1 (List.map eS a1)]] = (s_spec_SeqOf a0 a1).bind fun r => some [.v (.at (.int .i64 r))] := by
  obtain ⟨p, hp⟩ : ∃ p : Prims, p = prims := ⟨_, rfl⟩
  obtain ⟨m_TableEntry, hm_TableEntry⟩ : ∃ m, m = List.map eTableEntry := ⟨_, rfl⟩
  obtain ⟨m_string, hm_string⟩ : ∃ m, m = List.map eS := ⟨_, rfl⟩
  rw [← hp]
  rw [← hm_TableEntry, ← hm_string]
  obtain ⟨p_arith, p_cmp, p_wrap, p_scmp, p_scat, p_catOk, p_ssize, p_sat, p_ssub, p_bytes, p_str, p_bnot, p_beq, p_min, p_max, p_len, p_int, p_nth, p_sub, p_rsub, p_ridx, p_rnth, p_rset, p_rapp, p_rlen, p_addN, p_full, p_fits, p_frz, p_own, p_opn, p_lend, p_rmov, p_rout, p_both, p_yI, p_ofB, p_byW, p_mkN, p_rep, p_copy⟩ := p
  clear hp
  unfold Has_s_spec_LookupEntry at hF_s_spec_LookupEntry
  rw [← hm_TableEntry, ← hm_string] at hF_s_spec_LookupEntry
  generalize hal : (fun (F : St → (Ex → St → Option (List Arg)) → Option (List Arg)) lv => aloop F lv fuel) = al
  rw [s_spec_SeqOf]
  conv => lhs; cbv
  rw [hF_s_spec_LookupEntry a0 a1]
  refine cO (fun hx2 => ?_) ?_
  · rw [hx2]
    first | done | rfl
  · rintro ⟨r1_0, r1_1⟩ hx2
    rw [hx2]
    conv => lhs; cbv
    first | done | rfl
def s_spec_l28Find_l1 (a0 : (List DPublication)) (a1 : (List ByteArray)) (a2 : Int) : Int → Option ((Int) ⊕ ((Int) ⊕ (Int)))
  | v1 => bif prims.cmp .lss v1 (prims.int (prims.len (List.map ePublication a0))) then ((nthI a0 v1).bind fun x3 => bif prims.cmp .eql x3.seq a2 then ((s_spec_EqualNames x3.publisher a1).bind fun r7 => bif r7 then (some (.inr (.inr (v1)))) else (some (.inl (prims.arith .add .i64 v1 1)))) else (some (.inl (prims.arith .add .i64 v1 1)))) else (some (.inr (.inl v1)))
def s_spec_l28Find (a0 : (List DPublication)) (a1 : (List ByteArray)) (a2 : Int) : Option (Int) := (whileO (s_spec_l28Find_l1 a0 a1 a2) fuel 0).bind fun g => match g with | .inl w10 => (some (-1)) | .inr (w11) => (some w11)
def Has_s_spec_l28Find (F : Fns) : Prop := ∀ (a0 : (List DPublication)) (a1 : (List ByteArray)) (a2 : Int), F 31 [.v (.sl 76 3 (List.map ePublication a0)), .a [.sl 9 1 (List.map eS a1)], .v (.at (.int .i64 a2))] = (s_spec_l28Find a0 a1 a2).bind fun r => some [.v (.at (.int .i64 r))]
set_option maxHeartbeats 40000000 in
theorem e_s_spec_l28Find (F : Fns) (hF_s_spec_EqualNames : Has_s_spec_EqualNames F) (a0 : (List DPublication)) (a1 : (List ByteArray)) (a2 : Int) : evBody prims (fun F lv => aloop F lv fuel) TY F ⟨Tryz.f31, Tryz.f31.body.getD .skip, fun id => if id = 2 then [0, 2, 4, 7] else []⟩ [.v (.sl 76 3 (List.map ePublication a0)), .a [.sl 9 1 (List.map eS a1)], .v (.at (.int .i64 a2))] = (s_spec_l28Find a0 a1 a2).bind fun r => some [.v (.at (.int .i64 r))] := by
  obtain ⟨p, hp⟩ : ∃ p : Prims, p = prims := ⟨_, rfl⟩
  obtain ⟨m_Publication, hm_Publication⟩ : ∃ m, m = List.map ePublication := ⟨_, rfl⟩
  obtain ⟨m_byte, hm_byte⟩ : ∃ m, m = List.map eY := ⟨_, rfl⟩
  obtain ⟨m_string, hm_string⟩ : ∃ m, m = List.map eS := ⟨_, rfl⟩
  rw [← hp]
  rw [← hm_Publication, ← hm_string]
  obtain ⟨p_arith, p_cmp, p_wrap, p_scmp, p_scat, p_catOk, p_ssize, p_sat, p_ssub, p_bytes, p_str, p_bnot, p_beq, p_min, p_max, p_len, p_int, p_nth, p_sub, p_rsub, p_ridx, p_rnth, p_rset, p_rapp, p_rlen, p_addN, p_full, p_fits, p_frz, p_own, p_opn, p_lend, p_rmov, p_rout, p_both, p_yI, p_ofB, p_byW, p_mkN, p_rep, p_copy⟩ := p
  have h_arith : p_arith = prims.arith := congrArg Prims.arith hp
  have h_cmp : p_cmp = prims.cmp := congrArg Prims.cmp hp
  have h_int : p_int = prims.int := congrArg Prims.int hp
  have h_len : p_len = prims.len := congrArg Prims.len hp
  have h_nth : p_nth = prims.nth := congrArg Prims.nth hp
  clear hp
  have nth_Publication := @nthF_Publication
  rw [← h_nth, ← hm_Publication, ← hm_byte, ← hm_string] at nth_Publication
  unfold Has_s_spec_EqualNames at hF_s_spec_EqualNames
  rw [← hm_string] at hF_s_spec_EqualNames
  generalize hal : (fun (F : St → (Ex → St → Option (List Arg)) → Option (List Arg)) lv => aloop F lv fuel) = al
  rw [s_spec_l28Find]
  conv => lhs; cbv
  refine (loop_al hal (fun v1 => ⟨[.c (.rd true 76 3 (m_Publication a0)), dd, .c (.at (.int .i64 a2)), dd, .c (.ptr (0, 0, 0) 1 0 0), dd, dd, .c (.at (.int .i64 v1)), dd, dd, dd, dd, dd, dd, dd, dd, dd, dd, dd, dd, dd, dd, dd, dd, dd, dd, dd, dd, dd, dd, dd], [((0, 0, 0), ⟨false, true, 45, 1, [[.rd true 9 1 (m_string a1)]]⟩)], 1⟩) (s_spec_l28Find_l1 a0 a1 a2) (fun K g => match g with | .inl v1 => K (.exit 0) ⟨[.c (.rd true 76 3 (m_Publication a0)), dd, .c (.at (.int .i64 a2)), dd, .c (.ptr (0, 0, 0) 1 0 0), dd, dd, .c (.at (.int .i64 v1)), .c (.at (.int .i64 v1)), .c (.rd true 76 3 (m_Publication a0)), .c (.at (.int .i64 (p_int (p_len (m_Publication a0))))), .c (.at (.bool false)), dd, dd, dd, dd, dd, dd, dd, dd, dd, dd, dd, dd, dd, dd, dd, dd, dd, dd, dd], [((0, 0, 0), ⟨false, true, 45, 1, [[.rd true 9 1 (m_string a1)]]⟩)], 2⟩ | .inr (r) => some [.v (.at (.int .i64 r))]) ?_ 0 _ (rfl)).trans (cL ?_)
  · rintro K1 hr1 v1 R1
    rw [s_spec_l28Find_l1, ← h_arith, ← h_cmp, ← h_int, ← h_len, ← hm_Publication]
    conv => lhs; cbv
    refine cC (fun hb2 => ?_) (fun hb2 => ?_)
    · rw [hb2]
      conv => lhs; cbv
      rw [nth_Publication]
      refine cO (fun hx4 => ?_) ?_
      · rw [hx4]
        first | done | rfl
      · rintro x3 hx4
        rw [hx4]
        conv => lhs; cbv
        refine cC (fun hb5 => ?_) (fun hb5 => ?_)
        · rw [hb5]
          conv => lhs; cbv
          rw [nth_Publication]
          rw [hx4]
          conv => lhs; cbv
          rw [hF_s_spec_EqualNames x3.publisher a1]
          refine cO (fun hx8 => ?_) ?_
          · rw [hx8]
            first | done | rfl
          · rintro r7 hx8
            rw [hx8]
            conv => lhs; cbv
            refine cC (fun hb9 => ?_) (fun hb9 => ?_)
            · rw [hb9]
              conv => lhs; cbv
              rw [hr1]
              conv => lhs; cbv
              first | done | rfl
            · rw [hb9]
              conv => lhs; cbv
              first | done | rfl
        · rw [hb5]
          conv => lhs; cbv
          first | done | rfl
    · rw [hb2]
      conv => lhs; cbv
      first | done | rfl
  · rintro (w10 | w11)
    · conv => lhs; cbv
      first | done | rfl
    · rfl
def s_spec_ValidMember_l1 (a0 : DMember) : Int → Option ((Int) ⊕ ((Int) ⊕ (Bool)))
  | v12 => bif prims.cmp .lss v12 (prims.int (prims.len (List.map ePublication a0.publications))) then ((nthI a0.publications v12).bind fun x14 => (s_spec_SeqOf a0.vector x14.publisher).bind fun r16 => (s_spec_l1In x14.seq 1 r16).bind fun r18 => bif prims.bnot r18 then (some (.inr (.inr (false)))) else (bif prims.cmp .gtr (prims.int (prims.len (List.map eY x14.content))) 60 then (some (.inr (.inr (false)))) else ((subI a0.publications none (some v12)).bind fun x22 => (s_spec_l28Find x22 x14.publisher x14.seq).bind fun r24 => bif prims.cmp .geq r24 0 then (some (.inr (.inr (false)))) else (some (.inl (prims.arith .add .i64 v12 1)))))) else (some (.inr (.inl v12)))
def s_spec_ValidMember (a0 : DMember) : Option (Bool) := (s_spec_ValidName a0.name).bind fun r1 => bif prims.bnot r1 then (some false) else (bif prims.cmp .eql (prims.int (prims.len (List.map eS a0.name))) 0 then (some false) else ((s_spec_ValidVector a0.vector).bind fun r5 => bif prims.bnot r5 then (some false) else (bif prims.cmp .gtr (prims.int (prims.len (List.map ePublication a0.publications))) 16 then (some false) else ((s_spec_VectorSum a0.vector).bind fun r9 => bif prims.cmp .neq (prims.int (prims.len (List.map ePublication a0.publications))) r9 then (some false) else ((whileO (s_spec_ValidMember_l1 a0) fuel 0).bind fun g => match g with | .inl w27 => (some true) | .inr (w28) => (some w28))))))
def Has_s_spec_ValidMember (F : Fns) : Prop := ∀ (a0 : DMember), F 12 [.a [.sl 9 1 (List.map eS a0.name), .sl 92 2 (List.map eTableEntry a0.vector), .sl 76 3 (List.map ePublication a0.publications)]] = (s_spec_ValidMember a0).bind fun r => some [.v (.at (.bool r))]
set_option maxHeartbeats 40000000 in
theorem e_s_spec_ValidMember (F : Fns) (hF_s_spec_ValidName : Has_s_spec_ValidName F) (hF_s_spec_ValidVector : Has_s_spec_ValidVector F) (hF_s_spec_VectorSum : Has_s_spec_VectorSum F) (hF_s_spec_SeqOf : Has_s_spec_SeqOf F) (hF_s_spec_l1In : Has_s_spec_l1In F) (hF_s_spec_l28Find : Has_s_spec_l28Find F) (a0 : DMember) : evBody prims (fun F lv => aloop F lv fuel) TY F ⟨Tryz.f12, Tryz.f12.body.getD .skip, fun id => if id = 4 then [1, 3] else []⟩ [.a [.sl 9 1 (List.map eS a0.name), .sl 92 2 (List.map eTableEntry a0.vector), .sl 76 3 (List.map ePublication a0.publications)]] = (s_spec_ValidMember a0).bind fun r => some [.v (.at (.bool r))] := by
  obtain ⟨p, hp⟩ : ∃ p : Prims, p = prims := ⟨_, rfl⟩
  obtain ⟨m_Publication, hm_Publication⟩ : ∃ m, m = List.map ePublication := ⟨_, rfl⟩
  obtain ⟨m_TableEntry, hm_TableEntry⟩ : ∃ m, m = List.map eTableEntry := ⟨_, rfl⟩
  obtain ⟨m_byte, hm_byte⟩ : ∃ m, m = List.map eY := ⟨_, rfl⟩
  obtain ⟨m_string, hm_string⟩ : ∃ m, m = List.map eS := ⟨_, rfl⟩
  rw [← hp]
  rw [← hm_Publication, ← hm_TableEntry, ← hm_string]
  obtain ⟨p_arith, p_cmp, p_wrap, p_scmp, p_scat, p_catOk, p_ssize, p_sat, p_ssub, p_bytes, p_str, p_bnot, p_beq, p_min, p_max, p_len, p_int, p_nth, p_sub, p_rsub, p_ridx, p_rnth, p_rset, p_rapp, p_rlen, p_addN, p_full, p_fits, p_frz, p_own, p_opn, p_lend, p_rmov, p_rout, p_both, p_yI, p_ofB, p_byW, p_mkN, p_rep, p_copy⟩ := p
  have h_arith : p_arith = prims.arith := congrArg Prims.arith hp
  have h_bnot : p_bnot = prims.bnot := congrArg Prims.bnot hp
  have h_cmp : p_cmp = prims.cmp := congrArg Prims.cmp hp
  have h_int : p_int = prims.int := congrArg Prims.int hp
  have h_len : p_len = prims.len := congrArg Prims.len hp
  have h_nth : p_nth = prims.nth := congrArg Prims.nth hp
  have h_sub : p_sub = prims.sub := congrArg Prims.sub hp
  clear hp
  have nth_Publication := @nthF_Publication
  rw [← h_nth, ← hm_Publication, ← hm_byte, ← hm_string] at nth_Publication
  have sub_Publication := @subF_Publication
  rw [← h_sub, ← hm_Publication] at sub_Publication
  unfold Has_s_spec_ValidName at hF_s_spec_ValidName
  rw [← hm_string] at hF_s_spec_ValidName
  unfold Has_s_spec_ValidVector at hF_s_spec_ValidVector
  rw [← hm_TableEntry] at hF_s_spec_ValidVector
  unfold Has_s_spec_VectorSum at hF_s_spec_VectorSum
  rw [← hm_TableEntry] at hF_s_spec_VectorSum
  unfold Has_s_spec_SeqOf at hF_s_spec_SeqOf
  rw [← hm_TableEntry, ← hm_string] at hF_s_spec_SeqOf
  unfold Has_s_spec_l1In at hF_s_spec_l1In
  unfold Has_s_spec_l28Find at hF_s_spec_l28Find
  rw [← hm_Publication, ← hm_string] at hF_s_spec_l28Find
  generalize hal : (fun (F : St → (Ex → St → Option (List Arg)) → Option (List Arg)) lv => aloop F lv fuel) = al
  rw [s_spec_ValidMember, ← h_bnot, ← h_cmp, ← h_int, ← h_len, ← hm_Publication, ← hm_string]
  conv => lhs; cbv
  rw [hF_s_spec_ValidName a0.name]
  refine cO (fun hx2 => ?_) ?_
  · rw [hx2]
    first | done | rfl
  · rintro r1 hx2
    rw [hx2]
    conv => lhs; cbv
    refine cC (fun hb3 => ?_) (fun hb3 => ?_)
    · rw [hb3]
      conv => lhs; cbv
      first | done | rfl
    · rw [hb3]
      conv => lhs; cbv
      refine cC (fun hb4 => ?_) (fun hb4 => ?_)
      · rw [hb4]
        conv => lhs; cbv
        first | done | rfl
      · rw [hb4]
        conv => lhs; cbv
        rw [hF_s_spec_ValidVector a0.vector]
        refine cO (fun hx6 => ?_) ?_
        · rw [hx6]
          first | done | rfl
        · rintro r5 hx6
          rw [hx6]
          conv => lhs; cbv
          refine cC (fun hb7 => ?_) (fun hb7 => ?_)
          · rw [hb7]
            conv => lhs; cbv
            first | done | rfl
          · rw [hb7]
            conv => lhs; cbv
            refine cC (fun hb8 => ?_) (fun hb8 => ?_)
            · rw [hb8]
              conv => lhs; cbv
              first | done | rfl
            · rw [hb8]
              conv => lhs; cbv
              rw [hF_s_spec_VectorSum a0.vector]
              refine cO (fun hx10 => ?_) ?_
              · rw [hx10]
                first | done | rfl
              · rintro r9 hx10
                rw [hx10]
                conv => lhs; cbv
                refine cC (fun hb11 => ?_) (fun hb11 => ?_)
                · rw [hb11]
                  conv => lhs; cbv
                  first | done | rfl
                · rw [hb11]
                  conv => lhs; cbv
                  refine (loop_al hal (fun v12 => ⟨[dd, .c (.ptr (0, 0, 0) 3 0 0), dd, .c (.at (.int .i64 v12)), dd, dd, dd, dd, dd, dd, dd, dd, dd, dd, dd, dd, dd, dd, dd, dd, dd, dd, dd, dd, dd, dd, dd, dd, dd, dd, dd, dd, dd, dd, dd, dd, dd, dd, dd, dd, dd, dd, dd, dd, dd, dd, dd, dd, dd, dd, dd, dd, dd, dd, dd, dd, dd, dd, dd, dd, dd, dd, dd, dd, dd, dd, dd, dd, dd, dd, dd, dd, dd, dd, dd, dd], [((0, 0, 0), ⟨false, true, 51, 3, [[.rd true 9 1 (m_string a0.name), .rd true 92 2 (m_TableEntry a0.vector), .rd true 76 3 (m_Publication a0.publications)]]⟩)], 1⟩) (s_spec_ValidMember_l1 a0) (fun K g => match g with | .inl v12 => K (.exit 0) ⟨[dd, .c (.ptr (0, 0, 0) 3 0 0), dd, .c (.at (.int .i64 v12)), dd, dd, dd, dd, dd, dd, dd, dd, dd, dd, dd, dd, dd, dd, dd, dd, dd, dd, dd, dd, dd, dd, dd, dd, dd, dd, dd, dd, dd, dd, dd, dd, dd, .c (.at (.int .i64 v12)), .c (.ptr (0, 0, 0) 3 0 2), .c (.rd true 76 3 (m_Publication a0.publications)), .c (.at (.int .i64 (p_int (p_len (m_Publication a0.publications))))), .c (.at (.bool false)), dd, dd, dd, dd, dd, dd, dd, dd, dd, dd, dd, dd, dd, dd, dd, dd, dd, dd, dd, dd, dd, dd, dd, dd, dd, dd, dd, dd, dd, dd, dd, dd, dd, dd], [((0, 0, 0), ⟨false, true, 51, 3, [[.rd true 9 1 (m_string a0.name), .rd true 92 2 (m_TableEntry a0.vector), .rd true 76 3 (m_Publication a0.publications)]]⟩)], 2⟩ | .inr (r) => some [.v (.at (.bool r))]) ?_ 0 _ (rfl)).trans (cL ?_)
                  · rintro K1 hr1 v12 R1
                    rw [s_spec_ValidMember_l1, ← h_arith, ← h_bnot, ← h_cmp, ← h_int, ← h_len, ← hm_Publication, ← hm_byte]
                    conv => lhs; cbv
                    refine cC (fun hb13 => ?_) (fun hb13 => ?_)
                    · rw [hb13]
                      conv => lhs; cbv
                      rw [nth_Publication]
                      refine cO (fun hx15 => ?_) ?_
                      · rw [hx15]
                        first | done | rfl
                      · rintro x14 hx15
                        rw [hx15]
                        conv => lhs; cbv
                        rw [hF_s_spec_SeqOf a0.vector x14.publisher]
                        refine cO (fun hx17 => ?_) ?_
                        · rw [hx17]
                          first | done | rfl
                        · rintro r16 hx17
                          rw [hx17]
                          conv => lhs; cbv
                          rw [hF_s_spec_l1In x14.seq 1 r16]
                          refine cO (fun hx19 => ?_) ?_
                          · rw [hx19]
                            first | done | rfl
                          · rintro r18 hx19
                            rw [hx19]
                            conv => lhs; cbv
                            refine cC (fun hb20 => ?_) (fun hb20 => ?_)
                            · rw [hb20]
                              conv => lhs; cbv
                              rw [hr1]
                              conv => lhs; cbv
                              first | done | rfl
                            · rw [hb20]
                              conv => lhs; cbv
                              refine cC (fun hb21 => ?_) (fun hb21 => ?_)
                              · rw [hb21]
                                conv => lhs; cbv
                                rw [hr1]
                                conv => lhs; cbv
                                first | done | rfl
                              · rw [hb21]
                                conv => lhs; cbv
                                rw [sub_Publication]
                                refine cO (fun hx23 => ?_) ?_
                                · rw [hx23]
                                  first | done | rfl
                                · rintro x22 hx23
                                  rw [hx23]
                                  conv => lhs; cbv
                                  rw [hF_s_spec_l28Find x22 x14.publisher x14.seq]
                                  refine cO (fun hx25 => ?_) ?_
                                  · rw [hx25]
                                    first | done | rfl
                                  · rintro r24 hx25
                                    rw [hx25]
                                    conv => lhs; cbv
                                    refine cC (fun hb26 => ?_) (fun hb26 => ?_)
                                    · rw [hb26]
                                      conv => lhs; cbv
                                      rw [hr1]
                                      conv => lhs; cbv
                                      first | done | rfl
                                    · rw [hb26]
                                      conv => lhs; cbv
                                      first | done | rfl
                    · rw [hb13]
                      conv => lhs; cbv
                      first | done | rfl
                  · rintro (w27 | w28)
                    · conv => lhs; cbv
                      first | done | rfl
                    · rfl
def s_spec_FormatInt_l1 : (ByteArray × Int) → Option ((ByteArray × Int) ⊕ ((ByteArray × Int)))
  | (v2, v3) => bif prims.cmp .neq v3 0 then (bif prims.cmp .eql 10 0 then none else (bif prims.cmp .lss (prims.arith .rem .i64 v3 10) 0 then (bif prims.catOk (prims.ofB [(prims.byW (prims.arith .add .i64 48 (prims.arith .sub .i64 0 (prims.arith .rem .i64 v3 10))))]) v2 then (some (.inl (prims.scat (prims.ofB [(prims.byW (prims.arith .add .i64 48 (prims.arith .sub .i64 0 (prims.arith .rem .i64 v3 10))))]) v2, prims.arith .quo .i64 v3 10))) else none) else (bif prims.catOk (prims.ofB [(prims.byW (prims.arith .add .i64 48 (prims.arith .rem .i64 v3 10)))]) v2 then (some (.inl (prims.scat (prims.ofB [(prims.byW (prims.arith .add .i64 48 (prims.arith .rem .i64 v3 10)))]) v2, prims.arith .quo .i64 v3 10))) else none))) else (some (.inr (v2, v3)))
def s_spec_FormatInt (a0 : Int) : Option (ByteArray) := bif prims.cmp .eql a0 0 then (some (ByteArray.mk (Array.mk [48]))) else ((whileO (s_spec_FormatInt_l1) fuel ((ByteArray.mk (Array.mk [])), a0)).bind fun ⟨w9, w10⟩ => bif prims.cmp .lss a0 0 then (bif prims.catOk (ByteArray.mk (Array.mk [45])) w9 then (some (prims.scat (ByteArray.mk (Array.mk [45])) w9)) else none) else (some w9))
def Has_s_spec_FormatInt (F : Fns) : Prop := ∀ (a0 : Int), F 33 [.v (.at (.int .i64 a0))] = (s_spec_FormatInt a0).bind fun r => some [.v (.at (.string r))]
set_option maxHeartbeats 40000000 in
theorem e_s_spec_FormatInt (F : Fns) (a0 : Int) : evBody prims (fun F lv => aloop F lv fuel) TY F ⟨Tryz.f33, Tryz.f33.body.getD .skip, fun id => if id = 5 then [0, 3, 4] else []⟩ [.v (.at (.int .i64 a0))] = (s_spec_FormatInt a0).bind fun r => some [.v (.at (.string r))] := by
  obtain ⟨p, hp⟩ : ∃ p : Prims, p = prims := ⟨_, rfl⟩
  obtain ⟨m_byte, hm_byte⟩ : ∃ m, m = List.map eY := ⟨_, rfl⟩
  rw [← hp]
  obtain ⟨p_arith, p_cmp, p_wrap, p_scmp, p_scat, p_catOk, p_ssize, p_sat, p_ssub, p_bytes, p_str, p_bnot, p_beq, p_min, p_max, p_len, p_int, p_nth, p_sub, p_rsub, p_ridx, p_rnth, p_rset, p_rapp, p_rlen, p_addN, p_full, p_fits, p_frz, p_own, p_opn, p_lend, p_rmov, p_rout, p_both, p_yI, p_ofB, p_byW, p_mkN, p_rep, p_copy⟩ := p
  have h_arith : p_arith = prims.arith := congrArg Prims.arith hp
  have h_byW : p_byW = prims.byW := congrArg Prims.byW hp
  have h_catOk : p_catOk = prims.catOk := congrArg Prims.catOk hp
  have h_cmp : p_cmp = prims.cmp := congrArg Prims.cmp hp
  have h_ofB : p_ofB = prims.ofB := congrArg Prims.ofB hp
  have h_scat : p_scat = prims.scat := congrArg Prims.scat hp
  have h_str : p_str = prims.str := congrArg Prims.str hp
  have h_wrap : p_wrap = prims.wrap := congrArg Prims.wrap hp
  have h_yI : p_yI = prims.yI := congrArg Prims.yI hp
  clear hp
  have mcons_byte := @mconsF_byte
  rw [← h_yI, ← hm_byte] at mcons_byte
  have nild_byte := @nildF_byte
  rw [← hm_byte] at nild_byte
  have str_byte := @strF_byte
  rw [← h_ofB, ← h_str, ← hm_byte] at str_byte
  have wy_byte := @wyF_byte
  rw [← h_byW, ← h_wrap, ← h_yI] at wy_byte
  generalize hal : (fun (F : St → (Ex → St → Option (List Arg)) → Option (List Arg)) lv => aloop F lv fuel) = al
  rw [s_spec_FormatInt, ← h_catOk, ← h_cmp, ← h_scat]
  conv => lhs; cbv
  refine cC (fun hb1 => ?_) (fun hb1 => ?_)
  · rw [hb1]
    conv => lhs; cbv
    first | done | rfl
  · rw [hb1]
    conv => lhs; cbv
    refine (loop_al hal (fun x => match x with | (v2, v3) => ⟨[.c (.at (.int .i64 a0)), dd, dd, .c (.at (.string v2)), .c (.at (.int .i64 v3)), dd, dd, dd, dd, dd, dd, dd, dd, dd, dd, dd, dd, dd, dd, dd, dd, dd, dd, dd, dd, dd, dd, dd, dd, dd, dd], [], 1⟩) (s_spec_FormatInt_l1) (fun K g => match g with | (v2, v3) => K (.exit 0) ⟨[.c (.at (.int .i64 a0)), dd, dd, .c (.at (.string v2)), .c (.at (.int .i64 v3)), dd, dd, dd, dd, .c (.at (.int .i64 v3)), .c (.at (.bool false)), dd, dd, dd, dd, dd, dd, dd, dd, dd, dd, dd, dd, dd, dd, dd, dd, dd, dd, dd, dd], [], 2⟩) ?_ ((ByteArray.mk (Array.mk [])), a0) _ (rfl)).trans (cL ?_)
    · rintro K1 hr1 ⟨v2, v3⟩ R1
      rw [s_spec_FormatInt_l1, ← h_arith, ← h_byW, ← h_catOk, ← h_cmp, ← h_ofB, ← h_scat]
      conv => lhs; cbv
      refine cC (fun hb4 => ?_) (fun hb4 => ?_)
      · rw [hb4]
        conv => lhs; cbv
        refine cC (fun hb5 => ?_) (fun hb5 => ?_)
        · rw [if_pos hb5]
          try rw [hb5]
          conv => lhs; cbv
          first | done | rfl
        · rw [if_neg (Bool.eq_false_iff.1 hb5)]
          try rw [hb5]
          conv => lhs; cbv
          refine cC (fun hb6 => ?_) (fun hb6 => ?_)
          · rw [hb6]
            conv => lhs; cbv
            rw [wy_byte]
            conv => lhs; cbv
            rw [← (show (m_byte [(p_byW (p_arith .add .i64 48 (p_arith .sub .i64 0 (p_arith .rem .i64 v3 10))))]) = [[DT.at (.int .u8 (p_yI (p_byW (p_arith .add .i64 48 (p_arith .sub .i64 0 (p_arith .rem .i64 v3 10))))))]] by rw [mcons_byte, nild_byte])]
            rw [str_byte]
            conv => lhs; cbv
            refine cC (fun hb7 => ?_) (fun hb7 => ?_)
            · rw [if_pos hb7]
              try rw [hb7]
              conv => lhs; cbv
              rw [if_neg (Bool.eq_false_iff.1 hb5)]
              conv => lhs; cbv
              first | done | rfl
            · rw [if_neg (Bool.eq_false_iff.1 hb7)]
              try rw [hb7]
              conv => lhs; cbv
              first | done | rfl
          · rw [hb6]
            conv => lhs; cbv
            rw [wy_byte]
            conv => lhs; cbv
            rw [← (show (m_byte [(p_byW (p_arith .add .i64 48 (p_arith .rem .i64 v3 10)))]) = [[DT.at (.int .u8 (p_yI (p_byW (p_arith .add .i64 48 (p_arith .rem .i64 v3 10)))))]] by rw [mcons_byte, nild_byte])]
            rw [str_byte]
            conv => lhs; cbv
            refine cC (fun hb8 => ?_) (fun hb8 => ?_)
            · rw [if_pos hb8]
              try rw [hb8]
              conv => lhs; cbv
              rw [if_neg (Bool.eq_false_iff.1 hb5)]
              conv => lhs; cbv
              first | done | rfl
            · rw [if_neg (Bool.eq_false_iff.1 hb8)]
              try rw [hb8]
              conv => lhs; cbv
              first | done | rfl
      · rw [hb4]
        conv => lhs; cbv
        first | done | rfl
    · rintro ⟨w9, w10⟩
      conv => lhs; cbv
      refine cC (fun hb11 => ?_) (fun hb11 => ?_)
      · rw [hb11]
        conv => lhs; cbv
        refine cC (fun hb12 => ?_) (fun hb12 => ?_)
        · rw [if_pos hb12]
          try rw [hb12]
          conv => lhs; cbv
          first | done | rfl
        · rw [if_neg (Bool.eq_false_iff.1 hb12)]
          try rw [hb12]
          conv => lhs; cbv
          first | done | rfl
      · rw [hb11]
        conv => lhs; cbv
        first | done | rfl
def s_spec_l37Name (a0 : Int) : Option ((List ByteArray)) := (s_spec_FormatInt a0).bind fun r1 => some [(ByteArray.mk (Array.mk [109])), r1]
def Has_s_spec_l37Name (F : Fns) : Prop := ∀ (a0 : Int), F 14 [.v (.at (.int .i64 a0))] = (s_spec_l37Name a0).bind fun r => some [.a [.sl 9 1 (List.map eS r)]]
set_option maxHeartbeats 40000000 in
theorem e_s_spec_l37Name (F : Fns) (hF_s_spec_FormatInt : Has_s_spec_FormatInt F) (a0 : Int) : evBody prims (fun F lv => aloop F lv fuel) TY F ⟨Tryz.f14, Tryz.f14.body.getD .skip, fun _ => []⟩ [.v (.at (.int .i64 a0))] = (s_spec_l37Name a0).bind fun r => some [.a [.sl 9 1 (List.map eS r)]] := by
  obtain ⟨p, hp⟩ : ∃ p : Prims, p = prims := ⟨_, rfl⟩
  obtain ⟨m_string, hm_string⟩ : ∃ m, m = List.map eS := ⟨_, rfl⟩
  rw [← hp]
  rw [← hm_string]
  obtain ⟨p_arith, p_cmp, p_wrap, p_scmp, p_scat, p_catOk, p_ssize, p_sat, p_ssub, p_bytes, p_str, p_bnot, p_beq, p_min, p_max, p_len, p_int, p_nth, p_sub, p_rsub, p_ridx, p_rnth, p_rset, p_rapp, p_rlen, p_addN, p_full, p_fits, p_frz, p_own, p_opn, p_lend, p_rmov, p_rout, p_both, p_yI, p_ofB, p_byW, p_mkN, p_rep, p_copy⟩ := p
  clear hp
  have mcons_string := @mconsF_string
  rw [← hm_string] at mcons_string
  have nild_string := @nildF_string
  rw [← hm_string] at nild_string
  unfold Has_s_spec_FormatInt at hF_s_spec_FormatInt
  generalize hal : (fun (F : St → (Ex → St → Option (List Arg)) → Option (List Arg)) lv => aloop F lv fuel) = al
  rw [s_spec_l37Name]
  conv => lhs; cbv
  rw [hF_s_spec_FormatInt a0]
  refine cO (fun hx2 => ?_) ?_
  · rw [hx2]
    first | done | rfl
  · rintro r1 hx2
    rw [hx2]
    conv => lhs; cbv
    first | done | rfl | (simp only [Option.bind_some, mcons_string, nild_string]; done) | (simp only [Option.bind_some, mcons_string, nild_string]; rfl)
def s_spec_ValidSyncGroup_l1 (a0 : DSyncGroup) : Int → Option ((Int) ⊕ ((Int) ⊕ (Bool)))
  | v5 => bif prims.cmp .lss v5 (prims.int (prims.len (List.map eMember a0.members))) then ((nthI a0.members v5).bind fun x7 => (s_spec_ValidMember x7).bind fun r9 => bif prims.bnot r9 then (some (.inr (.inr (false)))) else ((s_spec_l37Name v5).bind fun r13 => (s_spec_EqualNames x7.name r13).bind fun r15 => bif prims.bnot r15 then (some (.inr (.inr (false)))) else (some (.inl (prims.arith .add .i64 v5 1))))) else (some (.inr (.inl v5)))
def s_spec_ValidSyncGroup (a0 : DSyncGroup) : Option (Bool) := (s_spec_ValidTopology a0.topology).bind fun r1 => bif prims.bnot r1 then (some false) else (bif prims.cmp .neq (prims.int (prims.len (List.map eMember a0.members))) a0.topology.size then (some false) else ((whileO (s_spec_ValidSyncGroup_l1 a0) fuel 0).bind fun g => match g with | .inl w18 => (some true) | .inr (w19) => (some w19)))
def Has_s_spec_ValidSyncGroup (F : Fns) : Prop := ∀ (a0 : DSyncGroup), F 5 [.a [.at (.int .i64 a0.topology.size), .sl 68 2 (List.map eLink a0.topology.links), .sl 51 3 (List.map eMember a0.members)]] = (s_spec_ValidSyncGroup a0).bind fun r => some [.v (.at (.bool r))]
set_option maxHeartbeats 40000000 in
theorem e_s_spec_ValidSyncGroup (F : Fns) (hF_s_spec_ValidTopology : Has_s_spec_ValidTopology F) (hF_s_spec_ValidMember : Has_s_spec_ValidMember F) (hF_s_spec_l37Name : Has_s_spec_l37Name F) (hF_s_spec_EqualNames : Has_s_spec_EqualNames F) (a0 : DSyncGroup) : evBody prims (fun F lv => aloop F lv fuel) TY F ⟨Tryz.f5, Tryz.f5.body.getD .skip, fun id => if id = 4 then [1, 3] else []⟩ [.a [.at (.int .i64 a0.topology.size), .sl 68 2 (List.map eLink a0.topology.links), .sl 51 3 (List.map eMember a0.members)]] = (s_spec_ValidSyncGroup a0).bind fun r => some [.v (.at (.bool r))] := by
  obtain ⟨p, hp⟩ : ∃ p : Prims, p = prims := ⟨_, rfl⟩
  obtain ⟨m_Link, hm_Link⟩ : ∃ m, m = List.map eLink := ⟨_, rfl⟩
  obtain ⟨m_Member, hm_Member⟩ : ∃ m, m = List.map eMember := ⟨_, rfl⟩
  obtain ⟨m_Publication, hm_Publication⟩ : ∃ m, m = List.map ePublication := ⟨_, rfl⟩
  obtain ⟨m_TableEntry, hm_TableEntry⟩ : ∃ m, m = List.map eTableEntry := ⟨_, rfl⟩
  obtain ⟨m_string, hm_string⟩ : ∃ m, m = List.map eS := ⟨_, rfl⟩
  rw [← hp]
  rw [← hm_Link, ← hm_Member]
  obtain ⟨p_arith, p_cmp, p_wrap, p_scmp, p_scat, p_catOk, p_ssize, p_sat, p_ssub, p_bytes, p_str, p_bnot, p_beq, p_min, p_max, p_len, p_int, p_nth, p_sub, p_rsub, p_ridx, p_rnth, p_rset, p_rapp, p_rlen, p_addN, p_full, p_fits, p_frz, p_own, p_opn, p_lend, p_rmov, p_rout, p_both, p_yI, p_ofB, p_byW, p_mkN, p_rep, p_copy⟩ := p
  have h_arith : p_arith = prims.arith := congrArg Prims.arith hp
  have h_bnot : p_bnot = prims.bnot := congrArg Prims.bnot hp
  have h_cmp : p_cmp = prims.cmp := congrArg Prims.cmp hp
  have h_frz : p_frz = prims.frz := congrArg Prims.frz hp
  have h_int : p_int = prims.int := congrArg Prims.int hp
  have h_len : p_len = prims.len := congrArg Prims.len hp
  have h_nth : p_nth = prims.nth := congrArg Prims.nth hp
  have h_opn : p_opn = prims.opn := congrArg Prims.opn hp
  clear hp
  have frz_string := @frzF_string
  rw [← h_frz, ← h_len, ← h_opn, ← hm_string] at frz_string
  have nth_Member := @nthF_Member
  rw [← h_nth, ← hm_Member, ← hm_Publication, ← hm_TableEntry, ← hm_string] at nth_Member
  unfold Has_s_spec_ValidTopology at hF_s_spec_ValidTopology
  rw [← hm_Link] at hF_s_spec_ValidTopology
  unfold Has_s_spec_ValidMember at hF_s_spec_ValidMember
  rw [← hm_Publication, ← hm_TableEntry, ← hm_string] at hF_s_spec_ValidMember
  unfold Has_s_spec_l37Name at hF_s_spec_l37Name
  rw [← hm_string] at hF_s_spec_l37Name
  unfold Has_s_spec_EqualNames at hF_s_spec_EqualNames
  rw [← hm_string] at hF_s_spec_EqualNames
  generalize hal : (fun (F : St → (Ex → St → Option (List Arg)) → Option (List Arg)) lv => aloop F lv fuel) = al
  rw [s_spec_ValidSyncGroup, ← h_bnot, ← h_cmp, ← h_int, ← h_len, ← hm_Member]
  conv => lhs; cbv
  rw [hF_s_spec_ValidTopology a0.topology]
  refine cO (fun hx2 => ?_) ?_
  · rw [hx2]
    first | done | rfl
  · rintro r1 hx2
    rw [hx2]
    conv => lhs; cbv
    refine cC (fun hb3 => ?_) (fun hb3 => ?_)
    · rw [hb3]
      conv => lhs; cbv
      first | done | rfl
    · rw [hb3]
      conv => lhs; cbv
      refine cC (fun hb4 => ?_) (fun hb4 => ?_)
      · rw [hb4]
        conv => lhs; cbv
        first | done | rfl
      · rw [hb4]
        conv => lhs; cbv
        refine (loop_al hal (fun v5 => ⟨[dd, .c (.ptr (0, 0, 0) 3 0 0), dd, .c (.at (.int .i64 v5)), dd, dd, dd, dd, dd, dd, dd, dd, dd, dd, dd, dd, dd, dd, dd, dd, dd, dd, dd, dd, dd, dd, dd, dd, dd, dd, dd, dd, dd, dd, dd, dd, dd, dd, dd, dd, dd, dd, dd], [((0, 0, 0), ⟨false, true, 35, 3, [[.at (.int .i64 a0.topology.size), .rd true 68 2 (m_Link a0.topology.links), .rd true 51 3 (m_Member a0.members)]]⟩)], 1⟩) (s_spec_ValidSyncGroup_l1 a0) (fun K g => match g with | .inl v5 => K (.exit 0) ⟨[dd, .c (.ptr (0, 0, 0) 3 0 0), dd, .c (.at (.int .i64 v5)), dd, dd, dd, dd, dd, dd, dd, dd, dd, dd, dd, dd, dd, .c (.at (.int .i64 v5)), .c (.ptr (0, 0, 0) 3 0 2), .c (.rd true 51 3 (m_Member a0.members)), .c (.at (.int .i64 (p_int (p_len (m_Member a0.members))))), .c (.at (.bool false)), dd, dd, dd, dd, dd, dd, dd, dd, dd, dd, dd, dd, dd, dd, dd, dd, dd, dd, dd, dd, dd], [((0, 0, 0), ⟨false, true, 35, 3, [[.at (.int .i64 a0.topology.size), .rd true 68 2 (m_Link a0.topology.links), .rd true 51 3 (m_Member a0.members)]]⟩)], 2⟩ | .inr (r) => some [.v (.at (.bool r))]) ?_ 0 _ (rfl)).trans (cL ?_)
        · rintro K1 hr1 v5 R1
          rw [s_spec_ValidSyncGroup_l1, ← h_arith, ← h_bnot, ← h_cmp, ← h_int, ← h_len, ← hm_Member]
          conv => lhs; cbv
          refine cC (fun hb6 => ?_) (fun hb6 => ?_)
          · rw [hb6]
            conv => lhs; cbv
            rw [nth_Member]
            refine cO (fun hx8 => ?_) ?_
            · rw [hx8]
              first | done | rfl
            · rintro x7 hx8
              rw [hx8]
              conv => lhs; cbv
              rw [hF_s_spec_ValidMember x7]
              refine cO (fun hx10 => ?_) ?_
              · rw [hx10]
                first | done | rfl
              · rintro r9 hx10
                rw [hx10]
                conv => lhs; cbv
                refine cC (fun hb11 => ?_) (fun hb11 => ?_)
                · rw [hb11]
                  conv => lhs; cbv
                  rw [hr1]
                  conv => lhs; cbv
                  first | done | rfl
                · rw [hb11]
                  conv => lhs; cbv
                  rw [nth_Member]
                  rw [hx8]
                  conv => lhs; cbv
                  rw [hF_s_spec_l37Name v5]
                  refine cO (fun hx14 => ?_) ?_
                  · rw [hx14]
                    first | done | rfl
                  · rintro r13 hx14
                    rw [hx14]
                    conv => lhs; cbv
                    rw [frz_string]
                    conv => lhs; cbv
                    rw [hF_s_spec_EqualNames x7.name r13]
                    refine cO (fun hx16 => ?_) ?_
                    · rw [hx16]
                      first | done | rfl
                    · rintro r15 hx16
                      rw [hx16]
                      conv => lhs; cbv
                      refine cC (fun hb17 => ?_) (fun hb17 => ?_)
                      · rw [hb17]
                        conv => lhs; cbv
                        rw [hr1]
                        conv => lhs; cbv
                        first | done | rfl
                      · rw [hb17]
                        conv => lhs; cbv
                        first | done | rfl
          · rw [hb6]
            conv => lhs; cbv
            first | done | rfl
        · rintro (w18 | w19)
          · conv => lhs; cbv
            first | done | rfl
          · rfl
def s_impl_InRange (a0 : Int) (a1 : Int) (a2 : Int) : Option (Bool) := bif prims.cmp .leq a1 a0 then (some (prims.cmp .leq a0 a2)) else (some false)
def Has_s_impl_InRange (F : Fns) : Prop := ∀ (a0 : Int) (a1 : Int) (a2 : Int), F 36 [.v (.at (.int .i64 a0)), .v (.at (.int .i64 a1)), .v (.at (.int .i64 a2))] = (s_impl_InRange a0 a1 a2).bind fun r => some [.v (.at (.bool r))]
set_option maxHeartbeats 40000000 in
theorem e_s_impl_InRange (F : Fns) (a0 : Int) (a1 : Int) (a2 : Int) : evBody prims (fun F lv => aloop F lv fuel) TY F ⟨Tryz.f36, Tryz.f36.body.getD .skip, fun _ => []⟩ [.v (.at (.int .i64 a0)), .v (.at (.int .i64 a1)), .v (.at (.int .i64 a2))] = (s_impl_InRange a0 a1 a2).bind fun r => some [.v (.at (.bool r))] := by
  obtain ⟨p, hp⟩ : ∃ p : Prims, p = prims := ⟨_, rfl⟩
  rw [← hp]
  obtain ⟨p_arith, p_cmp, p_wrap, p_scmp, p_scat, p_catOk, p_ssize, p_sat, p_ssub, p_bytes, p_str, p_bnot, p_beq, p_min, p_max, p_len, p_int, p_nth, p_sub, p_rsub, p_ridx, p_rnth, p_rset, p_rapp, p_rlen, p_addN, p_full, p_fits, p_frz, p_own, p_opn, p_lend, p_rmov, p_rout, p_both, p_yI, p_ofB, p_byW, p_mkN, p_rep, p_copy⟩ := p
  have h_cmp : p_cmp = prims.cmp := congrArg Prims.cmp hp
  clear hp
  generalize hal : (fun (F : St → (Ex → St → Option (List Arg)) → Option (List Arg)) lv => aloop F lv fuel) = al
  rw [s_impl_InRange, ← h_cmp]
  conv => lhs; cbv
  refine cC (fun hb1 => ?_) (fun hb1 => ?_)
  · rw [hb1]
    conv => lhs; cbv
    first | done | rfl
  · rw [hb1]
    conv => lhs; cbv
    first | done | rfl
def s_cmp_isNaN_int (a0 : Int) : Option (Bool) := some (prims.cmp .neq a0 a0)
def Has_s_cmp_isNaN_int (F : Fns) : Prop := ∀ (a0 : Int), F 81 [.v (.at (.int .i64 a0))] = (s_cmp_isNaN_int a0).bind fun r => some [.v (.at (.bool r))]
set_option maxHeartbeats 40000000 in
theorem e_s_cmp_isNaN_int (F : Fns) (a0 : Int) : evBody prims (fun F lv => aloop F lv fuel) TY F ⟨Tryz.f81, Tryz.f81.body.getD .skip, fun _ => []⟩ [.v (.at (.int .i64 a0))] = (s_cmp_isNaN_int a0).bind fun r => some [.v (.at (.bool r))] := by
  obtain ⟨p, hp⟩ : ∃ p : Prims, p = prims := ⟨_, rfl⟩
  rw [← hp]
  obtain ⟨p_arith, p_cmp, p_wrap, p_scmp, p_scat, p_catOk, p_ssize, p_sat, p_ssub, p_bytes, p_str, p_bnot, p_beq, p_min, p_max, p_len, p_int, p_nth, p_sub, p_rsub, p_ridx, p_rnth, p_rset, p_rapp, p_rlen, p_addN, p_full, p_fits, p_frz, p_own, p_opn, p_lend, p_rmov, p_rout, p_both, p_yI, p_ofB, p_byW, p_mkN, p_rep, p_copy⟩ := p
  have h_cmp : p_cmp = prims.cmp := congrArg Prims.cmp hp
  clear hp
  generalize hal : (fun (F : St → (Ex → St → Option (List Arg)) → Option (List Arg)) lv => aloop F lv fuel) = al
  rw [s_cmp_isNaN_int, ← h_cmp]
  conv => lhs; cbv
  first | done | rfl
def s_cmp_Compare_int (a0 : Int) (a1 : Int) : Option (Int) := (s_cmp_isNaN_int a0).bind fun r1 => (s_cmp_isNaN_int a1).bind fun r3 => bif r1 then (bif r3 then (some 0) else (some (-1))) else (bif r3 then (some 1) else (bif prims.cmp .lss a0 a1 then (some (-1)) else (bif prims.cmp .gtr a0 a1 then (some 1) else (some 0))))
def Has_s_cmp_Compare_int (F : Fns) : Prop := ∀ (a0 : Int) (a1 : Int), F 59 [.v (.at (.int .i64 a0)), .v (.at (.int .i64 a1))] = (s_cmp_Compare_int a0 a1).bind fun r => some [.v (.at (.int .i64 r))]
set_option maxHeartbeats 40000000 in
theorem e_s_cmp_Compare_int (F : Fns) (hF_s_cmp_isNaN_int : Has_s_cmp_isNaN_int F) (a0 : Int) (a1 : Int) : evBody prims (fun F lv => aloop F lv fuel) TY F ⟨Tryz.f59, Tryz.f59.body.getD .skip, fun _ => []⟩ [.v (.at (.int .i64 a0)), .v (.at (.int .i64 a1))] = (s_cmp_Compare_int a0 a1).bind fun r => some [.v (.at (.int .i64 r))] := by
  obtain ⟨p, hp⟩ : ∃ p : Prims, p = prims := ⟨_, rfl⟩
  rw [← hp]
  obtain ⟨p_arith, p_cmp, p_wrap, p_scmp, p_scat, p_catOk, p_ssize, p_sat, p_ssub, p_bytes, p_str, p_bnot, p_beq, p_min, p_max, p_len, p_int, p_nth, p_sub, p_rsub, p_ridx, p_rnth, p_rset, p_rapp, p_rlen, p_addN, p_full, p_fits, p_frz, p_own, p_opn, p_lend, p_rmov, p_rout, p_both, p_yI, p_ofB, p_byW, p_mkN, p_rep, p_copy⟩ := p
  have h_cmp : p_cmp = prims.cmp := congrArg Prims.cmp hp
  clear hp
  unfold Has_s_cmp_isNaN_int at hF_s_cmp_isNaN_int
  generalize hal : (fun (F : St → (Ex → St → Option (List Arg)) → Option (List Arg)) lv => aloop F lv fuel) = al
  rw [s_cmp_Compare_int, ← h_cmp]
  conv => lhs; cbv
  rw [hF_s_cmp_isNaN_int a0]
  refine cO (fun hx2 => ?_) ?_
  · rw [hx2]
    first | done | rfl
  · rintro r1 hx2
    rw [hx2]
    conv => lhs; cbv
    rw [hF_s_cmp_isNaN_int a1]
    refine cO (fun hx4 => ?_) ?_
    · rw [hx4]
      first | done | rfl
    · rintro r3 hx4
      rw [hx4]
      conv => lhs; cbv
      refine cC (fun hb5 => ?_) (fun hb5 => ?_)
      · rw [hb5]
        conv => lhs; cbv
        refine cC (fun hb6 => ?_) (fun hb6 => ?_)
        · rw [hb6]
          conv => lhs; cbv
          first | done | rfl
        · rw [hb6]
          conv => lhs; cbv
          first | done | rfl
      · rw [hb5]
        conv => lhs; cbv
        refine cC (fun hb7 => ?_) (fun hb7 => ?_)
        · rw [hb7]
          conv => lhs; cbv
          first | done | rfl
        · rw [hb7]
          conv => lhs; cbv
          refine cC (fun hb8 => ?_) (fun hb8 => ?_)
          · rw [hb8]
            conv => lhs; cbv
            first | done | rfl
          · rw [hb8]
            conv => lhs; cbv
            refine cC (fun hb9 => ?_) (fun hb9 => ?_)
            · rw [hb9]
              conv => lhs; cbv
              first | done | rfl
            · rw [hb9]
              conv => lhs; cbv
              first | done | rfl
def s_cmp_Or_int_l1 (a0 : (List Int)) : Int → Option ((Int) ⊕ ((Int) ⊕ (Int)))
  | v1 => bif prims.cmp .lss v1 (prims.int (prims.len (List.map eI a0))) then ((nthI a0 v1).bind fun x3 => bif prims.cmp .neq x3 0 then (some (.inr (.inr (x3)))) else (some (.inl (prims.arith .add .i64 v1 1)))) else (some (.inr (.inl v1)))
def s_cmp_Or_int (a0 : (List Int)) : Option (Int) := (whileO (s_cmp_Or_int_l1 a0) fuel 0).bind fun g => match g with | .inl w6 => (some 0) | .inr (w7) => (some w7)
def Has_s_cmp_Or_int (F : Fns) : Prop := ∀ (a0 : (List Int)), F 58 [.v (.sl 3 1 (List.map eI a0))] = (s_cmp_Or_int a0).bind fun r => some [.v (.at (.int .i64 r))]
set_option maxHeartbeats 40000000 in
theorem e_s_cmp_Or_int (F : Fns) (a0 : (List Int)) : evBody prims (fun F lv => aloop F lv fuel) TY F ⟨Tryz.f58, Tryz.f58.body.getD .skip, fun id => if id = 3 then [3, 6, 7, 8] else []⟩ [.v (.sl 3 1 (List.map eI a0))] = (s_cmp_Or_int a0).bind fun r => some [.v (.at (.int .i64 r))] := by
  obtain ⟨p, hp⟩ : ∃ p : Prims, p = prims := ⟨_, rfl⟩
  obtain ⟨m_int, hm_int⟩ : ∃ m, m = List.map eI := ⟨_, rfl⟩
  rw [← hp]
  rw [← hm_int]
  obtain ⟨p_arith, p_cmp, p_wrap, p_scmp, p_scat, p_catOk, p_ssize, p_sat, p_ssub, p_bytes, p_str, p_bnot, p_beq, p_min, p_max, p_len, p_int, p_nth, p_sub, p_rsub, p_ridx, p_rnth, p_rset, p_rapp, p_rlen, p_addN, p_full, p_fits, p_frz, p_own, p_opn, p_lend, p_rmov, p_rout, p_both, p_yI, p_ofB, p_byW, p_mkN, p_rep, p_copy⟩ := p
  have h_arith : p_arith = prims.arith := congrArg Prims.arith hp
  have h_cmp : p_cmp = prims.cmp := congrArg Prims.cmp hp
  have h_int : p_int = prims.int := congrArg Prims.int hp
  have h_len : p_len = prims.len := congrArg Prims.len hp
  have h_nth : p_nth = prims.nth := congrArg Prims.nth hp
  clear hp
  have nth_int := @nthF_int
  rw [← h_nth, ← hm_int] at nth_int
  generalize hal : (fun (F : St → (Ex → St → Option (List Arg)) → Option (List Arg)) lv => aloop F lv fuel) = al
  rw [s_cmp_Or_int]
  conv => lhs; cbv
  refine (loop_al hal (fun v1 => ⟨[dd, dd, dd, .c (.at (.int .i64 0)), dd, dd, .c (.rd true 3 1 (m_int a0)), .c (.at (.int .i64 (p_int (p_len (m_int a0))))), .c (.at (.int .i64 v1)), dd, dd, dd, dd, dd, dd, dd, dd, dd], [], 1⟩) (s_cmp_Or_int_l1 a0) (fun K g => match g with | .inl v1 => K (.exit 0) ⟨[dd, dd, dd, .c (.at (.int .i64 0)), dd, dd, .c (.rd true 3 1 (m_int a0)), .c (.at (.int .i64 (p_int (p_len (m_int a0))))), .c (.at (.int .i64 v1)), .c (.at (.bool false)), dd, dd, dd, dd, dd, dd, dd, dd], [], 2⟩ | .inr (r) => some [.v (.at (.int .i64 r))]) ?_ 0 _ (rfl)).trans (cL ?_)
  · rintro K1 hr1 v1 R1
    rw [s_cmp_Or_int_l1, ← h_arith, ← h_cmp, ← h_int, ← h_len, ← hm_int]
    conv => lhs; cbv
    refine cC (fun hb2 => ?_) (fun hb2 => ?_)
    · rw [hb2]
      conv => lhs; cbv
      rw [nth_int]
      refine cO (fun hx4 => ?_) ?_
      · rw [hx4]
        first | done | rfl
      · rintro x3 hx4
        rw [hx4]
        conv => lhs; cbv
        refine cC (fun hb5 => ?_) (fun hb5 => ?_)
        · rw [hb5]
          conv => lhs; cbv
          rw [hr1]
          conv => lhs; cbv
          first | done | rfl
        · rw [hb5]
          conv => lhs; cbv
          first | done | rfl
    · rw [hb2]
      conv => lhs; cbv
      first | done | rfl
  · rintro (w6 | w7)
    · conv => lhs; cbv
      first | done | rfl
    · rfl
def s_impl_compareLinks (a0 : DLink) (a1 : DLink) : Option (Int) := (s_cmp_Compare_int a0.a a1.a).bind fun r1 => (s_cmp_Compare_int a0.b a1.b).bind fun r3 => (s_cmp_Or_int [r1, r3]).bind fun r5 => some r5
def Has_s_impl_compareLinks (F : Fns) : Prop := ∀ (a0 : DLink) (a1 : DLink), F 37 [.a [.at (.int .i64 a0.a), .at (.int .i64 a0.b)], .a [.at (.int .i64 a1.a), .at (.int .i64 a1.b)]] = (s_impl_compareLinks a0 a1).bind fun r => some [.v (.at (.int .i64 r))]
set_option maxHeartbeats 40000000 in
theorem e_s_impl_compareLinks (F : Fns) (hF_s_cmp_Compare_int : Has_s_cmp_Compare_int F) (hF_s_cmp_Or_int : Has_s_cmp_Or_int F) (a0 : DLink) (a1 : DLink) : evBody prims (fun F lv => aloop F lv fuel) TY F ⟨Tryz.f37, Tryz.f37.body.getD .skip, fun _ => []⟩ [.a [.at (.int .i64 a0.a), .at (.int .i64 a0.b)], .a [.at (.int .i64 a1.a), .at (.int .i64 a1.b)]] = (s_impl_compareLinks a0 a1).bind fun r => some [.v (.at (.int .i64 r))] := by
  obtain ⟨p, hp⟩ : ∃ p : Prims, p = prims := ⟨_, rfl⟩
  obtain ⟨m_int, hm_int⟩ : ∃ m, m = List.map eI := ⟨_, rfl⟩
  rw [← hp]
  obtain ⟨p_arith, p_cmp, p_wrap, p_scmp, p_scat, p_catOk, p_ssize, p_sat, p_ssub, p_bytes, p_str, p_bnot, p_beq, p_min, p_max, p_len, p_int, p_nth, p_sub, p_rsub, p_ridx, p_rnth, p_rset, p_rapp, p_rlen, p_addN, p_full, p_fits, p_frz, p_own, p_opn, p_lend, p_rmov, p_rout, p_both, p_yI, p_ofB, p_byW, p_mkN, p_rep, p_copy⟩ := p
  clear hp
  have mcons_int := @mconsF_int
  rw [← hm_int] at mcons_int
  have nild_int := @nildF_int
  rw [← hm_int] at nild_int
  unfold Has_s_cmp_Compare_int at hF_s_cmp_Compare_int
  unfold Has_s_cmp_Or_int at hF_s_cmp_Or_int
  rw [← hm_int] at hF_s_cmp_Or_int
  generalize hal : (fun (F : St → (Ex → St → Option (List Arg)) → Option (List Arg)) lv => aloop F lv fuel) = al
  rw [s_impl_compareLinks]
  conv => lhs; cbv
  rw [hF_s_cmp_Compare_int a0.a a1.a]
  refine cO (fun hx2 => ?_) ?_
  · rw [hx2]
    first | done | rfl
  · rintro r1 hx2
    rw [hx2]
    conv => lhs; cbv
    rw [hF_s_cmp_Compare_int a0.b a1.b]
    refine cO (fun hx4 => ?_) ?_
    · rw [hx4]
      first | done | rfl
    · rintro r3 hx4
      rw [hx4]
      conv => lhs; cbv
      have hc := hF_s_cmp_Or_int [r1, r3]
      simp only [mcons_int, nild_int] at hc
      rw [hc]
      clear hc
      refine cO (fun hx6 => ?_) ?_
      · rw [hx6]
        first | done | rfl
      · rintro r5 hx6
        rw [hx6]
        conv => lhs; cbv
        first | done | rfl
def s_impl_ValidTopology_l1 (a0 : DTopology) : Int → Option ((Int) ⊕ ((Int) ⊕ (Bool)))
  | v1 => bif prims.cmp .lss v1 (prims.int (prims.len (List.map eLink a0.links))) then ((nthI a0.links v1).bind fun x3 => (s_impl_InRange x3.a 0 (prims.arith .sub .i64 a0.size 1)).bind fun r5 => bif prims.bnot r5 then (some (.inr (.inr (false)))) else ((s_impl_InRange x3.b (prims.arith .add .i64 x3.a 1) (prims.arith .sub .i64 a0.size 1)).bind fun r8 => bif prims.bnot r8 then (some (.inr (.inr (false)))) else (bif prims.cmp .gtr v1 0 then ((nthI a0.links (prims.arith .sub .i64 v1 1)).bind fun x12 => (s_impl_compareLinks x12 x3).bind fun r14 => bif prims.cmp .geq r14 0 then (some (.inr (.inr (false)))) else (some (.inl (prims.arith .add .i64 v1 1)))) else (some (.inl (prims.arith .add .i64 v1 1)))))) else (some (.inr (.inl v1)))
def s_impl_ValidTopology (a0 : DTopology) : Option (Bool) := (whileO (s_impl_ValidTopology_l1 a0) fuel 0).bind fun g => match g with | .inl w17 => ((s_impl_InRange a0.size 1 6).bind fun r18 => some r18) | .inr (w20) => (some w20)
def Has_s_impl_ValidTopology (F : Fns) : Prop := ∀ (a0 : DTopology), F 17 [.a [.at (.int .i64 a0.size), .sl 68 2 (List.map eLink a0.links)]] = (s_impl_ValidTopology a0).bind fun r => some [.v (.at (.bool r))]
set_option maxHeartbeats 40000000 in
theorem e_s_impl_ValidTopology (F : Fns) (hF_s_impl_InRange : Has_s_impl_InRange F) (hF_s_impl_compareLinks : Has_s_impl_compareLinks F) (a0 : DTopology) : evBody prims (fun F lv => aloop F lv fuel) TY F ⟨Tryz.f17, Tryz.f17.body.getD .skip, fun id => if id = 2 then [1, 6, 7, 8] else []⟩ [.a [.at (.int .i64 a0.size), .sl 68 2 (List.map eLink a0.links)]] = (s_impl_ValidTopology a0).bind fun r => some [.v (.at (.bool r))] := by
  obtain ⟨p, hp⟩ : ∃ p : Prims, p = prims := ⟨_, rfl⟩
  obtain ⟨m_Link, hm_Link⟩ : ∃ m, m = List.map eLink := ⟨_, rfl⟩
  rw [← hp]
  rw [← hm_Link]
  obtain ⟨p_arith, p_cmp, p_wrap, p_scmp, p_scat, p_catOk, p_ssize, p_sat, p_ssub, p_bytes, p_str, p_bnot, p_beq, p_min, p_max, p_len, p_int, p_nth, p_sub, p_rsub, p_ridx, p_rnth, p_rset, p_rapp, p_rlen, p_addN, p_full, p_fits, p_frz, p_own, p_opn, p_lend, p_rmov, p_rout, p_both, p_yI, p_ofB, p_byW, p_mkN, p_rep, p_copy⟩ := p
  have h_arith : p_arith = prims.arith := congrArg Prims.arith hp
  have h_bnot : p_bnot = prims.bnot := congrArg Prims.bnot hp
  have h_cmp : p_cmp = prims.cmp := congrArg Prims.cmp hp
  have h_int : p_int = prims.int := congrArg Prims.int hp
  have h_len : p_len = prims.len := congrArg Prims.len hp
  have h_nth : p_nth = prims.nth := congrArg Prims.nth hp
  clear hp
  have nth_Link := @nthF_Link
  rw [← h_nth, ← hm_Link] at nth_Link
  unfold Has_s_impl_InRange at hF_s_impl_InRange
  unfold Has_s_impl_compareLinks at hF_s_impl_compareLinks
  generalize hal : (fun (F : St → (Ex → St → Option (List Arg)) → Option (List Arg)) lv => aloop F lv fuel) = al
  rw [s_impl_ValidTopology]
  conv => lhs; cbv
  refine (loop_al hal (fun v1 => ⟨[dd, .c (.ptr (0, 0, 0) 2 0 0), dd, dd, dd, dd, .c (.rd true 68 2 (m_Link a0.links)), .c (.at (.int .i64 (p_int (p_len (m_Link a0.links))))), .c (.at (.int .i64 v1)), dd, dd, dd, dd, dd, dd, dd, dd, dd, dd, dd, dd, dd, dd, dd, dd, dd, dd, dd, dd, dd, dd, dd, dd, dd, dd, dd, dd, dd, dd, dd, dd, dd, dd, dd, dd, dd, dd, dd, dd, dd, dd], [((0, 0, 0), ⟨false, true, 32, 2, [[.at (.int .i64 a0.size), .rd true 68 2 (m_Link a0.links)]]⟩)], 1⟩) (s_impl_ValidTopology_l1 a0) (fun K g => match g with | .inl v1 => K (.exit 0) ⟨[dd, .c (.ptr (0, 0, 0) 2 0 0), dd, dd, dd, dd, .c (.rd true 68 2 (m_Link a0.links)), .c (.at (.int .i64 (p_int (p_len (m_Link a0.links))))), .c (.at (.int .i64 v1)), .c (.at (.bool false)), dd, dd, dd, dd, dd, dd, dd, dd, dd, dd, dd, dd, dd, dd, dd, dd, dd, dd, dd, dd, dd, dd, dd, dd, dd, dd, dd, dd, dd, dd, dd, dd, dd, dd, dd, dd, dd, dd, dd, dd, dd], [((0, 0, 0), ⟨false, true, 32, 2, [[.at (.int .i64 a0.size), .rd true 68 2 (m_Link a0.links)]]⟩)], 2⟩ | .inr (r) => some [.v (.at (.bool r))]) ?_ 0 _ (rfl)).trans (cL ?_)
  · rintro K1 hr1 v1 R1
    rw [s_impl_ValidTopology_l1, ← h_arith, ← h_bnot, ← h_cmp, ← h_int, ← h_len, ← hm_Link]
    conv => lhs; cbv
    refine cC (fun hb2 => ?_) (fun hb2 => ?_)
    · rw [hb2]
      conv => lhs; cbv
      rw [nth_Link]
      refine cO (fun hx4 => ?_) ?_
      · rw [hx4]
        first | done | rfl
      · rintro x3 hx4
        rw [hx4]
        conv => lhs; cbv
        rw [hF_s_impl_InRange x3.a 0 (p_arith .sub .i64 a0.size 1)]
        refine cO (fun hx6 => ?_) ?_
        · rw [hx6]
          first | done | rfl
        · rintro r5 hx6
          rw [hx6]
          conv => lhs; cbv
          refine cC (fun hb7 => ?_) (fun hb7 => ?_)
          · rw [hb7]
            conv => lhs; cbv
            rw [hr1]
            conv => lhs; cbv
            first | done | rfl
          · rw [hb7]
            conv => lhs; cbv
            rw [hF_s_impl_InRange x3.b (p_arith .add .i64 x3.a 1) (p_arith .sub .i64 a0.size 1)]
            refine cO (fun hx9 => ?_) ?_
            · rw [hx9]
              first | done | rfl
            · rintro r8 hx9
              rw [hx9]
              conv => lhs; cbv
              refine cC (fun hb10 => ?_) (fun hb10 => ?_)
              · rw [hb10]
                conv => lhs; cbv
                rw [hr1]
                conv => lhs; cbv
                first | done | rfl
              · rw [hb10]
                conv => lhs; cbv
                refine cC (fun hb11 => ?_) (fun hb11 => ?_)
                · rw [hb11]
                  conv => lhs; cbv
                  rw [nth_Link]
                  refine cO (fun hx13 => ?_) ?_
                  · rw [hx13]
                    first | done | rfl
                  · rintro x12 hx13
                    rw [hx13]
                    conv => lhs; cbv
                    rw [hF_s_impl_compareLinks x12 x3]
                    refine cO (fun hx15 => ?_) ?_
                    · rw [hx15]
                      first | done | rfl
                    · rintro r14 hx15
                      rw [hx15]
                      conv => lhs; cbv
                      refine cC (fun hb16 => ?_) (fun hb16 => ?_)
                      · rw [hb16]
                        conv => lhs; cbv
                        rw [hr1]
                        conv => lhs; cbv
                        first | done | rfl
                      · rw [hb16]
                        conv => lhs; cbv
                        first | done | rfl
                · rw [hb11]
                  conv => lhs; cbv
                  first | done | rfl
    · rw [hb2]
      conv => lhs; cbv
      first | done | rfl
  · rintro (w17 | w20)
    · conv => lhs; cbv
      rw [hF_s_impl_InRange a0.size 1 6]
      refine cO (fun hx19 => ?_) ?_
      · rw [hx19]
        first | done | rfl
      · rintro r18 hx19
        rw [hx19]
        conv => lhs; cbv
        first | done | rfl
    · rfl
def s_impl_ValidPart_l1 (a0 : ByteArray) : Int → Option ((Int) ⊕ ((Int) ⊕ (Bool)))
  | v1 => bif prims.cmp .lss v1 (prims.ssize a0) then ((prims.sat a0 v1).bind fun x3 => bif prims.cmp .geq x3 97 then (bif prims.cmp .leq x3 122 then (bif prims.bnot true then (some (.inr (.inr (false)))) else (some (.inl (prims.arith .add .i64 v1 1)))) else (bif prims.cmp .geq x3 48 then (bif prims.cmp .leq x3 57 then (bif prims.bnot true then (some (.inr (.inr (false)))) else (some (.inl (prims.arith .add .i64 v1 1)))) else (bif prims.bnot (prims.cmp .eql x3 45) then (some (.inr (.inr (false)))) else (some (.inl (prims.arith .add .i64 v1 1))))) else (bif prims.bnot (prims.cmp .eql x3 45) then (some (.inr (.inr (false)))) else (some (.inl (prims.arith .add .i64 v1 1)))))) else (bif prims.cmp .geq x3 48 then (bif prims.cmp .leq x3 57 then (bif prims.bnot true then (some (.inr (.inr (false)))) else (some (.inl (prims.arith .add .i64 v1 1)))) else (bif prims.bnot (prims.cmp .eql x3 45) then (some (.inr (.inr (false)))) else (some (.inl (prims.arith .add .i64 v1 1))))) else (bif prims.bnot (prims.cmp .eql x3 45) then (some (.inr (.inr (false)))) else (some (.inl (prims.arith .add .i64 v1 1)))))) else (some (.inr (.inl v1)))
def s_impl_ValidPart (a0 : ByteArray) : Option (Bool) := (whileO (s_impl_ValidPart_l1 a0) fuel 0).bind fun g => match g with | .inl w18 => ((s_impl_InRange (prims.ssize a0) 1 8).bind fun r19 => some r19) | .inr (w21) => (some w21)
def Has_s_impl_ValidPart (F : Fns) : Prop := ∀ (a0 : ByteArray), F 62 [.v (.at (.string a0))] = (s_impl_ValidPart a0).bind fun r => some [.v (.at (.bool r))]
set_option maxHeartbeats 40000000 in
theorem e_s_impl_ValidPart (F : Fns) (hF_s_impl_InRange : Has_s_impl_InRange F) (a0 : ByteArray) : evBody prims (fun F lv => aloop F lv fuel) TY F ⟨Tryz.f62, Tryz.f62.body.getD .skip, fun id => if id = 2 then [0, 6, 7] else []⟩ [.v (.at (.string a0))] = (s_impl_ValidPart a0).bind fun r => some [.v (.at (.bool r))] := by
  obtain ⟨p, hp⟩ : ∃ p : Prims, p = prims := ⟨_, rfl⟩
  rw [← hp]
  obtain ⟨p_arith, p_cmp, p_wrap, p_scmp, p_scat, p_catOk, p_ssize, p_sat, p_ssub, p_bytes, p_str, p_bnot, p_beq, p_min, p_max, p_len, p_int, p_nth, p_sub, p_rsub, p_ridx, p_rnth, p_rset, p_rapp, p_rlen, p_addN, p_full, p_fits, p_frz, p_own, p_opn, p_lend, p_rmov, p_rout, p_both, p_yI, p_ofB, p_byW, p_mkN, p_rep, p_copy⟩ := p
  have h_arith : p_arith = prims.arith := congrArg Prims.arith hp
  have h_bnot : p_bnot = prims.bnot := congrArg Prims.bnot hp
  have h_cmp : p_cmp = prims.cmp := congrArg Prims.cmp hp
  have h_sat : p_sat = prims.sat := congrArg Prims.sat hp
  have h_ssize : p_ssize = prims.ssize := congrArg Prims.ssize hp
  clear hp
  unfold Has_s_impl_InRange at hF_s_impl_InRange
  generalize hal : (fun (F : St → (Ex → St → Option (List Arg)) → Option (List Arg)) lv => aloop F lv fuel) = al
  rw [s_impl_ValidPart, ← h_ssize]
  conv => lhs; cbv
  refine (loop_al hal (fun v1 => ⟨[.c (.at (.string a0)), dd, dd, dd, dd, dd, .c (.at (.int .i64 (p_ssize a0))), .c (.at (.int .i64 v1)), dd, dd, dd, dd, dd, dd, dd, dd, dd, dd, dd, dd, dd, dd, dd, dd, dd, dd, dd, dd, dd, dd, dd, dd, dd, dd, dd, dd], [], 1⟩) (s_impl_ValidPart_l1 a0) (fun K g => match g with | .inl v1 => K (.exit 0) ⟨[.c (.at (.string a0)), dd, dd, dd, dd, dd, .c (.at (.int .i64 (p_ssize a0))), .c (.at (.int .i64 v1)), .c (.at (.bool false)), dd, dd, dd, dd, dd, dd, dd, dd, dd, dd, dd, dd, dd, dd, dd, dd, dd, dd, dd, dd, dd, dd, dd, dd, dd, dd, dd], [], 2⟩ | .inr (r) => some [.v (.at (.bool r))]) ?_ 0 _ (rfl)).trans (cL ?_)
  · rintro K1 hr1 v1 R1
    rw [s_impl_ValidPart_l1, ← h_arith, ← h_bnot, ← h_cmp, ← h_sat, ← h_ssize]
    conv => lhs; cbv
    refine cC (fun hb2 => ?_) (fun hb2 => ?_)
    · rw [hb2]
      conv => lhs; cbv
      refine cO (fun hx4 => ?_) ?_
      · rw [hx4]
        first | done | rfl
      · rintro x3 hx4
        rw [hx4]
        conv => lhs; cbv
        refine cC (fun hb5 => ?_) (fun hb5 => ?_)
        · rw [hb5]
          conv => lhs; cbv
          refine cC (fun hb6 => ?_) (fun hb6 => ?_)
          · rw [hb6]
            conv => lhs; cbv
            refine cC (fun hb7 => ?_) (fun hb7 => ?_)
            · rw [hb7]
              conv => lhs; cbv
              rw [hr1]
              conv => lhs; cbv
              first | done | rfl
            · rw [hb7]
              conv => lhs; cbv
              first | done | rfl
          · rw [hb6]
            conv => lhs; cbv
            refine cC (fun hb8 => ?_) (fun hb8 => ?_)
            · rw [hb8]
              conv => lhs; cbv
              refine cC (fun hb9 => ?_) (fun hb9 => ?_)
              · rw [hb9]
                conv => lhs; cbv
                refine cC (fun hb10 => ?_) (fun hb10 => ?_)
                · rw [hb10]
                  conv => lhs; cbv
                  rw [hr1]
                  conv => lhs; cbv
                  first | done | rfl
                · rw [hb10]
                  conv => lhs; cbv
                  first | done | rfl
              · rw [hb9]
                conv => lhs; cbv
                refine cC (fun hb11 => ?_) (fun hb11 => ?_)
                · rw [hb11]
                  conv => lhs; cbv
                  rw [hr1]
                  conv => lhs; cbv
                  first | done | rfl
                · rw [hb11]
                  conv => lhs; cbv
                  first | done | rfl
            · rw [hb8]
              conv => lhs; cbv
              refine cC (fun hb12 => ?_) (fun hb12 => ?_)
              · rw [hb12]
                conv => lhs; cbv
                rw [hr1]
                conv => lhs; cbv
                first | done | rfl
              · rw [hb12]
                conv => lhs; cbv
                first | done | rfl
        · rw [hb5]
          conv => lhs; cbv
          refine cC (fun hb13 => ?_) (fun hb13 => ?_)
          · rw [hb13]
            conv => lhs; cbv
            refine cC (fun hb14 => ?_) (fun hb14 => ?_)
            · rw [hb14]
              conv => lhs; cbv
              refine cC (fun hb15 => ?_) (fun hb15 => ?_)
              · rw [hb15]
                conv => lhs; cbv
                rw [hr1]
                conv => lhs; cbv
                first | done | rfl
              · rw [hb15]
                conv => lhs; cbv
                first | done | rfl
            · rw [hb14]
              conv => lhs; cbv
              refine cC (fun hb16 => ?_) (fun hb16 => ?_)
              · rw [hb16]
                conv => lhs; cbv
                rw [hr1]
                conv => lhs; cbv
                first | done | rfl
              · rw [hb16]
                conv => lhs; cbv
                first | done | rfl
          · rw [hb13]
            conv => lhs; cbv
            refine cC (fun hb17 => ?_) (fun hb17 => ?_)
            · rw [hb17]
              conv => lhs; cbv
              rw [hr1]
              conv => lhs; cbv
              first | done | rfl
            · rw [hb17]
              conv => lhs; cbv
              first | done | rfl
    · rw [hb2]
      conv => lhs; cbv
      first | done | rfl
  · rintro (w18 | w21)
    · conv => lhs; cbv
      rw [hF_s_impl_InRange (p_ssize a0) 1 8]
      refine cO (fun hx20 => ?_) ?_
      · rw [hx20]
        first | done | rfl
      · rintro r19 hx20
        rw [hx20]
        conv => lhs; cbv
        first | done | rfl
    · rfl
def s_impl_ValidName_1 (a0 : ByteArray) : Option (Bool) := (s_impl_ValidPart a0).bind fun r1 => some (prims.bnot r1)
def Has_s_impl_ValidName_1 (F : Fns) : Prop := ∀ (a0 : ByteArray), F 61 [.v (.at (.string a0))] = (s_impl_ValidName_1 a0).bind fun r => some [.v (.at (.bool r))]
set_option maxHeartbeats 40000000 in
theorem e_s_impl_ValidName_1 (F : Fns) (hF_s_impl_ValidPart : Has_s_impl_ValidPart F) (a0 : ByteArray) : evBody prims (fun F lv => aloop F lv fuel) TY F ⟨Tryz.f61, Tryz.f61.body.getD .skip, fun _ => []⟩ [.v (.at (.string a0))] = (s_impl_ValidName_1 a0).bind fun r => some [.v (.at (.bool r))] := by
  obtain ⟨p, hp⟩ : ∃ p : Prims, p = prims := ⟨_, rfl⟩
  rw [← hp]
  obtain ⟨p_arith, p_cmp, p_wrap, p_scmp, p_scat, p_catOk, p_ssize, p_sat, p_ssub, p_bytes, p_str, p_bnot, p_beq, p_min, p_max, p_len, p_int, p_nth, p_sub, p_rsub, p_ridx, p_rnth, p_rset, p_rapp, p_rlen, p_addN, p_full, p_fits, p_frz, p_own, p_opn, p_lend, p_rmov, p_rout, p_both, p_yI, p_ofB, p_byW, p_mkN, p_rep, p_copy⟩ := p
  have h_bnot : p_bnot = prims.bnot := congrArg Prims.bnot hp
  clear hp
  unfold Has_s_impl_ValidPart at hF_s_impl_ValidPart
  generalize hal : (fun (F : St → (Ex → St → Option (List Arg)) → Option (List Arg)) lv => aloop F lv fuel) = al
  rw [s_impl_ValidName_1, ← h_bnot]
  conv => lhs; cbv
  rw [hF_s_impl_ValidPart a0]
  refine cO (fun hx2 => ?_) ?_
  · rw [hx2]
    first | done | rfl
  · rintro r1 hx2
    rw [hx2]
    conv => lhs; cbv
    first | done | rfl
def s_slices_IndexFunc_string__ValidName_1_l1 (a0 : (List ByteArray)) : Int → Option ((Int) ⊕ ((Int) ⊕ (Int)))
  | v1 => bif prims.cmp .lss v1 (prims.int (prims.len (List.map eS a0))) then ((nthI a0 v1).bind fun x3 => (s_impl_ValidName_1 x3).bind fun r5 => bif r5 then (some (.inr (.inr (v1)))) else (some (.inl (prims.arith .add .i64 v1 1)))) else (some (.inr (.inl v1)))
def s_slices_IndexFunc_string__ValidName_1 (a0 : (List ByteArray)) : Option (Int) := (whileO (s_slices_IndexFunc_string__ValidName_1_l1 a0) fuel 0).bind fun g => match g with | .inl w8 => (some (-1)) | .inr (w9) => (some w9)
def Has_s_slices_IndexFunc_string__ValidName_1 (F : Fns) : Prop := ∀ (a0 : (List ByteArray)), F 82 [.v (.sl 9 1 (List.map eS a0)), .v (.fn 61 [])] = (s_slices_IndexFunc_string__ValidName_1 a0).bind fun r => some [.v (.at (.int .i64 r))]
set_option maxHeartbeats 40000000 in
theorem e_s_slices_IndexFunc_string__ValidName_1 (F : Fns) (hF_s_impl_ValidName_1 : Has_s_impl_ValidName_1 F) (a0 : (List ByteArray)) : evBody prims (fun F lv => aloop F lv fuel) TY F ⟨Tryz.f82, Tryz.f82.body.getD .skip, fun id => if id = 2 then [0, 1, 7, 8] else []⟩ [.v (.sl 9 1 (List.map eS a0)), .v (.fn 61 [])] = (s_slices_IndexFunc_string__ValidName_1 a0).bind fun r => some [.v (.at (.int .i64 r))] := by
  obtain ⟨p, hp⟩ : ∃ p : Prims, p = prims := ⟨_, rfl⟩
  obtain ⟨m_string, hm_string⟩ : ∃ m, m = List.map eS := ⟨_, rfl⟩
  rw [← hp]
  rw [← hm_string]
  obtain ⟨p_arith, p_cmp, p_wrap, p_scmp, p_scat, p_catOk, p_ssize, p_sat, p_ssub, p_bytes, p_str, p_bnot, p_beq, p_min, p_max, p_len, p_int, p_nth, p_sub, p_rsub, p_ridx, p_rnth, p_rset, p_rapp, p_rlen, p_addN, p_full, p_fits, p_frz, p_own, p_opn, p_lend, p_rmov, p_rout, p_both, p_yI, p_ofB, p_byW, p_mkN, p_rep, p_copy⟩ := p
  have h_arith : p_arith = prims.arith := congrArg Prims.arith hp
  have h_cmp : p_cmp = prims.cmp := congrArg Prims.cmp hp
  have h_int : p_int = prims.int := congrArg Prims.int hp
  have h_len : p_len = prims.len := congrArg Prims.len hp
  have h_nth : p_nth = prims.nth := congrArg Prims.nth hp
  clear hp
  have nth_string := @nthF_string
  rw [← h_nth, ← hm_string] at nth_string
  unfold Has_s_impl_ValidName_1 at hF_s_impl_ValidName_1
  generalize hal : (fun (F : St → (Ex → St → Option (List Arg)) → Option (List Arg)) lv => aloop F lv fuel) = al
  rw [s_slices_IndexFunc_string__ValidName_1]
  conv => lhs; cbv
  refine (loop_al hal (fun v1 => ⟨[.c (.rd true 9 1 (m_string a0)), .c (.fn 61 []), dd, dd, dd, dd, dd, .c (.at (.int .i64 (p_int (p_len (m_string a0))))), .c (.at (.int .i64 v1)), dd, dd, dd, dd, dd, dd, dd, dd, dd, dd], [], 1⟩) (s_slices_IndexFunc_string__ValidName_1_l1 a0) (fun K g => match g with | .inl v1 => K (.exit 0) ⟨[.c (.rd true 9 1 (m_string a0)), .c (.fn 61 []), dd, dd, dd, dd, dd, .c (.at (.int .i64 (p_int (p_len (m_string a0))))), .c (.at (.int .i64 v1)), .c (.at (.bool false)), dd, dd, dd, dd, dd, dd, dd, dd, dd], [], 2⟩ | .inr (r) => some [.v (.at (.int .i64 r))]) ?_ 0 _ (rfl)).trans (cL ?_)
  · rintro K1 hr1 v1 R1
    rw [s_slices_IndexFunc_string__ValidName_1_l1, ← h_arith, ← h_cmp, ← h_int, ← h_len, ← hm_string]
    conv => lhs; cbv
    refine cC (fun hb2 => ?_) (fun hb2 => ?_)
    · rw [hb2]
      conv => lhs; cbv
      rw [nth_string]
      refine cO (fun hx4 => ?_) ?_
      · rw [hx4]
        first | done | rfl
      · rintro x3 hx4
        rw [hx4]
        conv => lhs; cbv
        rw [hF_s_impl_ValidName_1 x3]
        refine cO (fun hx6 => ?_) ?_
        · rw [hx6]
          first | done | rfl
        · rintro r5 hx6
          rw [hx6]
          conv => lhs; cbv
          refine cC (fun hb7 => ?_) (fun hb7 => ?_)
          · rw [hb7]
            conv => lhs; cbv
            rw [hr1]
            conv => lhs; cbv
            first | done | rfl
          · rw [hb7]
            conv => lhs; cbv
            first | done | rfl
    · rw [hb2]
      conv => lhs; cbv
      first | done | rfl
  · rintro (w8 | w9)
    · conv => lhs; cbv
      first | done | rfl
    · rfl
def s_slices_ContainsFunc_string__ValidName_1 (a0 : (List ByteArray)) : Option (Bool) := (s_slices_IndexFunc_string__ValidName_1 a0).bind fun r1 => some (prims.cmp .geq r1 0)
def Has_s_slices_ContainsFunc_string__ValidName_1 (F : Fns) : Prop := ∀ (a0 : (List ByteArray)), F 60 [.v (.sl 9 1 (List.map eS a0)), .v (.fn 61 [])] = (s_slices_ContainsFunc_string__ValidName_1 a0).bind fun r => some [.v (.at (.bool r))]
set_option maxHeartbeats 40000000 in
theorem e_s_slices_ContainsFunc_string__ValidName_1 (F : Fns) (hF_s_slices_IndexFunc_string__ValidName_1 : Has_s_slices_IndexFunc_string__ValidName_1 F) (a0 : (List ByteArray)) : evBody prims (fun F lv => aloop F lv fuel) TY F ⟨Tryz.f60, Tryz.f60.body.getD .skip, fun _ => []⟩ [.v (.sl 9 1 (List.map eS a0)), .v (.fn 61 [])] = (s_slices_ContainsFunc_string__ValidName_1 a0).bind fun r => some [.v (.at (.bool r))] := by
  obtain ⟨p, hp⟩ : ∃ p : Prims, p = prims := ⟨_, rfl⟩
  obtain ⟨m_string, hm_string⟩ : ∃ m, m = List.map eS := ⟨_, rfl⟩
  rw [← hp]
  rw [← hm_string]
  obtain ⟨p_arith, p_cmp, p_wrap, p_scmp, p_scat, p_catOk, p_ssize, p_sat, p_ssub, p_bytes, p_str, p_bnot, p_beq, p_min, p_max, p_len, p_int, p_nth, p_sub, p_rsub, p_ridx, p_rnth, p_rset, p_rapp, p_rlen, p_addN, p_full, p_fits, p_frz, p_own, p_opn, p_lend, p_rmov, p_rout, p_both, p_yI, p_ofB, p_byW, p_mkN, p_rep, p_copy⟩ := p
  have h_cmp : p_cmp = prims.cmp := congrArg Prims.cmp hp
  clear hp
  unfold Has_s_slices_IndexFunc_string__ValidName_1 at hF_s_slices_IndexFunc_string__ValidName_1
  rw [← hm_string] at hF_s_slices_IndexFunc_string__ValidName_1
  generalize hal : (fun (F : St → (Ex → St → Option (List Arg)) → Option (List Arg)) lv => aloop F lv fuel) = al
  rw [s_slices_ContainsFunc_string__ValidName_1, ← h_cmp]
  conv => lhs; cbv
  rw [hF_s_slices_IndexFunc_string__ValidName_1 a0]
  refine cO (fun hx2 => ?_) ?_
  · rw [hx2]
    first | done | rfl
  · rintro r1 hx2
    rw [hx2]
    conv => lhs; cbv
    first | done | rfl
def s_impl_ValidName (a0 : (List ByteArray)) : Option (Bool) := bif prims.cmp .leq (prims.int (prims.len (List.map eS a0))) 6 then ((s_slices_ContainsFunc_string__ValidName_1 a0).bind fun r2 => some (prims.bnot r2)) else (some false)
def Has_s_impl_ValidName (F : Fns) : Prop := ∀ (a0 : (List ByteArray)), F 38 [.a [.sl 9 1 (List.map eS a0)]] = (s_impl_ValidName a0).bind fun r => some [.v (.at (.bool r))]
set_option maxHeartbeats 40000000 in
theorem e_s_impl_ValidName (F : Fns) (hF_s_slices_ContainsFunc_string__ValidName_1 : Has_s_slices_ContainsFunc_string__ValidName_1 F) (a0 : (List ByteArray)) : evBody prims (fun F lv => aloop F lv fuel) TY F ⟨Tryz.f38, Tryz.f38.body.getD .skip, fun _ => []⟩ [.a [.sl 9 1 (List.map eS a0)]] = (s_impl_ValidName a0).bind fun r => some [.v (.at (.bool r))] := by
  obtain ⟨p, hp⟩ : ∃ p : Prims, p = prims := ⟨_, rfl⟩
  obtain ⟨m_string, hm_string⟩ : ∃ m, m = List.map eS := ⟨_, rfl⟩
  rw [← hp]
  rw [← hm_string]
  obtain ⟨p_arith, p_cmp, p_wrap, p_scmp, p_scat, p_catOk, p_ssize, p_sat, p_ssub, p_bytes, p_str, p_bnot, p_beq, p_min, p_max, p_len, p_int, p_nth, p_sub, p_rsub, p_ridx, p_rnth, p_rset, p_rapp, p_rlen, p_addN, p_full, p_fits, p_frz, p_own, p_opn, p_lend, p_rmov, p_rout, p_both, p_yI, p_ofB, p_byW, p_mkN, p_rep, p_copy⟩ := p
  have h_bnot : p_bnot = prims.bnot := congrArg Prims.bnot hp
  have h_cmp : p_cmp = prims.cmp := congrArg Prims.cmp hp
  have h_int : p_int = prims.int := congrArg Prims.int hp
  have h_len : p_len = prims.len := congrArg Prims.len hp
  clear hp
  unfold Has_s_slices_ContainsFunc_string__ValidName_1 at hF_s_slices_ContainsFunc_string__ValidName_1
  rw [← hm_string] at hF_s_slices_ContainsFunc_string__ValidName_1
  generalize hal : (fun (F : St → (Ex → St → Option (List Arg)) → Option (List Arg)) lv => aloop F lv fuel) = al
  rw [s_impl_ValidName, ← h_bnot, ← h_cmp, ← h_int, ← h_len, ← hm_string]
  conv => lhs; cbv
  refine cC (fun hb1 => ?_) (fun hb1 => ?_)
  · rw [hb1]
    conv => lhs; cbv
    rw [hF_s_slices_ContainsFunc_string__ValidName_1 a0]
    refine cO (fun hx3 => ?_) ?_
    · rw [hx3]
      first | done | rfl
    · rintro r2 hx3
      rw [hx3]
      conv => lhs; cbv
      first | done | rfl
  · rw [hb1]
    conv => lhs; cbv
    first | done | rfl
def s_cmp_isNaN_string (a0 : ByteArray) : Option (Bool) := some (prims.scmp .neq a0 a0)
def Has_s_cmp_isNaN_string (F : Fns) : Prop := ∀ (a0 : ByteArray), F 104 [.v (.at (.string a0))] = (s_cmp_isNaN_string a0).bind fun r => some [.v (.at (.bool r))]
set_option maxHeartbeats 40000000 in
theorem e_s_cmp_isNaN_string (F : Fns) (a0 : ByteArray) : evBody prims (fun F lv => aloop F lv fuel) TY F ⟨Tryz.f104, Tryz.f104.body.getD .skip, fun _ => []⟩ [.v (.at (.string a0))] = (s_cmp_isNaN_string a0).bind fun r => some [.v (.at (.bool r))] := by
  obtain ⟨p, hp⟩ : ∃ p : Prims, p = prims := ⟨_, rfl⟩
  rw [← hp]
  obtain ⟨p_arith, p_cmp, p_wrap, p_scmp, p_scat, p_catOk, p_ssize, p_sat, p_ssub, p_bytes, p_str, p_bnot, p_beq, p_min, p_max, p_len, p_int, p_nth, p_sub, p_rsub, p_ridx, p_rnth, p_rset, p_rapp, p_rlen, p_addN, p_full, p_fits, p_frz, p_own, p_opn, p_lend, p_rmov, p_rout, p_both, p_yI, p_ofB, p_byW, p_mkN, p_rep, p_copy⟩ := p
  have h_scmp : p_scmp = prims.scmp := congrArg Prims.scmp hp
  clear hp
  generalize hal : (fun (F : St → (Ex → St → Option (List Arg)) → Option (List Arg)) lv => aloop F lv fuel) = al
  rw [s_cmp_isNaN_string, ← h_scmp]
  conv => lhs; cbv
  first | done | rfl
def s_cmp_Compare_string (a0 : ByteArray) (a1 : ByteArray) : Option (Int) := (s_cmp_isNaN_string a0).bind fun r1 => (s_cmp_isNaN_string a1).bind fun r3 => bif r1 then (bif r3 then (some 0) else (some (-1))) else (bif r3 then (some 1) else (bif prims.scmp .lss a0 a1 then (some (-1)) else (bif prims.scmp .gtr a0 a1 then (some 1) else (some 0))))
def Has_s_cmp_Compare_string (F : Fns) : Prop := ∀ (a0 : ByteArray) (a1 : ByteArray), F 99 [.v (.at (.string a0)), .v (.at (.string a1))] = (s_cmp_Compare_string a0 a1).bind fun r => some [.v (.at (.int .i64 r))]
set_option maxHeartbeats 40000000 in
theorem e_s_cmp_Compare_string (F : Fns) (hF_s_cmp_isNaN_string : Has_s_cmp_isNaN_string F) (a0 : ByteArray) (a1 : ByteArray) : evBody prims (fun F lv => aloop F lv fuel) TY F ⟨Tryz.f99, Tryz.f99.body.getD .skip, fun _ => []⟩ [.v (.at (.string a0)), .v (.at (.string a1))] = (s_cmp_Compare_string a0 a1).bind fun r => some [.v (.at (.int .i64 r))] := by
  obtain ⟨p, hp⟩ : ∃ p : Prims, p = prims := ⟨_, rfl⟩
  rw [← hp]
  obtain ⟨p_arith, p_cmp, p_wrap, p_scmp, p_scat, p_catOk, p_ssize, p_sat, p_ssub, p_bytes, p_str, p_bnot, p_beq, p_min, p_max, p_len, p_int, p_nth, p_sub, p_rsub, p_ridx, p_rnth, p_rset, p_rapp, p_rlen, p_addN, p_full, p_fits, p_frz, p_own, p_opn, p_lend, p_rmov, p_rout, p_both, p_yI, p_ofB, p_byW, p_mkN, p_rep, p_copy⟩ := p
  have h_scmp : p_scmp = prims.scmp := congrArg Prims.scmp hp
  clear hp
  unfold Has_s_cmp_isNaN_string at hF_s_cmp_isNaN_string
  generalize hal : (fun (F : St → (Ex → St → Option (List Arg)) → Option (List Arg)) lv => aloop F lv fuel) = al
  rw [s_cmp_Compare_string, ← h_scmp]
  conv => lhs; cbv
  rw [hF_s_cmp_isNaN_string a0]
  refine cO (fun hx2 => ?_) ?_
  · rw [hx2]
    first | done | rfl
  · rintro r1 hx2
    rw [hx2]
    conv => lhs; cbv
    rw [hF_s_cmp_isNaN_string a1]
    refine cO (fun hx4 => ?_) ?_
    · rw [hx4]
      first | done | rfl
    · rintro r3 hx4
      rw [hx4]
      conv => lhs; cbv
      refine cC (fun hb5 => ?_) (fun hb5 => ?_)
      · rw [hb5]
        conv => lhs; cbv
        refine cC (fun hb6 => ?_) (fun hb6 => ?_)
        · rw [hb6]
          conv => lhs; cbv
          first | done | rfl
        · rw [hb6]
          conv => lhs; cbv
          first | done | rfl
      · rw [hb5]
        conv => lhs; cbv
        refine cC (fun hb7 => ?_) (fun hb7 => ?_)
        · rw [hb7]
          conv => lhs; cbv
          first | done | rfl
        · rw [hb7]
          conv => lhs; cbv
          refine cC (fun hb8 => ?_) (fun hb8 => ?_)
          · rw [hb8]
            conv => lhs; cbv
            first | done | rfl
          · rw [hb8]
            conv => lhs; cbv
            refine cC (fun hb9 => ?_) (fun hb9 => ?_)
            · rw [hb9]
              conv => lhs; cbv
              first | done | rfl
            · rw [hb9]
              conv => lhs; cbv
              first | done | rfl
def s_slices_Compare_string_l1 (a0 : (List ByteArray)) (a1 : (List ByteArray)) : Int → Option ((Int) ⊕ ((Int) ⊕ (Int)))
  | v1 => bif prims.cmp .lss v1 (prims.int (prims.len (List.map eS a0))) then ((nthI a0 v1).bind fun x3 => bif prims.cmp .geq v1 (prims.int (prims.len (List.map eS a1))) then (some (.inr (.inr (1)))) else ((nthI a1 v1).bind fun x6 => (s_cmp_Compare_string x3 x6).bind fun r8 => bif prims.cmp .neq r8 0 then (some (.inr (.inr (r8)))) else (some (.inl (prims.arith .add .i64 v1 1))))) else (some (.inr (.inl v1)))
def s_slices_Compare_string (a0 : (List ByteArray)) (a1 : (List ByteArray)) : Option (Int) := (whileO (s_slices_Compare_string_l1 a0 a1) fuel 0).bind fun g => match g with | .inl w11 => (bif prims.cmp .lss (prims.int (prims.len (List.map eS a0))) (prims.int (prims.len (List.map eS a1))) then (some (-1)) else (some 0)) | .inr (w13) => (some w13)
def Has_s_slices_Compare_string (F : Fns) : Prop := ∀ (a0 : (List ByteArray)) (a1 : (List ByteArray)), F 94 [.v (.sl 9 1 (List.map eS a0)), .v (.sl 9 1 (List.map eS a1))] = (s_slices_Compare_string a0 a1).bind fun r => some [.v (.at (.int .i64 r))]
set_option maxHeartbeats 40000000 in
theorem e_s_slices_Compare_string (F : Fns) (hF_s_cmp_Compare_string : Has_s_cmp_Compare_string F) (a0 : (List ByteArray)) (a1 : (List ByteArray)) : evBody prims (fun F lv => aloop F lv fuel) TY F ⟨Tryz.f94, Tryz.f94.body.getD .skip, fun id => if id = 2 then [0, 1, 9, 10, 11] else []⟩ [.v (.sl 9 1 (List.map eS a0)), .v (.sl 9 1 (List.map eS a1))] = (s_slices_Compare_string a0 a1).bind fun r => some [.v (.at (.int .i64 r))] := by
  obtain ⟨p, hp⟩ : ∃ p : Prims, p = prims := ⟨_, rfl⟩
  obtain ⟨m_string, hm_string⟩ : ∃ m, m = List.map eS := ⟨_, rfl⟩
  rw [← hp]
  rw [← hm_string]
  obtain ⟨p_arith, p_cmp, p_wrap, p_scmp, p_scat, p_catOk, p_ssize, p_sat, p_ssub, p_bytes, p_str, p_bnot, p_beq, p_min, p_max, p_len, p_int, p_nth, p_sub, p_rsub, p_ridx, p_rnth, p_rset, p_rapp, p_rlen, p_addN, p_full, p_fits, p_frz, p_own, p_opn, p_lend, p_rmov, p_rout, p_both, p_yI, p_ofB, p_byW, p_mkN, p_rep, p_copy⟩ := p
  have h_arith : p_arith = prims.arith := congrArg Prims.arith hp
  have h_cmp : p_cmp = prims.cmp := congrArg Prims.cmp hp
  have h_int : p_int = prims.int := congrArg Prims.int hp
  have h_len : p_len = prims.len := congrArg Prims.len hp
  have h_nth : p_nth = prims.nth := congrArg Prims.nth hp
  clear hp
  have nth_string := @nthF_string
  rw [← h_nth, ← hm_string] at nth_string
  unfold Has_s_cmp_Compare_string at hF_s_cmp_Compare_string
  generalize hal : (fun (F : St → (Ex → St → Option (List Arg)) → Option (List Arg)) lv => aloop F lv fuel) = al
  rw [s_slices_Compare_string, ← h_cmp, ← h_int, ← h_len, ← hm_string]
  conv => lhs; cbv
  refine (loop_al hal (fun v1 => ⟨[.c (.rd true 9 1 (m_string a0)), .c (.rd true 9 1 (m_string a1)), dd, dd, dd, dd, dd, dd, dd, .c (.rd true 9 1 (m_string a0)), .c (.at (.int .i64 (p_int (p_len (m_string a0))))), .c (.at (.int .i64 v1)), dd, dd, dd, dd, dd, dd, dd, dd, dd, dd, dd, dd, dd, dd, dd, dd, dd, dd, dd, dd, dd, dd, dd, dd], [], 1⟩) (s_slices_Compare_string_l1 a0 a1) (fun K g => match g with | .inl v1 => K (.exit 0) ⟨[.c (.rd true 9 1 (m_string a0)), .c (.rd true 9 1 (m_string a1)), dd, dd, dd, dd, dd, dd, dd, .c (.rd true 9 1 (m_string a0)), .c (.at (.int .i64 (p_int (p_len (m_string a0))))), .c (.at (.int .i64 v1)), .c (.at (.bool false)), dd, dd, dd, dd, dd, dd, dd, dd, dd, dd, dd, dd, dd, dd, dd, dd, dd, dd, dd, dd, dd, dd, dd], [], 2⟩ | .inr (r) => some [.v (.at (.int .i64 r))]) ?_ 0 _ (rfl)).trans (cL ?_)
  · rintro K1 hr1 v1 R1
    rw [s_slices_Compare_string_l1, ← h_arith, ← h_cmp, ← h_int, ← h_len, ← hm_string]
    conv => lhs; cbv
    refine cC (fun hb2 => ?_) (fun hb2 => ?_)
    · rw [hb2]
      conv => lhs; cbv
      rw [nth_string]
      refine cO (fun hx4 => ?_) ?_
      · rw [hx4]
        first | done | rfl
      · rintro x3 hx4
        rw [hx4]
        conv => lhs; cbv
        refine cC (fun hb5 => ?_) (fun hb5 => ?_)
        · rw [hb5]
          conv => lhs; cbv
          rw [hr1]
          conv => lhs; cbv
          first | done | rfl
        · rw [hb5]
          conv => lhs; cbv
          rw [nth_string]
          refine cO (fun hx7 => ?_) ?_
          · rw [hx7]
            first | done | rfl
          · rintro x6 hx7
            rw [hx7]
            conv => lhs; cbv
            rw [hF_s_cmp_Compare_string x3 x6]
            refine cO (fun hx9 => ?_) ?_
            · rw [hx9]
              first | done | rfl
            · rintro r8 hx9
              rw [hx9]
              conv => lhs; cbv
              refine cC (fun hb10 => ?_) (fun hb10 => ?_)
              · rw [hb10]
                conv => lhs; cbv
                rw [hr1]
                conv => lhs; cbv
                first | done | rfl
              · rw [hb10]
                conv => lhs; cbv
                first | done | rfl
    · rw [hb2]
      conv => lhs; cbv
      first | done | rfl
  · rintro (w11 | w13)
    · conv => lhs; cbv
      refine cC (fun hb12 => ?_) (fun hb12 => ?_)
      · rw [hb12]
        conv => lhs; cbv
        first | done | rfl
      · rw [hb12]
        conv => lhs; cbv
        first | done | rfl
    · rfl
def s_impl_CompareNames (a0 : (List ByteArray)) (a1 : (List ByteArray)) : Option (Int) := (s_slices_Compare_string a0 a1).bind fun r1 => some r1
def Has_s_impl_CompareNames (F : Fns) : Prop := ∀ (a0 : (List ByteArray)) (a1 : (List ByteArray)), F 83 [.a [.sl 9 1 (List.map eS a0)], .a [.sl 9 1 (List.map eS a1)]] = (s_impl_CompareNames a0 a1).bind fun r => some [.v (.at (.int .i64 r))]
set_option maxHeartbeats 40000000 in
theorem e_s_impl_CompareNames (F : Fns) (hF_s_slices_Compare_string : Has_s_slices_Compare_string F) (a0 : (List ByteArray)) (a1 : (List ByteArray)) : evBody prims (fun F lv => aloop F lv fuel) TY F ⟨Tryz.f83, Tryz.f83.body.getD .skip, fun _ => []⟩ [.a [.sl 9 1 (List.map eS a0)], .a [.sl 9 1 (List.map eS a1)]] = (s_impl_CompareNames a0 a1).bind fun r => some [.v (.at (.int .i64 r))] := by
  obtain ⟨p, hp⟩ : ∃ p : Prims, p = prims := ⟨_, rfl⟩
  obtain ⟨m_string, hm_string⟩ : ∃ m, m = List.map eS := ⟨_, rfl⟩
  rw [← hp]
  rw [← hm_string]
  obtain ⟨p_arith, p_cmp, p_wrap, p_scmp, p_scat, p_catOk, p_ssize, p_sat, p_ssub, p_bytes, p_str, p_bnot, p_beq, p_min, p_max, p_len, p_int, p_nth, p_sub, p_rsub, p_ridx, p_rnth, p_rset, p_rapp, p_rlen, p_addN, p_full, p_fits, p_frz, p_own, p_opn, p_lend, p_rmov, p_rout, p_both, p_yI, p_ofB, p_byW, p_mkN, p_rep, p_copy⟩ := p
  clear hp
  unfold Has_s_slices_Compare_string at hF_s_slices_Compare_string
  rw [← hm_string] at hF_s_slices_Compare_string
  generalize hal : (fun (F : St → (Ex → St → Option (List Arg)) → Option (List Arg)) lv => aloop F lv fuel) = al
  rw [s_impl_CompareNames]
  conv => lhs; cbv
  rw [hF_s_slices_Compare_string a0 a1]
  refine cO (fun hx2 => ?_) ?_
  · rw [hx2]
    first | done | rfl
  · rintro r1 hx2
    rw [hx2]
    conv => lhs; cbv
    first | done | rfl
def s_impl_ValidTable_l1 (a0 : (List DTableEntry)) : Int → Option ((Int) ⊕ ((Int) ⊕ (Bool)))
  | v1 => bif prims.cmp .lss v1 (prims.int (prims.len (List.map eTableEntry a0))) then ((nthI a0 v1).bind fun x3 => (s_impl_ValidName x3.name).bind fun r5 => bif prims.bnot r5 then (some (.inr (.inr (false)))) else (bif prims.cmp .gtr v1 0 then ((nthI a0 (prims.arith .sub .i64 v1 1)).bind fun x9 => (s_impl_CompareNames x9.name x3.name).bind fun r11 => bif prims.cmp .geq r11 0 then (some (.inr (.inr (false)))) else (some (.inl (prims.arith .add .i64 v1 1)))) else (some (.inl (prims.arith .add .i64 v1 1))))) else (some (.inr (.inl v1)))
def s_impl_ValidTable (a0 : (List DTableEntry)) : Option (Bool) := (whileO (s_impl_ValidTable_l1 a0) fuel 0).bind fun g => match g with | .inl w14 => (some (prims.cmp .leq (prims.int (prims.len (List.map eTableEntry a0))) 20)) | .inr (w15) => (some w15)
def Has_s_impl_ValidTable (F : Fns) : Prop := ∀ (a0 : (List DTableEntry)), F 63 [.v (.sl 92 2 (List.map eTableEntry a0))] = (s_impl_ValidTable a0).bind fun r => some [.v (.at (.bool r))]
set_option maxHeartbeats 40000000 in
theorem e_s_impl_ValidTable (F : Fns) (hF_s_impl_ValidName : Has_s_impl_ValidName F) (hF_s_impl_CompareNames : Has_s_impl_CompareNames F) (a0 : (List DTableEntry)) : evBody prims (fun F lv => aloop F lv fuel) TY F ⟨Tryz.f63, Tryz.f63.body.getD .skip, fun id => if id = 2 then [0, 5, 6, 7] else []⟩ [.v (.sl 92 2 (List.map eTableEntry a0))] = (s_impl_ValidTable a0).bind fun r => some [.v (.at (.bool r))] := by
  obtain ⟨p, hp⟩ : ∃ p : Prims, p = prims := ⟨_, rfl⟩
  obtain ⟨m_TableEntry, hm_TableEntry⟩ : ∃ m, m = List.map eTableEntry := ⟨_, rfl⟩
  obtain ⟨m_string, hm_string⟩ : ∃ m, m = List.map eS := ⟨_, rfl⟩
  rw [← hp]
  rw [← hm_TableEntry]
  obtain ⟨p_arith, p_cmp, p_wrap, p_scmp, p_scat, p_catOk, p_ssize, p_sat, p_ssub, p_bytes, p_str, p_bnot, p_beq, p_min, p_max, p_len, p_int, p_nth, p_sub, p_rsub, p_ridx, p_rnth, p_rset, p_rapp, p_rlen, p_addN, p_full, p_fits, p_frz, p_own, p_opn, p_lend, p_rmov, p_rout, p_both, p_yI, p_ofB, p_byW, p_mkN, p_rep, p_copy⟩ := p
  have h_arith : p_arith = prims.arith := congrArg Prims.arith hp
  have h_bnot : p_bnot = prims.bnot := congrArg Prims.bnot hp
  have h_cmp : p_cmp = prims.cmp := congrArg Prims.cmp hp
  have h_int : p_int = prims.int := congrArg Prims.int hp
  have h_len : p_len = prims.len := congrArg Prims.len hp
  have h_nth : p_nth = prims.nth := congrArg Prims.nth hp
  clear hp
  have nth_TableEntry := @nthF_TableEntry
  rw [← h_nth, ← hm_TableEntry, ← hm_string] at nth_TableEntry
  unfold Has_s_impl_ValidName at hF_s_impl_ValidName
  rw [← hm_string] at hF_s_impl_ValidName
  unfold Has_s_impl_CompareNames at hF_s_impl_CompareNames
  rw [← hm_string] at hF_s_impl_CompareNames
  generalize hal : (fun (F : St → (Ex → St → Option (List Arg)) → Option (List Arg)) lv => aloop F lv fuel) = al
  rw [s_impl_ValidTable, ← h_cmp, ← h_int, ← h_len, ← hm_TableEntry]
  conv => lhs; cbv
  refine (loop_al hal (fun v1 => ⟨[.c (.rd true 92 2 (m_TableEntry a0)), dd, dd, dd, dd, .c (.rd true 92 2 (m_TableEntry a0)), .c (.at (.int .i64 (p_int (p_len (m_TableEntry a0))))), .c (.at (.int .i64 v1)), dd, dd, dd, dd, dd, dd, dd, dd, dd, dd, dd, dd, dd, dd, dd, dd, dd, dd, dd, dd, dd, dd, dd, dd, dd, dd, dd, dd], [], 1⟩) (s_impl_ValidTable_l1 a0) (fun K g => match g with | .inl v1 => K (.exit 0) ⟨[.c (.rd true 92 2 (m_TableEntry a0)), dd, dd, dd, dd, .c (.rd true 92 2 (m_TableEntry a0)), .c (.at (.int .i64 (p_int (p_len (m_TableEntry a0))))), .c (.at (.int .i64 v1)), .c (.at (.bool false)), dd, dd, dd, dd, dd, dd, dd, dd, dd, dd, dd, dd, dd, dd, dd, dd, dd, dd, dd, dd, dd, dd, dd, dd, dd, dd, dd], [], 2⟩ | .inr (r) => some [.v (.at (.bool r))]) ?_ 0 _ (rfl)).trans (cL ?_)
  · rintro K1 hr1 v1 R1
    rw [s_impl_ValidTable_l1, ← h_arith, ← h_bnot, ← h_cmp, ← h_int, ← h_len, ← hm_TableEntry]
    conv => lhs; cbv
    refine cC (fun hb2 => ?_) (fun hb2 => ?_)
    · rw [hb2]
      conv => lhs; cbv
      rw [nth_TableEntry]
      refine cO (fun hx4 => ?_) ?_
      · rw [hx4]
        first | done | rfl
      · rintro x3 hx4
        rw [hx4]
        conv => lhs; cbv
        rw [hF_s_impl_ValidName x3.name]
        refine cO (fun hx6 => ?_) ?_
        · rw [hx6]
          first | done | rfl
        · rintro r5 hx6
          rw [hx6]
          conv => lhs; cbv
          refine cC (fun hb7 => ?_) (fun hb7 => ?_)
          · rw [hb7]
            conv => lhs; cbv
            rw [hr1]
            conv => lhs; cbv
            first | done | rfl
          · rw [hb7]
            conv => lhs; cbv
            refine cC (fun hb8 => ?_) (fun hb8 => ?_)
            · rw [hb8]
              conv => lhs; cbv
              rw [nth_TableEntry]
              refine cO (fun hx10 => ?_) ?_
              · rw [hx10]
                first | done | rfl
              · rintro x9 hx10
                rw [hx10]
                conv => lhs; cbv
                rw [hF_s_impl_CompareNames x9.name x3.name]
                refine cO (fun hx12 => ?_) ?_
                · rw [hx12]
                  first | done | rfl
                · rintro r11 hx12
                  rw [hx12]
                  conv => lhs; cbv
                  refine cC (fun hb13 => ?_) (fun hb13 => ?_)
                  · rw [hb13]
                    conv => lhs; cbv
                    rw [hr1]
                    conv => lhs; cbv
                    first | done | rfl
                  · rw [hb13]
                    conv => lhs; cbv
                    first | done | rfl
            · rw [hb8]
              conv => lhs; cbv
              first | done | rfl
    · rw [hb2]
      conv => lhs; cbv
      first | done | rfl
  · rintro (w14 | w15)
    · conv => lhs; cbv
      first | done | rfl
    · rfl
def s_impl_ValidVector_1 (a0 : DTableEntry) : Option (Bool) := (s_impl_InRange a0.value 1 1000).bind fun r1 => some (prims.bnot r1)
def Has_s_impl_ValidVector_1 (F : Fns) : Prop := ∀ (a0 : DTableEntry), F 65 [.a [.sl 9 1 (List.map eS a0.name), .at (.int .i64 a0.value)]] = (s_impl_ValidVector_1 a0).bind fun r => some [.v (.at (.bool r))]
set_option maxHeartbeats 40000000 in
theorem e_s_impl_ValidVector_1 (F : Fns) (hF_s_impl_InRange : Has_s_impl_InRange F) (a0 : DTableEntry) : evBody prims (fun F lv => aloop F lv fuel) TY F ⟨Tryz.f65, Tryz.f65.body.getD .skip, fun _ => []⟩ [.a [.sl 9 1 (List.map eS a0.name), .at (.int .i64 a0.value)]] = (s_impl_ValidVector_1 a0).bind fun r => some [.v (.at (.bool r))] := by
  obtain ⟨p, hp⟩ : ∃ p : Prims, p = prims := ⟨_, rfl⟩
  obtain ⟨m_string, hm_string⟩ : ∃ m, m = List.map eS := ⟨_, rfl⟩
  rw [← hp]
  rw [← hm_string]
  obtain ⟨p_arith, p_cmp, p_wrap, p_scmp, p_scat, p_catOk, p_ssize, p_sat, p_ssub, p_bytes, p_str, p_bnot, p_beq, p_min, p_max, p_len, p_int, p_nth, p_sub, p_rsub, p_ridx, p_rnth, p_rset, p_rapp, p_rlen, p_addN, p_full, p_fits, p_frz, p_own, p_opn, p_lend, p_rmov, p_rout, p_both, p_yI, p_ofB, p_byW, p_mkN, p_rep, p_copy⟩ := p
  have h_bnot : p_bnot = prims.bnot := congrArg Prims.bnot hp
  clear hp
  unfold Has_s_impl_InRange at hF_s_impl_InRange
  generalize hal : (fun (F : St → (Ex → St → Option (List Arg)) → Option (List Arg)) lv => aloop F lv fuel) = al
  rw [s_impl_ValidVector_1, ← h_bnot]
  conv => lhs; cbv
  rw [hF_s_impl_InRange a0.value 1 1000]
  refine cO (fun hx2 => ?_) ?_
  · rw [hx2]
    first | done | rfl
  · rintro r1 hx2
    rw [hx2]
    conv => lhs; cbv
    first | done | rfl
def s_slices_IndexFunc_TableEntry__ValidVector_1_l1 (a0 : (List DTableEntry)) : Int → Option ((Int) ⊕ ((Int) ⊕ (Int)))
  | v1 => bif prims.cmp .lss v1 (prims.int (prims.len (List.map eTableEntry a0))) then ((nthI a0 v1).bind fun x3 => (s_impl_ValidVector_1 x3).bind fun r5 => bif r5 then (some (.inr (.inr (v1)))) else (some (.inl (prims.arith .add .i64 v1 1)))) else (some (.inr (.inl v1)))
def s_slices_IndexFunc_TableEntry__ValidVector_1 (a0 : (List DTableEntry)) : Option (Int) := (whileO (s_slices_IndexFunc_TableEntry__ValidVector_1_l1 a0) fuel 0).bind fun g => match g with | .inl w8 => (some (-1)) | .inr (w9) => (some w9)
def Has_s_slices_IndexFunc_TableEntry__ValidVector_1 (F : Fns) : Prop := ∀ (a0 : (List DTableEntry)), F 84 [.v (.sl 92 2 (List.map eTableEntry a0)), .v (.fn 65 [])] = (s_slices_IndexFunc_TableEntry__ValidVector_1 a0).bind fun r => some [.v (.at (.int .i64 r))]
set_option maxHeartbeats 40000000 in
theorem e_s_slices_IndexFunc_TableEntry__ValidVector_1 (F : Fns) (hF_s_impl_ValidVector_1 : Has_s_impl_ValidVector_1 F) (a0 : (List DTableEntry)) : evBody prims (fun F lv => aloop F lv fuel) TY F ⟨Tryz.f84, Tryz.f84.body.getD .skip, fun id => if id = 2 then [0, 1, 7, 8] else []⟩ [.v (.sl 92 2 (List.map eTableEntry a0)), .v (.fn 65 [])] = (s_slices_IndexFunc_TableEntry__ValidVector_1 a0).bind fun r => some [.v (.at (.int .i64 r))] := by
  obtain ⟨p, hp⟩ : ∃ p : Prims, p = prims := ⟨_, rfl⟩
  obtain ⟨m_TableEntry, hm_TableEntry⟩ : ∃ m, m = List.map eTableEntry := ⟨_, rfl⟩
  obtain ⟨m_string, hm_string⟩ : ∃ m, m = List.map eS := ⟨_, rfl⟩
  rw [← hp]
  rw [← hm_TableEntry]
  obtain ⟨p_arith, p_cmp, p_wrap, p_scmp, p_scat, p_catOk, p_ssize, p_sat, p_ssub, p_bytes, p_str, p_bnot, p_beq, p_min, p_max, p_len, p_int, p_nth, p_sub, p_rsub, p_ridx, p_rnth, p_rset, p_rapp, p_rlen, p_addN, p_full, p_fits, p_frz, p_own, p_opn, p_lend, p_rmov, p_rout, p_both, p_yI, p_ofB, p_byW, p_mkN, p_rep, p_copy⟩ := p
  have h_arith : p_arith = prims.arith := congrArg Prims.arith hp
  have h_cmp : p_cmp = prims.cmp := congrArg Prims.cmp hp
  have h_int : p_int = prims.int := congrArg Prims.int hp
  have h_len : p_len = prims.len := congrArg Prims.len hp
  have h_nth : p_nth = prims.nth := congrArg Prims.nth hp
  clear hp
  have nth_TableEntry := @nthF_TableEntry
  rw [← h_nth, ← hm_TableEntry, ← hm_string] at nth_TableEntry
  unfold Has_s_impl_ValidVector_1 at hF_s_impl_ValidVector_1
  rw [← hm_string] at hF_s_impl_ValidVector_1
  generalize hal : (fun (F : St → (Ex → St → Option (List Arg)) → Option (List Arg)) lv => aloop F lv fuel) = al
  rw [s_slices_IndexFunc_TableEntry__ValidVector_1]
  conv => lhs; cbv
  refine (loop_al hal (fun v1 => ⟨[.c (.rd true 92 2 (m_TableEntry a0)), .c (.fn 65 []), dd, dd, dd, dd, dd, .c (.at (.int .i64 (p_int (p_len (m_TableEntry a0))))), .c (.at (.int .i64 v1)), dd, dd, dd, dd, dd, dd, dd, dd, dd, dd], [], 1⟩) (s_slices_IndexFunc_TableEntry__ValidVector_1_l1 a0) (fun K g => match g with | .inl v1 => K (.exit 0) ⟨[.c (.rd true 92 2 (m_TableEntry a0)), .c (.fn 65 []), dd, dd, dd, dd, dd, .c (.at (.int .i64 (p_int (p_len (m_TableEntry a0))))), .c (.at (.int .i64 v1)), .c (.at (.bool false)), dd, dd, dd, dd, dd, dd, dd, dd, dd], [], 2⟩ | .inr (r) => some [.v (.at (.int .i64 r))]) ?_ 0 _ (rfl)).trans (cL ?_)
  · rintro K1 hr1 v1 R1
    rw [s_slices_IndexFunc_TableEntry__ValidVector_1_l1, ← h_arith, ← h_cmp, ← h_int, ← h_len, ← hm_TableEntry]
    conv => lhs; cbv
    refine cC (fun hb2 => ?_) (fun hb2 => ?_)
    · rw [hb2]
      conv => lhs; cbv
      rw [nth_TableEntry]
      refine cO (fun hx4 => ?_) ?_
      · rw [hx4]
        first | done | rfl
      · rintro x3 hx4
        rw [hx4]
        conv => lhs; cbv
        rw [hF_s_impl_ValidVector_1 x3]
        refine cO (fun hx6 => ?_) ?_
        · rw [hx6]
          first | done | rfl
        · rintro r5 hx6
          rw [hx6]
          conv => lhs; cbv
          refine cC (fun hb7 => ?_) (fun hb7 => ?_)
          · rw [hb7]
            conv => lhs; cbv
            rw [hr1]
            conv => lhs; cbv
            first | done | rfl
          · rw [hb7]
            conv => lhs; cbv
            first | done | rfl
    · rw [hb2]
      conv => lhs; cbv
      first | done | rfl
  · rintro (w8 | w9)
    · conv => lhs; cbv
      first | done | rfl
    · rfl
def s_slices_ContainsFunc_TableEntry__ValidVector_1 (a0 : (List DTableEntry)) : Option (Bool) := (s_slices_IndexFunc_TableEntry__ValidVector_1 a0).bind fun r1 => some (prims.cmp .geq r1 0)
def Has_s_slices_ContainsFunc_TableEntry__ValidVector_1 (F : Fns) : Prop := ∀ (a0 : (List DTableEntry)), F 64 [.v (.sl 92 2 (List.map eTableEntry a0)), .v (.fn 65 [])] = (s_slices_ContainsFunc_TableEntry__ValidVector_1 a0).bind fun r => some [.v (.at (.bool r))]
set_option maxHeartbeats 40000000 in
theorem e_s_slices_ContainsFunc_TableEntry__ValidVector_1 (F : Fns) (hF_s_slices_IndexFunc_TableEntry__ValidVector_1 : Has_s_slices_IndexFunc_TableEntry__ValidVector_1 F) (a0 : (List DTableEntry)) : evBody prims (fun F lv => aloop F lv fuel) TY F ⟨Tryz.f64, Tryz.f64.body.getD .skip, fun _ => []⟩ [.v (.sl 92 2 (List.map eTableEntry a0)), .v (.fn 65 [])] = (s_slices_ContainsFunc_TableEntry__ValidVector_1 a0).bind fun r => some [.v (.at (.bool r))] := by
  obtain ⟨p, hp⟩ : ∃ p : Prims, p = prims := ⟨_, rfl⟩
  obtain ⟨m_TableEntry, hm_TableEntry⟩ : ∃ m, m = List.map eTableEntry := ⟨_, rfl⟩
  rw [← hp]
  rw [← hm_TableEntry]
  obtain ⟨p_arith, p_cmp, p_wrap, p_scmp, p_scat, p_catOk, p_ssize, p_sat, p_ssub, p_bytes, p_str, p_bnot, p_beq, p_min, p_max, p_len, p_int, p_nth, p_sub, p_rsub, p_ridx, p_rnth, p_rset, p_rapp, p_rlen, p_addN, p_full, p_fits, p_frz, p_own, p_opn, p_lend, p_rmov, p_rout, p_both, p_yI, p_ofB, p_byW, p_mkN, p_rep, p_copy⟩ := p
  have h_cmp : p_cmp = prims.cmp := congrArg Prims.cmp hp
  clear hp
  unfold Has_s_slices_IndexFunc_TableEntry__ValidVector_1 at hF_s_slices_IndexFunc_TableEntry__ValidVector_1
  rw [← hm_TableEntry] at hF_s_slices_IndexFunc_TableEntry__ValidVector_1
  generalize hal : (fun (F : St → (Ex → St → Option (List Arg)) → Option (List Arg)) lv => aloop F lv fuel) = al
  rw [s_slices_ContainsFunc_TableEntry__ValidVector_1, ← h_cmp]
  conv => lhs; cbv
  rw [hF_s_slices_IndexFunc_TableEntry__ValidVector_1 a0]
  refine cO (fun hx2 => ?_) ?_
  · rw [hx2]
    first | done | rfl
  · rintro r1 hx2
    rw [hx2]
    conv => lhs; cbv
    first | done | rfl
end
end Go.Proofs.YtofieohogenojaaGreatDoor
