/- Plain functions that compute what the code computes. Printed by genshal.py. -/
import Derived.Test.YtofieohogenojaaDoorSt
namespace Go.Proofs.YtofieohogenojaaDoor
open Go.RowKit
set_option linter.unusedVariables false
set_option linter.unusedSimpArgs false
set_option maxRecDepth 100000
noncomputable section

def s_laws_szStringS_l1 (a0 : (List ByteArray)) : (Int × Int) → Option ((Int × Int) ⊕ ((Int × Int) ⊕ (Int)))
  | (v2, v3) => bif prims.cmp .lss v3 (prims.int (prims.len (List.map eS a0))) then ((nthI a0 v3).bind fun x5 => bif prims.cmp .lss (prims.arith .sub .i64 v2 (prims.ssize x5)) 0 then (some (.inr (.inr ((-1))))) else (some (.inl (prims.arith .sub .i64 v2 (prims.ssize x5), prims.arith .add .i64 v3 1)))) else (some (.inr (.inl (v2, v3))))
def s_laws_szStringS (a0 : (List ByteArray)) (a1 : Int) : Option (Int) := bif prims.cmp .lss (prims.arith .sub .i64 a1 (prims.int (prims.len (List.map eS a0)))) 0 then (some (-1)) else ((whileO (s_laws_szStringS_l1 a0) fuel (prims.arith .sub .i64 a1 (prims.int (prims.len (List.map eS a0))), 0)).bind fun g => match g with | .inl (w8, w9) => (some w8) | .inr (w10) => (some w10))
def Has_s_laws_szStringS (F : Fns) : Prop := ∀ (a0 : (List ByteArray)) (a1 : Int), F 91 [.v (.sl 9 1 (List.map eS a0)), .v (.at (.int .i64 a1))] = (s_laws_szStringS a0 a1).bind fun r => some [.v (.at (.int .i64 r))]
set_option maxHeartbeats 40000000 in
theorem e_s_laws_szStringS (F : Fns) (a0 : (List ByteArray)) (a1 : Int) : evBody prims (fun F lv => aloop F lv fuel) TY F ⟨Tryd.f91, Tryd.f91.body.getD .skip, fun id => if id = 5 then [0, 1, 5] else []⟩ [.v (.sl 9 1 (List.map eS a0)), .v (.at (.int .i64 a1))] = (s_laws_szStringS a0 a1).bind fun r => some [.v (.at (.int .i64 r))] := by
  obtain ⟨p, hp⟩ : ∃ p : Prims, p = prims := ⟨_, rfl⟩
  obtain ⟨m_string, hm_string⟩ : ∃ m, m = List.map eS := ⟨_, rfl⟩
  rw [← hp]
  rw [← hm_string]
  obtain ⟨p_arith, p_cmp, p_wrap, p_scmp, p_scat, p_catOk, p_ssize, p_sat, p_ssub, p_bytes, p_str, p_bnot, p_beq, p_min, p_max, p_len, p_int, p_nth, p_sub, p_rsub, p_ridx, p_rnth, p_rset, p_rapp, p_rlen, p_addN, p_full, p_fits, p_frz, p_own, p_opn, p_lend, p_rmov, p_rout, p_both, p_yI, p_ofB, p_byW, p_mkN, p_rep, p_copy⟩ := p
  have h_arith : p_arith = prims.arith := congrArg Prims.arith hp
  have h_cmp : p_cmp = prims.cmp := congrArg Prims.cmp hp
  have h_int : p_int = prims.int := congrArg Prims.int hp
  have h_len : p_len = prims.len := congrArg Prims.len hp
  have h_nth : p_nth = prims.nth := congrArg Prims.nth hp
  have h_ssize : p_ssize = prims.ssize := congrArg Prims.ssize hp
  clear hp
  have nth_string := @nthF_string
  rw [← h_nth, ← hm_string] at nth_string
  generalize hal : (fun (F : St → (Ex → St → Option (List Arg)) → Option (List Arg)) lv => aloop F lv fuel) = al
  rw [s_laws_szStringS, ← h_arith, ← h_cmp, ← h_int, ← h_len, ← hm_string]
  conv => lhs; cbv
  refine cC (fun hb1 => ?_) (fun hb1 => ?_)
  · rw [hb1]
    conv => lhs; cbv
    first | done | rfl
  · rw [hb1]
    conv => lhs; cbv
    refine (loop_al hal (fun x => match x with | (v2, v3) => ⟨[.c (.rd true 9 1 (m_string a0)), .c (.at (.int .i64 v2)), dd, dd, dd, .c (.at (.int .i64 v3)), dd, dd, dd, dd, dd, dd, dd, dd, dd, dd, dd, dd, dd, dd, dd, dd, dd, dd, dd, dd, dd, dd], [], 1⟩) (s_laws_szStringS_l1 a0) (fun K g => match g with | .inl (v2, v3) => K (.exit 0) ⟨[.c (.rd true 9 1 (m_string a0)), .c (.at (.int .i64 v2)), dd, dd, dd, .c (.at (.int .i64 v3)), dd, dd, dd, dd, dd, dd, .c (.at (.int .i64 v3)), .c (.rd true 9 1 (m_string a0)), .c (.at (.int .i64 (p_int (p_len (m_string a0))))), .c (.at (.bool false)), dd, dd, dd, dd, dd, dd, dd, dd, dd, dd, dd, dd], [], 2⟩ | .inr (r) => some [.v (.at (.int .i64 r))]) ?_ (p_arith .sub .i64 a1 (p_int (p_len (m_string a0))), 0) _ (rfl)).trans (cL ?_)
    · rintro K1 hr1 ⟨v2, v3⟩ R1
      rw [s_laws_szStringS_l1, ← h_arith, ← h_cmp, ← h_int, ← h_len, ← h_ssize, ← hm_string]
      conv => lhs; cbv
      refine cC (fun hb4 => ?_) (fun hb4 => ?_)
      · rw [hb4]
        conv => lhs; cbv
        rw [nth_string]
        refine cO (fun hx6 => ?_) ?_
        · rw [hx6]
          first | done | rfl
        · rintro x5 hx6
          rw [hx6]
          conv => lhs; cbv
          refine cC (fun hb7 => ?_) (fun hb7 => ?_)
          · rw [hb7]
            conv => lhs; cbv
            rw [hr1]
            conv => lhs; cbv
            first | done | rfl
          · rw [hb7]
            conv => lhs; cbv
            first | done | rfl
      · rw [hb4]
        conv => lhs; cbv
        first | done | rfl
    · rintro (⟨w8, w9⟩ | w10)
      · conv => lhs; cbv
        first | done | rfl
      · rfl
def s_laws_szName (a0 : (List ByteArray)) (a1 : Int) : Option (Int) := (s_laws_szStringS a0 a1).bind fun r1 => bif prims.cmp .lss r1 0 then (some (-1)) else (some r1)
def Has_s_laws_szName (F : Fns) : Prop := ∀ (a0 : (List ByteArray)) (a1 : Int), F 37 [.a [.sl 9 1 (List.map eS a0)], .v (.at (.int .i64 a1))] = (s_laws_szName a0 a1).bind fun r => some [.v (.at (.int .i64 r))]
set_option maxHeartbeats 40000000 in
theorem e_s_laws_szName (F : Fns) (hF_s_laws_szStringS : Has_s_laws_szStringS F) (a0 : (List ByteArray)) (a1 : Int) : evBody prims (fun F lv => aloop F lv fuel) TY F ⟨Tryd.f37, Tryd.f37.body.getD .skip, fun _ => []⟩ [.a [.sl 9 1 (List.map eS a0)], .v (.at (.int .i64 a1))] = (s_laws_szName a0 a1).bind fun r => some [.v (.at (.int .i64 r))] := by
  obtain ⟨p, hp⟩ : ∃ p : Prims, p = prims := ⟨_, rfl⟩
  obtain ⟨m_string, hm_string⟩ : ∃ m, m = List.map eS := ⟨_, rfl⟩
  rw [← hp]
  rw [← hm_string]
  obtain ⟨p_arith, p_cmp, p_wrap, p_scmp, p_scat, p_catOk, p_ssize, p_sat, p_ssub, p_bytes, p_str, p_bnot, p_beq, p_min, p_max, p_len, p_int, p_nth, p_sub, p_rsub, p_ridx, p_rnth, p_rset, p_rapp, p_rlen, p_addN, p_full, p_fits, p_frz, p_own, p_opn, p_lend, p_rmov, p_rout, p_both, p_yI, p_ofB, p_byW, p_mkN, p_rep, p_copy⟩ := p
  have h_cmp : p_cmp = prims.cmp := congrArg Prims.cmp hp
  clear hp
  unfold Has_s_laws_szStringS at hF_s_laws_szStringS
  rw [← hm_string] at hF_s_laws_szStringS
  generalize hal : (fun (F : St → (Ex → St → Option (List Arg)) → Option (List Arg)) lv => aloop F lv fuel) = al
  rw [s_laws_szName, ← h_cmp]
  conv => lhs; cbv
  rw [hF_s_laws_szStringS a0 a1]
  refine cO (fun hx2 => ?_) ?_
  · rw [hx2]
    first | done | rfl
  · rintro r1 hx2
    rw [hx2]
    conv => lhs; cbv
    refine cC (fun hb3 => ?_) (fun hb3 => ?_)
    · rw [hb3]
      conv => lhs; cbv
      first | done | rfl
    · rw [hb3]
      conv => lhs; cbv
      first | done | rfl
def s_laws_szByteS (a0 : (List UInt8)) (a1 : Int) : Option (Int) := bif prims.cmp .lss (prims.arith .sub .i64 a1 (prims.int (prims.len (List.map eY a0)))) 0 then (some (-1)) else (some (prims.arith .sub .i64 a1 (prims.int (prims.len (List.map eY a0)))))
def Has_s_laws_szByteS (F : Fns) : Prop := ∀ (a0 : (List UInt8)) (a1 : Int), F 38 [.v (.sl 5 1 (List.map eY a0)), .v (.at (.int .i64 a1))] = (s_laws_szByteS a0 a1).bind fun r => some [.v (.at (.int .i64 r))]
set_option maxHeartbeats 40000000 in
theorem e_s_laws_szByteS (F : Fns) (a0 : (List UInt8)) (a1 : Int) : evBody prims (fun F lv => aloop F lv fuel) TY F ⟨Tryd.f38, Tryd.f38.body.getD .skip, fun _ => []⟩ [.v (.sl 5 1 (List.map eY a0)), .v (.at (.int .i64 a1))] = (s_laws_szByteS a0 a1).bind fun r => some [.v (.at (.int .i64 r))] := by
  obtain ⟨p, hp⟩ : ∃ p : Prims, p = prims := ⟨_, rfl⟩
  obtain ⟨m_byte, hm_byte⟩ : ∃ m, m = List.map eY := ⟨_, rfl⟩
  rw [← hp]
  rw [← hm_byte]
  obtain ⟨p_arith, p_cmp, p_wrap, p_scmp, p_scat, p_catOk, p_ssize, p_sat, p_ssub, p_bytes, p_str, p_bnot, p_beq, p_min, p_max, p_len, p_int, p_nth, p_sub, p_rsub, p_ridx, p_rnth, p_rset, p_rapp, p_rlen, p_addN, p_full, p_fits, p_frz, p_own, p_opn, p_lend, p_rmov, p_rout, p_both, p_yI, p_ofB, p_byW, p_mkN, p_rep, p_copy⟩ := p
  have h_arith : p_arith = prims.arith := congrArg Prims.arith hp
  have h_cmp : p_cmp = prims.cmp := congrArg Prims.cmp hp
  have h_int : p_int = prims.int := congrArg Prims.int hp
  have h_len : p_len = prims.len := congrArg Prims.len hp
  clear hp
  generalize hal : (fun (F : St → (Ex → St → Option (List Arg)) → Option (List Arg)) lv => aloop F lv fuel) = al
  rw [s_laws_szByteS, ← h_arith, ← h_cmp, ← h_int, ← h_len, ← hm_byte]
  conv => lhs; cbv
  refine cC (fun hb1 => ?_) (fun hb1 => ?_)
  · rw [hb1]
    conv => lhs; cbv
    first | done | rfl
  · rw [hb1]
    conv => lhs; cbv
    first | done | rfl
def s_laws_szData (a0 : DData) (a1 : Int) : Option (Int) := (s_laws_szName a0.name a1).bind fun r1 => bif prims.cmp .lss r1 0 then (some (-1)) else ((s_laws_szByteS a0.content r1).bind fun r4 => bif prims.cmp .lss r4 0 then (some (-1)) else ((s_laws_szName a0.keyName r4).bind fun r7 => bif prims.cmp .lss r7 0 then (some (-1)) else (some r7)))
def Has_s_laws_szData (F : Fns) : Prop := ∀ (a0 : DData) (a1 : Int), F 8 [.a [.sl 9 1 (List.map eS a0.name), .sl 5 1 (List.map eY a0.content), .sl 9 1 (List.map eS a0.keyName), .at (.int .i64 a0.freshUntil), .at (.int .i64 a0.signature)], .v (.at (.int .i64 a1))] = (s_laws_szData a0 a1).bind fun r => some [.v (.at (.int .i64 r))]
set_option maxHeartbeats 40000000 in
theorem e_s_laws_szData (F : Fns) (hF_s_laws_szName : Has_s_laws_szName F) (hF_s_laws_szByteS : Has_s_laws_szByteS F) (a0 : DData) (a1 : Int) : evBody prims (fun F lv => aloop F lv fuel) TY F ⟨Tryd.f8, Tryd.f8.body.getD .skip, fun _ => []⟩ [.a [.sl 9 1 (List.map eS a0.name), .sl 5 1 (List.map eY a0.content), .sl 9 1 (List.map eS a0.keyName), .at (.int .i64 a0.freshUntil), .at (.int .i64 a0.signature)], .v (.at (.int .i64 a1))] = (s_laws_szData a0 a1).bind fun r => some [.v (.at (.int .i64 r))] := by
  obtain ⟨p, hp⟩ : ∃ p : Prims, p = prims := ⟨_, rfl⟩
  obtain ⟨m_byte, hm_byte⟩ : ∃ m, m = List.map eY := ⟨_, rfl⟩
  obtain ⟨m_string, hm_string⟩ : ∃ m, m = List.map eS := ⟨_, rfl⟩
  rw [← hp]
  rw [← hm_byte, ← hm_string]
  obtain ⟨p_arith, p_cmp, p_wrap, p_scmp, p_scat, p_catOk, p_ssize, p_sat, p_ssub, p_bytes, p_str, p_bnot, p_beq, p_min, p_max, p_len, p_int, p_nth, p_sub, p_rsub, p_ridx, p_rnth, p_rset, p_rapp, p_rlen, p_addN, p_full, p_fits, p_frz, p_own, p_opn, p_lend, p_rmov, p_rout, p_both, p_yI, p_ofB, p_byW, p_mkN, p_rep, p_copy⟩ := p
  have h_cmp : p_cmp = prims.cmp := congrArg Prims.cmp hp
  clear hp
  unfold Has_s_laws_szName at hF_s_laws_szName
  rw [← hm_string] at hF_s_laws_szName
  unfold Has_s_laws_szByteS at hF_s_laws_szByteS
  rw [← hm_byte] at hF_s_laws_szByteS
  generalize hal : (fun (F : St → (Ex → St → Option (List Arg)) → Option (List Arg)) lv => aloop F lv fuel) = al
  rw [s_laws_szData, ← h_cmp]
  conv => lhs; cbv
  rw [hF_s_laws_szName a0.name a1]
  refine cO (fun hx2 => ?_) ?_
  · rw [hx2]
    first | done | rfl
  · rintro r1 hx2
    rw [hx2]
    conv => lhs; cbv
    refine cC (fun hb3 => ?_) (fun hb3 => ?_)
    · rw [hb3]
      conv => lhs; cbv
      first | done | rfl
    · rw [hb3]
      conv => lhs; cbv
      rw [hF_s_laws_szByteS a0.content r1]
      refine cO (fun hx5 => ?_) ?_
      · rw [hx5]
        first | done | rfl
      · rintro r4 hx5
        rw [hx5]
        conv => lhs; cbv
        refine cC (fun hb6 => ?_) (fun hb6 => ?_)
        · rw [hb6]
          conv => lhs; cbv
          first | done | rfl
        · rw [hb6]
          conv => lhs; cbv
          rw [hF_s_laws_szName a0.keyName r4]
          refine cO (fun hx8 => ?_) ?_
          · rw [hx8]
            first | done | rfl
          · rintro r7 hx8
            rw [hx8]
            conv => lhs; cbv
            refine cC (fun hb9 => ?_) (fun hb9 => ?_)
            · rw [hb9]
              conv => lhs; cbv
              first | done | rfl
            · rw [hb9]
              conv => lhs; cbv
              first | done | rfl
def s_laws_toStringS_l1 (a0 : (List ByteArray)) : (Int × (List ByteArray)) → Option ((Int × (List ByteArray)) ⊕ ((Int × (List ByteArray))))
  | (v3, v4) => bif prims.cmp .lss v3 (prims.int (prims.len (List.map eS a0))) then ((nthI a0 v3).bind fun x6 => (prims.ridx 0 (prims.len (List.map eS v4)) v3).bind fun x8 => (v4[x8]?).bind fun x10 => some (.inl (prims.arith .add .i64 v3 1, v4.set x8 x6))) else (some (.inr (v3, v4)))
def s_laws_toStringS (a0 : (List ByteArray)) : Option ((List ByteArray)) := (mkSl ((ByteArray.mk (Array.mk [])) : ByteArray) (prims.int (prims.len (List.map eS a0))) (prims.int (prims.len (List.map eS a0))) 16).bind fun x1 => (whileO (s_laws_toStringS_l1 a0) fuel (0, x1)).bind fun ⟨w12, w13⟩ => some w13
def Has_s_laws_toStringS (F : Fns) : Prop := ∀ (a0 : (List ByteArray)), F 92 [.v (.sl 9 1 (List.map eS a0))] = (s_laws_toStringS a0).bind fun r => some [.v (.sl 9 1 (List.map eS r))]
set_option maxHeartbeats 40000000 in
theorem e_s_laws_toStringS (F : Fns) (a0 : (List ByteArray)) : evBody prims (fun F lv => aloop F lv fuel) TY F ⟨Tryd.f92, Tryd.f92.body.getD .skip, fun id => if id = 3 then [0, 3, 4] else []⟩ [.v (.sl 9 1 (List.map eS a0))] = (s_laws_toStringS a0).bind fun r => some [.v (.sl 9 1 (List.map eS r))] := by
  obtain ⟨p, hp⟩ : ∃ p : Prims, p = prims := ⟨_, rfl⟩
  obtain ⟨m_string, hm_string⟩ : ∃ m, m = List.map eS := ⟨_, rfl⟩
  rw [← hp]
  rw [← hm_string]
  obtain ⟨p_arith, p_cmp, p_wrap, p_scmp, p_scat, p_catOk, p_ssize, p_sat, p_ssub, p_bytes, p_str, p_bnot, p_beq, p_min, p_max, p_len, p_int, p_nth, p_sub, p_rsub, p_ridx, p_rnth, p_rset, p_rapp, p_rlen, p_addN, p_full, p_fits, p_frz, p_own, p_opn, p_lend, p_rmov, p_rout, p_both, p_yI, p_ofB, p_byW, p_mkN, p_rep, p_copy⟩ := p
  have h_arith : p_arith = prims.arith := congrArg Prims.arith hp
  have h_cmp : p_cmp = prims.cmp := congrArg Prims.cmp hp
  have h_full : p_full = prims.full := congrArg Prims.full hp
  have h_int : p_int = prims.int := congrArg Prims.int hp
  have h_len : p_len = prims.len := congrArg Prims.len hp
  have h_mkN : p_mkN = prims.mkN := congrArg Prims.mkN hp
  have h_nth : p_nth = prims.nth := congrArg Prims.nth hp
  have h_opn : p_opn = prims.opn := congrArg Prims.opn hp
  have h_own : p_own = prims.own := congrArg Prims.own hp
  have h_rep : p_rep = prims.rep := congrArg Prims.rep hp
  have h_ridx : p_ridx = prims.ridx := congrArg Prims.ridx hp
  have h_rnth : p_rnth = prims.rnth := congrArg Prims.rnth hp
  have h_rset : p_rset = prims.rset := congrArg Prims.rset hp
  clear hp
  have full_string := @fullF_string
  rw [← h_full, ← h_len, ← h_opn, ← hm_string] at full_string
  have lset_string := @lsetF_string
  rw [← h_len, ← hm_string] at lset_string
  have mkn_string := @mknF_string
  rw [← h_len, ← h_mkN, ← hm_string] at mkn_string
  have nth_string := @nthF_string
  rw [← h_nth, ← hm_string] at nth_string
  have own_string := @ownF_string
  rw [← h_opn, ← h_own, ← hm_string] at own_string
  have rep_string := @repF_string
  rw [← h_len, ← h_opn, ← h_rep, ← hm_string] at rep_string
  have rnth_string := @rnthF_string
  rw [← h_opn, ← h_rnth, ← hm_string] at rnth_string
  have rset_string := @rsetF_string
  rw [← h_opn, ← h_rset, ← hm_string] at rset_string
  generalize hal : (fun (F : St → (Ex → St → Option (List Arg)) → Option (List Arg)) lv => aloop F lv fuel) = al
  rw [s_laws_toStringS, ← h_int, ← h_len, ← hm_string]
  conv => lhs; cbv
  rw [mkn_string]
  refine cO (fun hx2 => ?_) ?_
  · rw [hx2]
    first | done | rfl
  · rintro x1 hx2
    rw [hx2]
    conv => lhs; cbv
    rw [rep_string _ _ _ hx2]
    conv => lhs; cbv
    refine (loop_al hal (fun x => match x with | (v3, v4) => ⟨[.c (.rd true 9 1 (m_string a0)), dd, dd, .c (.row (0, 0, 0) 9 1 0 (p_len (m_string v4))), .c (.at (.int .i64 v3)), dd, dd, dd, dd, dd, dd, dd, dd, dd, dd, dd, dd, dd, dd, dd, dd, dd], [((0, 0, 0), ⟨true, false, 9, 1, p_opn (m_string v4)⟩)], 1⟩) (s_laws_toStringS_l1 a0) (fun K g => match g with | (v3, v4) => K (.exit 0) ⟨[.c (.rd true 9 1 (m_string a0)), dd, dd, .c (.row (0, 0, 0) 9 1 0 (p_len (m_string v4))), .c (.at (.int .i64 v3)), dd, dd, dd, .c (.at (.int .i64 v3)), .c (.rd true 9 1 (m_string a0)), .c (.at (.int .i64 (p_int (p_len (m_string a0))))), .c (.at (.bool false)), dd, dd, dd, dd, dd, dd, dd, dd, dd, dd], [((0, 0, 0), ⟨true, false, 9, 1, p_opn (m_string v4)⟩)], 2⟩) ?_ (0, x1) _ (rfl)).trans (cL ?_)
    · rintro K1 hr1 ⟨v3, v4⟩ R1
      rw [s_laws_toStringS_l1, ← h_arith, ← h_cmp, ← h_int, ← h_len, ← h_ridx, ← hm_string]
      conv => lhs; cbv
      refine cC (fun hb5 => ?_) (fun hb5 => ?_)
      · rw [hb5]
        conv => lhs; cbv
        rw [nth_string]
        refine cO (fun hx7 => ?_) ?_
        · rw [hx7]
          first | done | rfl
        · rintro x6 hx7
          rw [hx7]
          conv => lhs; cbv
          refine cO (fun hx9 => ?_) ?_
          · rw [hx9]
            first | done | rfl
          · rintro x8 hx9
            rw [hx9]
            conv => lhs; cbv
            rw [rnth_string]
            refine cO (fun hx11 => ?_) ?_
            · rw [hx11]
              first | done | rfl
            · rintro x10 hx11
              rw [hx11]
              conv => lhs; cbv
              rw [rset_string]
              try conv => lhs; rw [← lset_string v4 x8 x6]
              conv => lhs; cbv
              first | done | rfl
      · rw [hb5]
        conv => lhs; cbv
        first | done | rfl
    · rintro ⟨w12, w13⟩
      conv => lhs; cbv
      rw [if_pos (full_string _)]
      conv => lhs; cbv
      rw [own_string]
      conv => lhs; cbv
      first | done | rfl
def s_laws_toName (a0 : (List ByteArray)) : Option ((List ByteArray)) := (s_laws_toStringS a0).bind fun r1 => some r1
def Has_s_laws_toName (F : Fns) : Prop := ∀ (a0 : (List ByteArray)), F 41 [.a [.sl 9 1 (List.map eS a0)]] = (s_laws_toName a0).bind fun r => some [.a [.sl 9 1 (List.map eS r)]]
set_option maxHeartbeats 40000000 in
theorem e_s_laws_toName (F : Fns) (hF_s_laws_toStringS : Has_s_laws_toStringS F) (a0 : (List ByteArray)) : evBody prims (fun F lv => aloop F lv fuel) TY F ⟨Tryd.f41, Tryd.f41.body.getD .skip, fun _ => []⟩ [.a [.sl 9 1 (List.map eS a0)]] = (s_laws_toName a0).bind fun r => some [.a [.sl 9 1 (List.map eS r)]] := by
  obtain ⟨p, hp⟩ : ∃ p : Prims, p = prims := ⟨_, rfl⟩
  obtain ⟨m_string, hm_string⟩ : ∃ m, m = List.map eS := ⟨_, rfl⟩
  rw [← hp]
  rw [← hm_string]
  obtain ⟨p_arith, p_cmp, p_wrap, p_scmp, p_scat, p_catOk, p_ssize, p_sat, p_ssub, p_bytes, p_str, p_bnot, p_beq, p_min, p_max, p_len, p_int, p_nth, p_sub, p_rsub, p_ridx, p_rnth, p_rset, p_rapp, p_rlen, p_addN, p_full, p_fits, p_frz, p_own, p_opn, p_lend, p_rmov, p_rout, p_both, p_yI, p_ofB, p_byW, p_mkN, p_rep, p_copy⟩ := p
  have h_full : p_full = prims.full := congrArg Prims.full hp
  have h_len : p_len = prims.len := congrArg Prims.len hp
  have h_opn : p_opn = prims.opn := congrArg Prims.opn hp
  have h_own : p_own = prims.own := congrArg Prims.own hp
  clear hp
  have full_string := @fullF_string
  rw [← h_full, ← h_len, ← h_opn, ← hm_string] at full_string
  have own_string := @ownF_string
  rw [← h_opn, ← h_own, ← hm_string] at own_string
  unfold Has_s_laws_toStringS at hF_s_laws_toStringS
  rw [← hm_string] at hF_s_laws_toStringS
  generalize hal : (fun (F : St → (Ex → St → Option (List Arg)) → Option (List Arg)) lv => aloop F lv fuel) = al
  rw [s_laws_toName]
  conv => lhs; cbv
  rw [hF_s_laws_toStringS a0]
  refine cO (fun hx2 => ?_) ?_
  · rw [hx2]
    first | done | rfl
  · rintro r1 hx2
    rw [hx2]
    conv => lhs; cbv
    rw [if_pos (full_string _)]
    conv => lhs; cbv
    rw [own_string]
    conv => lhs; cbv
    first | done | rfl
def s_laws_toByteS_l1 (a0 : (List UInt8)) : (Int × (List UInt8)) → Option ((Int × (List UInt8)) ⊕ ((Int × (List UInt8))))
  | (v3, v4) => bif prims.cmp .lss v3 (prims.int (prims.len (List.map eY a0))) then ((nthI a0 v3).bind fun x6 => (prims.ridx 0 (prims.len (List.map eY v4)) v3).bind fun x8 => (v4[x8]?).bind fun x10 => some (.inl (prims.arith .add .i64 v3 1, v4.set x8 x6))) else (some (.inr (v3, v4)))
def s_laws_toByteS (a0 : (List UInt8)) : Option ((List UInt8)) := (mkSl (0 : UInt8) (prims.int (prims.len (List.map eY a0))) (prims.int (prims.len (List.map eY a0))) 1).bind fun x1 => (whileO (s_laws_toByteS_l1 a0) fuel (0, x1)).bind fun ⟨w12, w13⟩ => some w13
def Has_s_laws_toByteS (F : Fns) : Prop := ∀ (a0 : (List UInt8)), F 42 [.v (.sl 5 1 (List.map eY a0))] = (s_laws_toByteS a0).bind fun r => some [.v (.sl 5 1 (List.map eY r))]
set_option maxHeartbeats 40000000 in
theorem e_s_laws_toByteS (F : Fns) (a0 : (List UInt8)) : evBody prims (fun F lv => aloop F lv fuel) TY F ⟨Tryd.f42, Tryd.f42.body.getD .skip, fun id => if id = 3 then [0, 3, 4] else []⟩ [.v (.sl 5 1 (List.map eY a0))] = (s_laws_toByteS a0).bind fun r => some [.v (.sl 5 1 (List.map eY r))] := by
  obtain ⟨p, hp⟩ : ∃ p : Prims, p = prims := ⟨_, rfl⟩
  obtain ⟨m_byte, hm_byte⟩ : ∃ m, m = List.map eY := ⟨_, rfl⟩
  rw [← hp]
  rw [← hm_byte]
  obtain ⟨p_arith, p_cmp, p_wrap, p_scmp, p_scat, p_catOk, p_ssize, p_sat, p_ssub, p_bytes, p_str, p_bnot, p_beq, p_min, p_max, p_len, p_int, p_nth, p_sub, p_rsub, p_ridx, p_rnth, p_rset, p_rapp, p_rlen, p_addN, p_full, p_fits, p_frz, p_own, p_opn, p_lend, p_rmov, p_rout, p_both, p_yI, p_ofB, p_byW, p_mkN, p_rep, p_copy⟩ := p
  have h_arith : p_arith = prims.arith := congrArg Prims.arith hp
  have h_cmp : p_cmp = prims.cmp := congrArg Prims.cmp hp
  have h_full : p_full = prims.full := congrArg Prims.full hp
  have h_int : p_int = prims.int := congrArg Prims.int hp
  have h_len : p_len = prims.len := congrArg Prims.len hp
  have h_mkN : p_mkN = prims.mkN := congrArg Prims.mkN hp
  have h_nth : p_nth = prims.nth := congrArg Prims.nth hp
  have h_opn : p_opn = prims.opn := congrArg Prims.opn hp
  have h_own : p_own = prims.own := congrArg Prims.own hp
  have h_rep : p_rep = prims.rep := congrArg Prims.rep hp
  have h_ridx : p_ridx = prims.ridx := congrArg Prims.ridx hp
  have h_rnth : p_rnth = prims.rnth := congrArg Prims.rnth hp
  have h_rset : p_rset = prims.rset := congrArg Prims.rset hp
  have h_yI : p_yI = prims.yI := congrArg Prims.yI hp
  clear hp
  have full_byte := @fullF_byte
  rw [← h_full, ← h_len, ← h_opn, ← hm_byte] at full_byte
  have lset_byte := @lsetF_byte
  rw [← h_len, ← hm_byte] at lset_byte
  have mkn_byte := @mknF_byte
  rw [← h_len, ← h_mkN, ← hm_byte] at mkn_byte
  have nth_byte := @nthF_byte
  rw [← h_nth, ← h_yI, ← hm_byte] at nth_byte
  have own_byte := @ownF_byte
  rw [← h_opn, ← h_own, ← hm_byte] at own_byte
  have rep_byte := @repF_byte
  rw [← h_len, ← h_opn, ← h_rep, ← hm_byte] at rep_byte
  have rnth_byte := @rnthF_byte
  rw [← h_opn, ← h_rnth, ← h_yI, ← hm_byte] at rnth_byte
  have rset_byte := @rsetF_byte
  rw [← h_opn, ← h_rset, ← h_yI, ← hm_byte] at rset_byte
  generalize hal : (fun (F : St → (Ex → St → Option (List Arg)) → Option (List Arg)) lv => aloop F lv fuel) = al
  rw [s_laws_toByteS, ← h_int, ← h_len, ← hm_byte]
  conv => lhs; cbv
  rw [mkn_byte]
  refine cO (fun hx2 => ?_) ?_
  · rw [hx2]
    first | done | rfl
  · rintro x1 hx2
    rw [hx2]
    conv => lhs; cbv
    rw [rep_byte _ _ _ hx2]
    conv => lhs; cbv
    refine (loop_al hal (fun x => match x with | (v3, v4) => ⟨[.c (.rd true 5 1 (m_byte a0)), dd, dd, .c (.row (0, 0, 0) 5 1 0 (p_len (m_byte v4))), .c (.at (.int .i64 v3)), dd, dd, dd, dd, dd, dd, dd, dd, dd, dd, dd, dd, dd, dd, dd, dd, dd], [((0, 0, 0), ⟨true, false, 5, 1, p_opn (m_byte v4)⟩)], 1⟩) (s_laws_toByteS_l1 a0) (fun K g => match g with | (v3, v4) => K (.exit 0) ⟨[.c (.rd true 5 1 (m_byte a0)), dd, dd, .c (.row (0, 0, 0) 5 1 0 (p_len (m_byte v4))), .c (.at (.int .i64 v3)), dd, dd, dd, .c (.at (.int .i64 v3)), .c (.rd true 5 1 (m_byte a0)), .c (.at (.int .i64 (p_int (p_len (m_byte a0))))), .c (.at (.bool false)), dd, dd, dd, dd, dd, dd, dd, dd, dd, dd], [((0, 0, 0), ⟨true, false, 5, 1, p_opn (m_byte v4)⟩)], 2⟩) ?_ (0, x1) _ (rfl)).trans (cL ?_)
    · rintro K1 hr1 ⟨v3, v4⟩ R1
      rw [s_laws_toByteS_l1, ← h_arith, ← h_cmp, ← h_int, ← h_len, ← h_ridx, ← hm_byte]
      conv => lhs; cbv
      refine cC (fun hb5 => ?_) (fun hb5 => ?_)
      · rw [hb5]
        conv => lhs; cbv
        rw [nth_byte]
        refine cO (fun hx7 => ?_) ?_
        · rw [hx7]
          first | done | rfl
        · rintro x6 hx7
          rw [hx7]
          conv => lhs; cbv
          refine cO (fun hx9 => ?_) ?_
          · rw [hx9]
            first | done | rfl
          · rintro x8 hx9
            rw [hx9]
            conv => lhs; cbv
            rw [rnth_byte]
            refine cO (fun hx11 => ?_) ?_
            · rw [hx11]
              first | done | rfl
            · rintro x10 hx11
              rw [hx11]
              conv => lhs; cbv
              rw [rset_byte]
              try conv => lhs; rw [← lset_byte v4 x8 x6]
              conv => lhs; cbv
              first | done | rfl
      · rw [hb5]
        conv => lhs; cbv
        first | done | rfl
    · rintro ⟨w12, w13⟩
      conv => lhs; cbv
      rw [if_pos (full_byte _)]
      conv => lhs; cbv
      rw [own_byte]
      conv => lhs; cbv
      first | done | rfl
def s_laws_toData (a0 : DData) : Option (DData) := (s_laws_toName a0.name).bind fun r1 => (s_laws_toByteS a0.content).bind fun r3 => (s_laws_toName a0.keyName).bind fun r5 => some (⟨r1, r3, r5, a0.freshUntil, a0.signature⟩ : DData)
def Has_s_laws_toData (F : Fns) : Prop := ∀ (a0 : DData), F 10 [.a [.sl 9 1 (List.map eS a0.name), .sl 5 1 (List.map eY a0.content), .sl 9 1 (List.map eS a0.keyName), .at (.int .i64 a0.freshUntil), .at (.int .i64 a0.signature)]] = (s_laws_toData a0).bind fun r => some [.a [.sl 9 1 (List.map eS r.name), .sl 5 1 (List.map eY r.content), .sl 9 1 (List.map eS r.keyName), .at (.int .i64 r.freshUntil), .at (.int .i64 r.signature)]]
set_option maxHeartbeats 40000000 in
theorem e_s_laws_toData (F : Fns) (hF_s_laws_toName : Has_s_laws_toName F) (hF_s_laws_toByteS : Has_s_laws_toByteS F) (a0 : DData) : evBody prims (fun F lv => aloop F lv fuel) TY F ⟨Tryd.f10, Tryd.f10.body.getD .skip, fun _ => []⟩ [.a [.sl 9 1 (List.map eS a0.name), .sl 5 1 (List.map eY a0.content), .sl 9 1 (List.map eS a0.keyName), .at (.int .i64 a0.freshUntil), .at (.int .i64 a0.signature)]] = (s_laws_toData a0).bind fun r => some [.a [.sl 9 1 (List.map eS r.name), .sl 5 1 (List.map eY r.content), .sl 9 1 (List.map eS r.keyName), .at (.int .i64 r.freshUntil), .at (.int .i64 r.signature)]] := by
  obtain ⟨p, hp⟩ : ∃ p : Prims, p = prims := ⟨_, rfl⟩
  obtain ⟨m_byte, hm_byte⟩ : ∃ m, m = List.map eY := ⟨_, rfl⟩
  obtain ⟨m_string, hm_string⟩ : ∃ m, m = List.map eS := ⟨_, rfl⟩
  rw [← hp]
  rw [← hm_byte, ← hm_string]
  obtain ⟨p_arith, p_cmp, p_wrap, p_scmp, p_scat, p_catOk, p_ssize, p_sat, p_ssub, p_bytes, p_str, p_bnot, p_beq, p_min, p_max, p_len, p_int, p_nth, p_sub, p_rsub, p_ridx, p_rnth, p_rset, p_rapp, p_rlen, p_addN, p_full, p_fits, p_frz, p_own, p_opn, p_lend, p_rmov, p_rout, p_both, p_yI, p_ofB, p_byW, p_mkN, p_rep, p_copy⟩ := p
  have h_full : p_full = prims.full := congrArg Prims.full hp
  have h_len : p_len = prims.len := congrArg Prims.len hp
  have h_opn : p_opn = prims.opn := congrArg Prims.opn hp
  have h_own : p_own = prims.own := congrArg Prims.own hp
  clear hp
  have full_byte := @fullF_byte
  rw [← h_full, ← h_len, ← h_opn, ← hm_byte] at full_byte
  have full_string := @fullF_string
  rw [← h_full, ← h_len, ← h_opn, ← hm_string] at full_string
  have own_byte := @ownF_byte
  rw [← h_opn, ← h_own, ← hm_byte] at own_byte
  have own_string := @ownF_string
  rw [← h_opn, ← h_own, ← hm_string] at own_string
  unfold Has_s_laws_toName at hF_s_laws_toName
  rw [← hm_string] at hF_s_laws_toName
  unfold Has_s_laws_toByteS at hF_s_laws_toByteS
  rw [← hm_byte] at hF_s_laws_toByteS
  generalize hal : (fun (F : St → (Ex → St → Option (List Arg)) → Option (List Arg)) lv => aloop F lv fuel) = al
  rw [s_laws_toData]
  conv => lhs; cbv
  rw [hF_s_laws_toName a0.name]
  refine cO (fun hx2 => ?_) ?_
  · rw [hx2]
    first | done | rfl
  · rintro r1 hx2
    rw [hx2]
    conv => lhs; cbv
    rw [hF_s_laws_toByteS a0.content]
    refine cO (fun hx4 => ?_) ?_
    · rw [hx4]
      first | done | rfl
    · rintro r3 hx4
      rw [hx4]
      conv => lhs; cbv
      rw [hF_s_laws_toName a0.keyName]
      refine cO (fun hx6 => ?_) ?_
      · rw [hx6]
        first | done | rfl
      · rintro r5 hx6
        rw [hx6]
        conv => lhs; cbv
        rw [if_pos (full_string _)]
        conv => lhs; cbv
        rw [own_string]
        conv => lhs; cbv
        rw [if_pos (full_byte _)]
        conv => lhs; cbv
        rw [own_byte]
        conv => lhs; cbv
        rw [if_pos (full_string _)]
        conv => lhs; cbv
        rw [own_string]
        conv => lhs; cbv
        first | done | rfl
def s_spec_FormatName_l1 (a0 : (List ByteArray)) : (ByteArray × Int) → Option ((ByteArray × Int) ⊕ ((ByteArray × Int)))
  | (v1, v2) => bif prims.cmp .lss v2 (prims.int (prims.len (List.map eS a0))) then (bif prims.catOk v1 (ByteArray.mk (Array.mk [47])) then ((nthI a0 v2).bind fun x5 => bif prims.catOk (prims.scat v1 (ByteArray.mk (Array.mk [47]))) x5 then (some (.inl (prims.scat (prims.scat v1 (ByteArray.mk (Array.mk [47]))) x5, prims.arith .add .i64 v2 1))) else none) else none) else (some (.inr (v1, v2)))
def s_spec_FormatName (a0 : (List ByteArray)) : Option (ByteArray) := (whileO (s_spec_FormatName_l1 a0) fuel ((ByteArray.mk (Array.mk [])), 0)).bind fun ⟨w8, w9⟩ => bif prims.cmp .eql (prims.int (prims.len (List.map eS a0))) 0 then (some (ByteArray.mk (Array.mk [47]))) else (some w8)
def Has_s_spec_FormatName (F : Fns) : Prop := ∀ (a0 : (List ByteArray)), F 39 [.a [.sl 9 1 (List.map eS a0)]] = (s_spec_FormatName a0).bind fun r => some [.v (.at (.string r))]
set_option maxHeartbeats 40000000 in
theorem e_s_spec_FormatName (F : Fns) (a0 : (List ByteArray)) : evBody prims (fun F lv => aloop F lv fuel) TY F ⟨Tryd.f39, Tryd.f39.body.getD .skip, fun id => if id = 3 then [1, 3, 4] else []⟩ [.a [.sl 9 1 (List.map eS a0)]] = (s_spec_FormatName a0).bind fun r => some [.v (.at (.string r))] := by
  obtain ⟨p, hp⟩ : ∃ p : Prims, p = prims := ⟨_, rfl⟩
  obtain ⟨m_string, hm_string⟩ : ∃ m, m = List.map eS := ⟨_, rfl⟩
  rw [← hp]
  rw [← hm_string]
  obtain ⟨p_arith, p_cmp, p_wrap, p_scmp, p_scat, p_catOk, p_ssize, p_sat, p_ssub, p_bytes, p_str, p_bnot, p_beq, p_min, p_max, p_len, p_int, p_nth, p_sub, p_rsub, p_ridx, p_rnth, p_rset, p_rapp, p_rlen, p_addN, p_full, p_fits, p_frz, p_own, p_opn, p_lend, p_rmov, p_rout, p_both, p_yI, p_ofB, p_byW, p_mkN, p_rep, p_copy⟩ := p
  have h_arith : p_arith = prims.arith := congrArg Prims.arith hp
  have h_catOk : p_catOk = prims.catOk := congrArg Prims.catOk hp
  have h_cmp : p_cmp = prims.cmp := congrArg Prims.cmp hp
  have h_int : p_int = prims.int := congrArg Prims.int hp
  have h_len : p_len = prims.len := congrArg Prims.len hp
  have h_nth : p_nth = prims.nth := congrArg Prims.nth hp
  have h_scat : p_scat = prims.scat := congrArg Prims.scat hp
  clear hp
  have nth_string := @nthF_string
  rw [← h_nth, ← hm_string] at nth_string
  generalize hal : (fun (F : St → (Ex → St → Option (List Arg)) → Option (List Arg)) lv => aloop F lv fuel) = al
  rw [s_spec_FormatName, ← h_cmp, ← h_int, ← h_len, ← hm_string]
  conv => lhs; cbv
  refine (loop_al hal (fun x => match x with | (v1, v2) => ⟨[dd, .c (.ptr (0, 0, 0) 1 0 0), dd, .c (.at (.string v1)), .c (.at (.int .i64 v2)), dd, dd, dd, dd, dd, dd, dd, dd, dd, dd, dd, dd, dd, dd, dd, dd, dd, dd, dd, dd], [((0, 0, 0), ⟨false, true, 30, 1, [[.rd true 9 1 (m_string a0)]]⟩)], 1⟩) (s_spec_FormatName_l1 a0) (fun K g => match g with | (v1, v2) => K (.exit 0) ⟨[dd, .c (.ptr (0, 0, 0) 1 0 0), dd, .c (.at (.string v1)), .c (.at (.int .i64 v2)), .c (.at (.int .i64 v2)), .c (.ptr (0, 0, 0) 1 0 0), .c (.rd true 9 1 (m_string a0)), .c (.at (.int .i64 (p_int (p_len (m_string a0))))), .c (.at (.bool false)), dd, dd, dd, dd, dd, dd, dd, dd, dd, dd, dd, dd, dd, dd, dd], [((0, 0, 0), ⟨false, true, 30, 1, [[.rd true 9 1 (m_string a0)]]⟩)], 2⟩) ?_ ((ByteArray.mk (Array.mk [])), 0) _ (rfl)).trans (cL ?_)
  · rintro K1 hr1 ⟨v1, v2⟩ R1
    rw [s_spec_FormatName_l1, ← h_arith, ← h_catOk, ← h_cmp, ← h_int, ← h_len, ← h_scat, ← hm_string]
    conv => lhs; cbv
    refine cC (fun hb3 => ?_) (fun hb3 => ?_)
    · rw [hb3]
      conv => lhs; cbv
      refine cC (fun hb4 => ?_) (fun hb4 => ?_)
      · rw [if_pos hb4]
        try rw [hb4]
        conv => lhs; cbv
        rw [nth_string]
        refine cO (fun hx6 => ?_) ?_
        · rw [hx6]
          first | done | rfl
        · rintro x5 hx6
          rw [hx6]
          conv => lhs; cbv
          refine cC (fun hb7 => ?_) (fun hb7 => ?_)
          · rw [if_pos hb7]
            try rw [hb7]
            conv => lhs; cbv
            first | done | rfl
          · rw [if_neg (Bool.eq_false_iff.1 hb7)]
            try rw [hb7]
            conv => lhs; cbv
            first | done | rfl
      · rw [if_neg (Bool.eq_false_iff.1 hb4)]
        try rw [hb4]
        conv => lhs; cbv
        first | done | rfl
    · rw [hb3]
      conv => lhs; cbv
      first | done | rfl
  · rintro ⟨w8, w9⟩
    conv => lhs; cbv
    refine cC (fun hb10 => ?_) (fun hb10 => ?_)
    · rw [hb10]
      conv => lhs; cbv
      first | done | rfl
    · rw [hb10]
      conv => lhs; cbv
      first | done | rfl
def s_spec_FormatInt_l1 : (ByteArray × Int) → Option ((ByteArray × Int) ⊕ ((ByteArray × Int)))
  | (v2, v3) => bif prims.cmp .neq v3 0 then (bif prims.cmp .eql 10 0 then none else (bif prims.cmp .lss (prims.arith .rem .i64 v3 10) 0 then (bif prims.catOk (prims.ofB [(prims.byW (prims.arith .add .i64 48 (prims.arith .sub .i64 0 (prims.arith .rem .i64 v3 10))))]) v2 then (some (.inl (prims.scat (prims.ofB [(prims.byW (prims.arith .add .i64 48 (prims.arith .sub .i64 0 (prims.arith .rem .i64 v3 10))))]) v2, prims.arith .quo .i64 v3 10))) else none) else (bif prims.catOk (prims.ofB [(prims.byW (prims.arith .add .i64 48 (prims.arith .rem .i64 v3 10)))]) v2 then (some (.inl (prims.scat (prims.ofB [(prims.byW (prims.arith .add .i64 48 (prims.arith .rem .i64 v3 10)))]) v2, prims.arith .quo .i64 v3 10))) else none))) else (some (.inr (v2, v3)))
def s_spec_FormatInt (a0 : Int) : Option (ByteArray) := bif prims.cmp .eql a0 0 then (some (ByteArray.mk (Array.mk [48]))) else ((whileO (s_spec_FormatInt_l1) fuel ((ByteArray.mk (Array.mk [])), a0)).bind fun ⟨w9, w10⟩ => bif prims.cmp .lss a0 0 then (bif prims.catOk (ByteArray.mk (Array.mk [45])) w9 then (some (prims.scat (ByteArray.mk (Array.mk [45])) w9)) else none) else (some w9))
def Has_s_spec_FormatInt (F : Fns) : Prop := ∀ (a0 : Int), F 40 [.v (.at (.int .i64 a0))] = (s_spec_FormatInt a0).bind fun r => some [.v (.at (.string r))]
set_option maxHeartbeats 40000000 in
theorem e_s_spec_FormatInt (F : Fns) (a0 : Int) : evBody prims (fun F lv => aloop F lv fuel) TY F ⟨Tryd.f40, Tryd.f40.body.getD .skip, fun id => if id = 5 then [0, 3, 4] else []⟩ [.v (.at (.int .i64 a0))] = (s_spec_FormatInt a0).bind fun r => some [.v (.at (.string r))] := by
  obtain ⟨p, hp⟩ : ∃ p : Prims, p = prims := ⟨_, rfl⟩
  obtain ⟨m_byte, hm_byte⟩ : ∃ m, m = List.map eY := ⟨_, rfl⟩
  rw [← hp]
  obtain ⟨p_arith, p_cmp, p_wrap, p_scmp, p_scat, p_catOk, p_ssize, p_sat, p_ssub, p_bytes, p_str, p_bnot, p_beq, p_min, p_max, p_len, p_int, p_nth, p_sub, p_rsub, p_ridx, p_rnth, p_rset, p_rapp, p_rlen, p_addN, p_full, p_fits, p_frz, p_own, p_opn, p_lend, p_rmov, p_rout, p_both, p_yI, p_ofB, p_byW, p_mkN, p_rep, p_copy⟩ := p
  have h_arith : p_arith = prims.arith := congrArg Prims.arith hp
  have h_byW : p_byW = prims.byW := congrArg Prims.byW hp
  have h_catOk : p_catOk = prims.catOk := congrArg Prims.catOk hp
  have h_cmp : p_cmp = prims.cmp := congrArg Prims.cmp hp
  have h_ofB : p_ofB = prims.ofB := congrArg Prims.ofB hp
  have h_scat : p_scat = prims.scat := congrArg Prims.scat hp
  have h_str : p_str = prims.str := congrArg Prims.str hp
  have h_wrap : p_wrap = prims.wrap := congrArg Prims.wrap hp
  have h_yI : p_yI = prims.yI := congrArg Prims.yI hp
  clear hp
  have mcons_byte := @mconsF_byte
  rw [← h_yI, ← hm_byte] at mcons_byte
  have nild_byte := @nildF_byte
  rw [← hm_byte] at nild_byte
  have str_byte := @strF_byte
  rw [← h_ofB, ← h_str, ← hm_byte] at str_byte
  have wy_byte := @wyF_byte
  rw [← h_byW, ← h_wrap, ← h_yI] at wy_byte
  generalize hal : (fun (F : St → (Ex → St → Option (List Arg)) → Option (List Arg)) lv => aloop F lv fuel) = al
  rw [s_spec_FormatInt, ← h_catOk, ← h_cmp, ← h_scat]
  conv => lhs; cbv
  refine cC (fun hb1 => ?_) (fun hb1 => ?_)
  · rw [hb1]
    conv => lhs; cbv
    first | done | rfl
  · rw [hb1]
    conv => lhs; cbv
    refine (loop_al hal (fun x => match x with | (v2, v3) => ⟨[.c (.at (.int .i64 a0)), dd, dd, .c (.at (.string v2)), .c (.at (.int .i64 v3)), dd, dd, dd, dd, dd, dd, dd, dd, dd, dd, dd, dd, dd, dd, dd, dd, dd, dd, dd, dd, dd, dd, dd, dd, dd, dd], [], 1⟩) (s_spec_FormatInt_l1) (fun K g => match g with | (v2, v3) => K (.exit 0) ⟨[.c (.at (.int .i64 a0)), dd, dd, .c (.at (.string v2)), .c (.at (.int .i64 v3)), dd, dd, dd, dd, .c (.at (.int .i64 v3)), .c (.at (.bool false)), dd, dd, dd, dd, dd, dd, dd, dd, dd, dd, dd, dd, dd, dd, dd, dd, dd, dd, dd, dd], [], 2⟩) ?_ ((ByteArray.mk (Array.mk [])), a0) _ (rfl)).trans (cL ?_)
    · rintro K1 hr1 ⟨v2, v3⟩ R1
      rw [s_spec_FormatInt_l1, ← h_arith, ← h_byW, ← h_catOk, ← h_cmp, ← h_ofB, ← h_scat]
      conv => lhs; cbv
      refine cC (fun hb4 => ?_) (fun hb4 => ?_)
      · rw [hb4]
        conv => lhs; cbv
        refine cC (fun hb5 => ?_) (fun hb5 => ?_)
        · rw [if_pos hb5]
          try rw [hb5]
          conv => lhs; cbv
          first | done | rfl
        · rw [if_neg (Bool.eq_false_iff.1 hb5)]
          try rw [hb5]
          conv => lhs; cbv
          refine cC (fun hb6 => ?_) (fun hb6 => ?_)
          · rw [hb6]
            conv => lhs; cbv
            rw [wy_byte]
            conv => lhs; cbv
            rw [← (show (m_byte [(p_byW (p_arith .add .i64 48 (p_arith .sub .i64 0 (p_arith .rem .i64 v3 10))))]) = [[DT.at (.int .u8 (p_yI (p_byW (p_arith .add .i64 48 (p_arith .sub .i64 0 (p_arith .rem .i64 v3 10))))))]] by rw [mcons_byte, nild_byte])]
            rw [str_byte]
            conv => lhs; cbv
            refine cC (fun hb7 => ?_) (fun hb7 => ?_)
            · rw [if_pos hb7]
              try rw [hb7]
              conv => lhs; cbv
              rw [if_neg (Bool.eq_false_iff.1 hb5)]
              conv => lhs; cbv
              first | done | rfl
            · rw [if_neg (Bool.eq_false_iff.1 hb7)]
              try rw [hb7]
              conv => lhs; cbv
              first | done | rfl
          · rw [hb6]
            conv => lhs; cbv
            rw [wy_byte]
            conv => lhs; cbv
            rw [← (show (m_byte [(p_byW (p_arith .add .i64 48 (p_arith .rem .i64 v3 10)))]) = [[DT.at (.int .u8 (p_yI (p_byW (p_arith .add .i64 48 (p_arith .rem .i64 v3 10)))))]] by rw [mcons_byte, nild_byte])]
            rw [str_byte]
            conv => lhs; cbv
            refine cC (fun hb8 => ?_) (fun hb8 => ?_)
            · rw [if_pos hb8]
              try rw [hb8]
              conv => lhs; cbv
              rw [if_neg (Bool.eq_false_iff.1 hb5)]
              conv => lhs; cbv
              first | done | rfl
            · rw [if_neg (Bool.eq_false_iff.1 hb8)]
              try rw [hb8]
              conv => lhs; cbv
              first | done | rfl
      · rw [hb4]
        conv => lhs; cbv
        first | done | rfl
    · rintro ⟨w9, w10⟩
      conv => lhs; cbv
      refine cC (fun hb11 => ?_) (fun hb11 => ?_)
      · rw [hb11]
        conv => lhs; cbv
        refine cC (fun hb12 => ?_) (fun hb12 => ?_)
        · rw [if_pos hb12]
          try rw [hb12]
          conv => lhs; cbv
          first | done | rfl
        · rw [if_neg (Bool.eq_false_iff.1 hb12)]
          try rw [hb12]
          conv => lhs; cbv
          first | done | rfl
      · rw [hb11]
        conv => lhs; cbv
        first | done | rfl
def s_spec_FormatData (a0 : DData) : Option (ByteArray) := (s_spec_FormatName a0.name).bind fun r1 => bif prims.catOk r1 (ByteArray.mk (Array.mk [61])) then ((s_spec_FormatInt (prims.int (prims.len (List.map eY a0.content)))).bind fun r4 => bif prims.catOk (prims.scat r1 (ByteArray.mk (Array.mk [61]))) r4 then (bif prims.catOk (prims.scat (prims.scat r1 (ByteArray.mk (Array.mk [61]))) r4) (ByteArray.mk (Array.mk [64])) then ((s_spec_FormatName a0.keyName).bind fun r8 => bif prims.catOk (prims.scat (prims.scat (prims.scat r1 (ByteArray.mk (Array.mk [61]))) r4) (ByteArray.mk (Array.mk [64]))) r8 then (some (prims.scat (prims.scat (prims.scat (prims.scat r1 (ByteArray.mk (Array.mk [61]))) r4) (ByteArray.mk (Array.mk [64]))) r8)) else none) else none) else none) else none
def Has_s_spec_FormatData (F : Fns) : Prop := ∀ (a0 : DData), F 9 [.a [.sl 9 1 (List.map eS a0.name), .sl 5 1 (List.map eY a0.content), .sl 9 1 (List.map eS a0.keyName), .at (.int .i64 a0.freshUntil), .at (.int .i64 a0.signature)]] = (s_spec_FormatData a0).bind fun r => some [.v (.at (.string r))]
set_option maxHeartbeats 40000000 in
theorem e_s_spec_FormatData (F : Fns) (hF_s_spec_FormatName : Has_s_spec_FormatName F) (hF_s_spec_FormatInt : Has_s_spec_FormatInt F) (a0 : DData) : evBody prims (fun F lv => aloop F lv fuel) TY F ⟨Tryd.f9, Tryd.f9.body.getD .skip, fun _ => []⟩ [.a [.sl 9 1 (List.map eS a0.name), .sl 5 1 (List.map eY a0.content), .sl 9 1 (List.map eS a0.keyName), .at (.int .i64 a0.freshUntil), .at (.int .i64 a0.signature)]] = (s_spec_FormatData a0).bind fun r => some [.v (.at (.string r))] := by
  obtain ⟨p, hp⟩ : ∃ p : Prims, p = prims := ⟨_, rfl⟩
  obtain ⟨m_byte, hm_byte⟩ : ∃ m, m = List.map eY := ⟨_, rfl⟩
  obtain ⟨m_string, hm_string⟩ : ∃ m, m = List.map eS := ⟨_, rfl⟩
  rw [← hp]
  rw [← hm_byte, ← hm_string]
  obtain ⟨p_arith, p_cmp, p_wrap, p_scmp, p_scat, p_catOk, p_ssize, p_sat, p_ssub, p_bytes, p_str, p_bnot, p_beq, p_min, p_max, p_len, p_int, p_nth, p_sub, p_rsub, p_ridx, p_rnth, p_rset, p_rapp, p_rlen, p_addN, p_full, p_fits, p_frz, p_own, p_opn, p_lend, p_rmov, p_rout, p_both, p_yI, p_ofB, p_byW, p_mkN, p_rep, p_copy⟩ := p
  have h_catOk : p_catOk = prims.catOk := congrArg Prims.catOk hp
  have h_int : p_int = prims.int := congrArg Prims.int hp
  have h_len : p_len = prims.len := congrArg Prims.len hp
  have h_scat : p_scat = prims.scat := congrArg Prims.scat hp
  clear hp
  unfold Has_s_spec_FormatName at hF_s_spec_FormatName
  rw [← hm_string] at hF_s_spec_FormatName
  unfold Has_s_spec_FormatInt at hF_s_spec_FormatInt
  generalize hal : (fun (F : St → (Ex → St → Option (List Arg)) → Option (List Arg)) lv => aloop F lv fuel) = al
  rw [s_spec_FormatData, ← h_catOk, ← h_int, ← h_len, ← h_scat, ← hm_byte]
  conv => lhs; cbv
  rw [hF_s_spec_FormatName a0.name]
  refine cO (fun hx2 => ?_) ?_
  · rw [hx2]
    first | done | rfl
  · rintro r1 hx2
    rw [hx2]
    conv => lhs; cbv
    refine cC (fun hb3 => ?_) (fun hb3 => ?_)
    · rw [if_pos hb3]
      try rw [hb3]
      conv => lhs; cbv
      rw [hF_s_spec_FormatInt (p_int (p_len (m_byte a0.content)))]
      refine cO (fun hx5 => ?_) ?_
      · rw [hx5]
        first | done | rfl
      · rintro r4 hx5
        rw [hx5]
        conv => lhs; cbv
        refine cC (fun hb6 => ?_) (fun hb6 => ?_)
        · rw [if_pos hb6]
          try rw [hb6]
          conv => lhs; cbv
          refine cC (fun hb7 => ?_) (fun hb7 => ?_)
          · rw [if_pos hb7]
            try rw [hb7]
            conv => lhs; cbv
            rw [hF_s_spec_FormatName a0.keyName]
            refine cO (fun hx9 => ?_) ?_
            · rw [hx9]
              first | done | rfl
            · rintro r8 hx9
              rw [hx9]
              conv => lhs; cbv
              refine cC (fun hb10 => ?_) (fun hb10 => ?_)
              · rw [if_pos hb10]
                try rw [hb10]
                conv => lhs; cbv
                first | done | rfl
              · rw [if_neg (Bool.eq_false_iff.1 hb10)]
                try rw [hb10]
                conv => lhs; cbv
                first | done | rfl
          · rw [if_neg (Bool.eq_false_iff.1 hb7)]
            try rw [hb7]
            conv => lhs; cbv
            first | done | rfl
        · rw [if_neg (Bool.eq_false_iff.1 hb6)]
          try rw [hb6]
          conv => lhs; cbv
          first | done | rfl
    · rw [if_neg (Bool.eq_false_iff.1 hb3)]
      try rw [hb3]
      conv => lhs; cbv
      first | done | rfl
def s_strings_Join (a0 : (List ByteArray)) (a1 : ByteArray) : Option (ByteArray) := if a0.length ≤ 2 ^ 40 ∧ (Go.Lib.join (a0.map (·.data.toList)) a1.data.toList).length ≤ 2 ^ 46 then some ⟨(Go.Lib.join (a0.map (·.data.toList)) a1.data.toList).toArray⟩ else none
def Has_s_strings_Join (F : Fns) : Prop := ∀ (a0 : (List ByteArray)) (a1 : ByteArray), F 98 [.v (.sl 9 1 (List.map eS a0)), .v (.at (.string a1))] = (s_strings_Join a0 a1).bind fun r => some [.v (.at (.string r))]
def s_impl_slashed (a0 : (List ByteArray)) : Option (ByteArray) := bif prims.cmp .eql (prims.int (prims.len (List.map eS a0))) 0 then (some (ByteArray.mk (Array.mk [47]))) else ((s_strings_Join a0 (ByteArray.mk (Array.mk [47]))).bind fun r2 => bif prims.catOk (ByteArray.mk (Array.mk [47])) r2 then (some (prims.scat (ByteArray.mk (Array.mk [47])) r2)) else none)
def Has_s_impl_slashed (F : Fns) : Prop := ∀ (a0 : (List ByteArray)), F 93 [.v (.sl 9 1 (List.map eS a0))] = (s_impl_slashed a0).bind fun r => some [.v (.at (.string r))]
set_option maxHeartbeats 40000000 in
theorem e_s_impl_slashed (F : Fns) (hF_s_strings_Join : Has_s_strings_Join F) (a0 : (List ByteArray)) : evBody prims (fun F lv => aloop F lv fuel) TY F ⟨Tryd.f93, Tryd.f93.body.getD .skip, fun _ => []⟩ [.v (.sl 9 1 (List.map eS a0))] = (s_impl_slashed a0).bind fun r => some [.v (.at (.string r))] := by
  obtain ⟨p, hp⟩ : ∃ p : Prims, p = prims := ⟨_, rfl⟩
  obtain ⟨m_string, hm_string⟩ : ∃ m, m = List.map eS := ⟨_, rfl⟩
  rw [← hp]
  rw [← hm_string]
  obtain ⟨p_arith, p_cmp, p_wrap, p_scmp, p_scat, p_catOk, p_ssize, p_sat, p_ssub, p_bytes, p_str, p_bnot, p_beq, p_min, p_max, p_len, p_int, p_nth, p_sub, p_rsub, p_ridx, p_rnth, p_rset, p_rapp, p_rlen, p_addN, p_full, p_fits, p_frz, p_own, p_opn, p_lend, p_rmov, p_rout, p_both, p_yI, p_ofB, p_byW, p_mkN, p_rep, p_copy⟩ := p
  have h_catOk : p_catOk = prims.catOk := congrArg Prims.catOk hp
  have h_cmp : p_cmp = prims.cmp := congrArg Prims.cmp hp
  have h_int : p_int = prims.int := congrArg Prims.int hp
  have h_len : p_len = prims.len := congrArg Prims.len hp
  have h_scat : p_scat = prims.scat := congrArg Prims.scat hp
  clear hp
  unfold Has_s_strings_Join at hF_s_strings_Join
  rw [← hm_string] at hF_s_strings_Join
  generalize hal : (fun (F : St → (Ex → St → Option (List Arg)) → Option (List Arg)) lv => aloop F lv fuel) = al
  rw [s_impl_slashed, ← h_catOk, ← h_cmp, ← h_int, ← h_len, ← h_scat, ← hm_string]
  conv => lhs; cbv
  refine cC (fun hb1 => ?_) (fun hb1 => ?_)
  · rw [hb1]
    conv => lhs; cbv
    first | done | rfl
  · rw [hb1]
    conv => lhs; cbv
    rw [hF_s_strings_Join a0 (ByteArray.mk (Array.mk [47]))]
    refine cO (fun hx3 => ?_) ?_
    · rw [hx3]
      first | done | rfl
    · rintro r2 hx3
      rw [hx3]
      conv => lhs; cbv
      refine cC (fun hb4 => ?_) (fun hb4 => ?_)
      · rw [if_pos hb4]
        try rw [hb4]
        conv => lhs; cbv
        first | done | rfl
      · rw [if_neg (Bool.eq_false_iff.1 hb4)]
        try rw [hb4]
        conv => lhs; cbv
        first | done | rfl
def s_impl_FormatName (a0 : (List ByteArray)) : Option (ByteArray) := (s_impl_slashed a0).bind fun r1 => some r1
def Has_s_impl_FormatName (F : Fns) : Prop := ∀ (a0 : (List ByteArray)), F 43 [.a [.sl 9 1 (List.map eS a0)]] = (s_impl_FormatName a0).bind fun r => some [.v (.at (.string r))]
set_option maxHeartbeats 40000000 in
theorem e_s_impl_FormatName (F : Fns) (hF_s_impl_slashed : Has_s_impl_slashed F) (a0 : (List ByteArray)) : evBody prims (fun F lv => aloop F lv fuel) TY F ⟨Tryd.f43, Tryd.f43.body.getD .skip, fun _ => []⟩ [.a [.sl 9 1 (List.map eS a0)]] = (s_impl_FormatName a0).bind fun r => some [.v (.at (.string r))] := by
  obtain ⟨p, hp⟩ : ∃ p : Prims, p = prims := ⟨_, rfl⟩
  obtain ⟨m_string, hm_string⟩ : ∃ m, m = List.map eS := ⟨_, rfl⟩
  rw [← hp]
  rw [← hm_string]
  obtain ⟨p_arith, p_cmp, p_wrap, p_scmp, p_scat, p_catOk, p_ssize, p_sat, p_ssub, p_bytes, p_str, p_bnot, p_beq, p_min, p_max, p_len, p_int, p_nth, p_sub, p_rsub, p_ridx, p_rnth, p_rset, p_rapp, p_rlen, p_addN, p_full, p_fits, p_frz, p_own, p_opn, p_lend, p_rmov, p_rout, p_both, p_yI, p_ofB, p_byW, p_mkN, p_rep, p_copy⟩ := p
  clear hp
  unfold Has_s_impl_slashed at hF_s_impl_slashed
  rw [← hm_string] at hF_s_impl_slashed
  generalize hal : (fun (F : St → (Ex → St → Option (List Arg)) → Option (List Arg)) lv => aloop F lv fuel) = al
  rw [s_impl_FormatName]
  conv => lhs; cbv
  rw [hF_s_impl_slashed a0]
  refine cO (fun hx2 => ?_) ?_
  · rw [hx2]
    first | done | rfl
  · rintro r1 hx2
    rw [hx2]
    conv => lhs; cbv
    first | done | rfl
def s_strconv_Itoa (a0 : Int) : Option (ByteArray) := if -9223372036854775808 ≤ a0 ∧ a0 ≤ 9223372036854775807 then some ⟨(Go.Lib.itoa a0).toArray⟩ else none
def Has_s_strconv_Itoa (F : Fns) : Prop := ∀ (a0 : Int), F 94 [.v (.at (.int .i64 a0))] = (s_strconv_Itoa a0).bind fun r => some [.v (.at (.string r))]
def s_impl_FormatInt (a0 : Int) : Option (ByteArray) := (s_strconv_Itoa a0).bind fun r1 => some r1
def Has_s_impl_FormatInt (F : Fns) : Prop := ∀ (a0 : Int), F 44 [.v (.at (.int .i64 a0))] = (s_impl_FormatInt a0).bind fun r => some [.v (.at (.string r))]
set_option maxHeartbeats 40000000 in
theorem e_s_impl_FormatInt (F : Fns) (hF_s_strconv_Itoa : Has_s_strconv_Itoa F) (a0 : Int) : evBody prims (fun F lv => aloop F lv fuel) TY F ⟨Tryd.f44, Tryd.f44.body.getD .skip, fun _ => []⟩ [.v (.at (.int .i64 a0))] = (s_impl_FormatInt a0).bind fun r => some [.v (.at (.string r))] := by
  obtain ⟨p, hp⟩ : ∃ p : Prims, p = prims := ⟨_, rfl⟩
  rw [← hp]
  obtain ⟨p_arith, p_cmp, p_wrap, p_scmp, p_scat, p_catOk, p_ssize, p_sat, p_ssub, p_bytes, p_str, p_bnot, p_beq, p_min, p_max, p_len, p_int, p_nth, p_sub, p_rsub, p_ridx, p_rnth, p_rset, p_rapp, p_rlen, p_addN, p_full, p_fits, p_frz, p_own, p_opn, p_lend, p_rmov, p_rout, p_both, p_yI, p_ofB, p_byW, p_mkN, p_rep, p_copy⟩ := p
  clear hp
  unfold Has_s_strconv_Itoa at hF_s_strconv_Itoa
  generalize hal : (fun (F : St → (Ex → St → Option (List Arg)) → Option (List Arg)) lv => aloop F lv fuel) = al
  rw [s_impl_FormatInt]
  conv => lhs; cbv
  rw [hF_s_strconv_Itoa a0]
  refine cO (fun hx2 => ?_) ?_
  · rw [hx2]
    first | done | rfl
  · rintro r1 hx2
    rw [hx2]
    conv => lhs; cbv
    first | done | rfl
def s_impl_FormatData (a0 : DData) : Option (ByteArray) := (s_impl_FormatName a0.name).bind fun r1 => bif prims.catOk r1 (ByteArray.mk (Array.mk [61])) then ((s_impl_FormatInt (prims.int (prims.len (List.map eY a0.content)))).bind fun r4 => bif prims.catOk (prims.scat r1 (ByteArray.mk (Array.mk [61]))) r4 then (bif prims.catOk (prims.scat (prims.scat r1 (ByteArray.mk (Array.mk [61]))) r4) (ByteArray.mk (Array.mk [64])) then ((s_impl_FormatName a0.keyName).bind fun r8 => bif prims.catOk (prims.scat (prims.scat (prims.scat r1 (ByteArray.mk (Array.mk [61]))) r4) (ByteArray.mk (Array.mk [64]))) r8 then (some (prims.scat (prims.scat (prims.scat (prims.scat r1 (ByteArray.mk (Array.mk [61]))) r4) (ByteArray.mk (Array.mk [64]))) r8)) else none) else none) else none) else none
def Has_s_impl_FormatData (F : Fns) : Prop := ∀ (a0 : DData), F 11 [.a [.sl 9 1 (List.map eS a0.name), .sl 5 1 (List.map eY a0.content), .sl 9 1 (List.map eS a0.keyName), .at (.int .i64 a0.freshUntil), .at (.int .i64 a0.signature)]] = (s_impl_FormatData a0).bind fun r => some [.v (.at (.string r))]
set_option maxHeartbeats 40000000 in
theorem e_s_impl_FormatData (F : Fns) (hF_s_impl_FormatName : Has_s_impl_FormatName F) (hF_s_impl_FormatInt : Has_s_impl_FormatInt F) (a0 : DData) : evBody prims (fun F lv => aloop F lv fuel) TY F ⟨Tryd.f11, Tryd.f11.body.getD .skip, fun _ => []⟩ [.a [.sl 9 1 (List.map eS a0.name), .sl 5 1 (List.map eY a0.content), .sl 9 1 (List.map eS a0.keyName), .at (.int .i64 a0.freshUntil), .at (.int .i64 a0.signature)]] = (s_impl_FormatData a0).bind fun r => some [.v (.at (.string r))] := by
  obtain ⟨p, hp⟩ : ∃ p : Prims, p = prims := ⟨_, rfl⟩
  obtain ⟨m_byte, hm_byte⟩ : ∃ m, m = List.map eY := ⟨_, rfl⟩
  obtain ⟨m_string, hm_string⟩ : ∃ m, m = List.map eS := ⟨_, rfl⟩
  rw [← hp]
  rw [← hm_byte, ← hm_string]
  obtain ⟨p_arith, p_cmp, p_wrap, p_scmp, p_scat, p_catOk, p_ssize, p_sat, p_ssub, p_bytes, p_str, p_bnot, p_beq, p_min, p_max, p_len, p_int, p_nth, p_sub, p_rsub, p_ridx, p_rnth, p_rset, p_rapp, p_rlen, p_addN, p_full, p_fits, p_frz, p_own, p_opn, p_lend, p_rmov, p_rout, p_both, p_yI, p_ofB, p_byW, p_mkN, p_rep, p_copy⟩ := p
  have h_catOk : p_catOk = prims.catOk := congrArg Prims.catOk hp
  have h_int : p_int = prims.int := congrArg Prims.int hp
  have h_len : p_len = prims.len := congrArg Prims.len hp
  have h_scat : p_scat = prims.scat := congrArg Prims.scat hp
  clear hp
  unfold Has_s_impl_FormatName at hF_s_impl_FormatName
  rw [← hm_string] at hF_s_impl_FormatName
  unfold Has_s_impl_FormatInt at hF_s_impl_FormatInt
  generalize hal : (fun (F : St → (Ex → St → Option (List Arg)) → Option (List Arg)) lv => aloop F lv fuel) = al
  rw [s_impl_FormatData, ← h_catOk, ← h_int, ← h_len, ← h_scat, ← hm_byte]
  conv => lhs; cbv
  rw [hF_s_impl_FormatName a0.name]
  refine cO (fun hx2 => ?_) ?_
  · rw [hx2]
    first | done | rfl
  · rintro r1 hx2
    rw [hx2]
    conv => lhs; cbv
    refine cC (fun hb3 => ?_) (fun hb3 => ?_)
    · rw [if_pos hb3]
      try rw [hb3]
      conv => lhs; cbv
      rw [hF_s_impl_FormatInt (p_int (p_len (m_byte a0.content)))]
      refine cO (fun hx5 => ?_) ?_
      · rw [hx5]
        first | done | rfl
      · rintro r4 hx5
        rw [hx5]
        conv => lhs; cbv
        refine cC (fun hb6 => ?_) (fun hb6 => ?_)
        · rw [if_pos hb6]
          try rw [hb6]
          conv => lhs; cbv
          refine cC (fun hb7 => ?_) (fun hb7 => ?_)
          · rw [if_pos hb7]
            try rw [hb7]
            conv => lhs; cbv
            rw [hF_s_impl_FormatName a0.keyName]
            refine cO (fun hx9 => ?_) ?_
            · rw [hx9]
              first | done | rfl
            · rintro r8 hx9
              rw [hx9]
              conv => lhs; cbv
              refine cC (fun hb10 => ?_) (fun hb10 => ?_)
              · rw [if_pos hb10]
                try rw [hb10]
                conv => lhs; cbv
                first | done | rfl
              · rw [if_neg (Bool.eq_false_iff.1 hb10)]
                try rw [hb10]
                conv => lhs; cbv
                first | done | rfl
          · rw [if_neg (Bool.eq_false_iff.1 hb7)]
            try rw [hb7]
            conv => lhs; cbv
            first | done | rfl
        · rw [if_neg (Bool.eq_false_iff.1 hb6)]
          try rw [hb6]
          conv => lhs; cbv
          first | done | rfl
    · rw [if_neg (Bool.eq_false_iff.1 hb3)]
      try rw [hb3]
      conv => lhs; cbv
      first | done | rfl
def s_laws_eqStringS_l1 (a0 : (List ByteArray)) (a1 : (List ByteArray)) : Int → Option ((Int) ⊕ ((Int) ⊕ (Bool)))
  | v2 => bif prims.cmp .lss v2 (prims.int (prims.len (List.map eS a0))) then ((nthI a0 v2).bind fun x4 => (nthI a1 v2).bind fun x6 => bif prims.scmp .neq x4 x6 then (some (.inr (.inr (false)))) else (some (.inl (prims.arith .add .i64 v2 1)))) else (some (.inr (.inl v2)))
def s_laws_eqStringS (a0 : (List ByteArray)) (a1 : (List ByteArray)) : Option (Bool) := bif prims.cmp .neq (prims.int (prims.len (List.map eS a0))) (prims.int (prims.len (List.map eS a1))) then (some false) else ((whileO (s_laws_eqStringS_l1 a0 a1) fuel 0).bind fun g => match g with | .inl w9 => (some true) | .inr (w10) => (some w10))
def Has_s_laws_eqStringS (F : Fns) : Prop := ∀ (a0 : (List ByteArray)) (a1 : (List ByteArray)), F 95 [.v (.sl 9 1 (List.map eS a0)), .v (.sl 9 1 (List.map eS a1))] = (s_laws_eqStringS a0 a1).bind fun r => some [.v (.at (.bool r))]
set_option maxHeartbeats 40000000 in
theorem e_s_laws_eqStringS (F : Fns) (a0 : (List ByteArray)) (a1 : (List ByteArray)) : evBody prims (fun F lv => aloop F lv fuel) TY F ⟨Tryd.f95, Tryd.f95.body.getD .skip, fun id => if id = 4 then [0, 1, 5] else []⟩ [.v (.sl 9 1 (List.map eS a0)), .v (.sl 9 1 (List.map eS a1))] = (s_laws_eqStringS a0 a1).bind fun r => some [.v (.at (.bool r))] := by
  obtain ⟨p, hp⟩ : ∃ p : Prims, p = prims := ⟨_, rfl⟩
  obtain ⟨m_string, hm_string⟩ : ∃ m, m = List.map eS := ⟨_, rfl⟩
  rw [← hp]
  rw [← hm_string]
  obtain ⟨p_arith, p_cmp, p_wrap, p_scmp, p_scat, p_catOk, p_ssize, p_sat, p_ssub, p_bytes, p_str, p_bnot, p_beq, p_min, p_max, p_len, p_int, p_nth, p_sub, p_rsub, p_ridx, p_rnth, p_rset, p_rapp, p_rlen, p_addN, p_full, p_fits, p_frz, p_own, p_opn, p_lend, p_rmov, p_rout, p_both, p_yI, p_ofB, p_byW, p_mkN, p_rep, p_copy⟩ := p
  have h_arith : p_arith = prims.arith := congrArg Prims.arith hp
  have h_cmp : p_cmp = prims.cmp := congrArg Prims.cmp hp
  have h_int : p_int = prims.int := congrArg Prims.int hp
  have h_len : p_len = prims.len := congrArg Prims.len hp
  have h_nth : p_nth = prims.nth := congrArg Prims.nth hp
  have h_scmp : p_scmp = prims.scmp := congrArg Prims.scmp hp
  clear hp
  have nth_string := @nthF_string
  rw [← h_nth, ← hm_string] at nth_string
  generalize hal : (fun (F : St → (Ex → St → Option (List Arg)) → Option (List Arg)) lv => aloop F lv fuel) = al
  rw [s_laws_eqStringS, ← h_cmp, ← h_int, ← h_len, ← hm_string]
  conv => lhs; cbv
  refine cC (fun hb1 => ?_) (fun hb1 => ?_)
  · rw [hb1]
    conv => lhs; cbv
    first | done | rfl
  · rw [hb1]
    conv => lhs; cbv
    refine (loop_al hal (fun v2 => ⟨[.c (.rd true 9 1 (m_string a0)), .c (.rd true 9 1 (m_string a1)), dd, dd, dd, .c (.at (.int .i64 v2)), dd, dd, dd, dd, dd, dd, dd, dd, dd, dd, dd, dd, dd, dd, dd, dd, dd, dd, dd, dd], [], 1⟩) (s_laws_eqStringS_l1 a0 a1) (fun K g => match g with | .inl v2 => K (.exit 0) ⟨[.c (.rd true 9 1 (m_string a0)), .c (.rd true 9 1 (m_string a1)), dd, dd, dd, .c (.at (.int .i64 v2)), dd, dd, dd, dd, dd, .c (.at (.int .i64 v2)), .c (.rd true 9 1 (m_string a0)), .c (.at (.int .i64 (p_int (p_len (m_string a0))))), .c (.at (.bool false)), dd, dd, dd, dd, dd, dd, dd, dd, dd, dd, dd], [], 2⟩ | .inr (r) => some [.v (.at (.bool r))]) ?_ 0 _ (rfl)).trans (cL ?_)
    · rintro K1 hr1 v2 R1
      rw [s_laws_eqStringS_l1, ← h_arith, ← h_cmp, ← h_int, ← h_len, ← h_scmp, ← hm_string]
      conv => lhs; cbv
      refine cC (fun hb3 => ?_) (fun hb3 => ?_)
      · rw [hb3]
        conv => lhs; cbv
        rw [nth_string]
        refine cO (fun hx5 => ?_) ?_
        · rw [hx5]
          first | done | rfl
        · rintro x4 hx5
          rw [hx5]
          conv => lhs; cbv
          rw [nth_string]
          refine cO (fun hx7 => ?_) ?_
          · rw [hx7]
            first | done | rfl
          · rintro x6 hx7
            rw [hx7]
            conv => lhs; cbv
            refine cC (fun hb8 => ?_) (fun hb8 => ?_)
            · rw [hb8]
              conv => lhs; cbv
              rw [hr1]
              conv => lhs; cbv
              first | done | rfl
            · rw [hb8]
              conv => lhs; cbv
              first | done | rfl
      · rw [hb3]
        conv => lhs; cbv
        first | done | rfl
    · rintro (w9 | w10)
      · conv => lhs; cbv
        first | done | rfl
      · rfl
def s_laws_eqName (a0 : (List ByteArray)) (a1 : (List ByteArray)) : Option (Bool) := (s_laws_eqStringS a0 a1).bind fun r1 => bif prims.bnot r1 then (some false) else (some true)
def Has_s_laws_eqName (F : Fns) : Prop := ∀ (a0 : (List ByteArray)) (a1 : (List ByteArray)), F 45 [.a [.sl 9 1 (List.map eS a0)], .a [.sl 9 1 (List.map eS a1)]] = (s_laws_eqName a0 a1).bind fun r => some [.v (.at (.bool r))]
set_option maxHeartbeats 40000000 in
theorem e_s_laws_eqName (F : Fns) (hF_s_laws_eqStringS : Has_s_laws_eqStringS F) (a0 : (List ByteArray)) (a1 : (List ByteArray)) : evBody prims (fun F lv => aloop F lv fuel) TY F ⟨Tryd.f45, Tryd.f45.body.getD .skip, fun _ => []⟩ [.a [.sl 9 1 (List.map eS a0)], .a [.sl 9 1 (List.map eS a1)]] = (s_laws_eqName a0 a1).bind fun r => some [.v (.at (.bool r))] := by
  obtain ⟨p, hp⟩ : ∃ p : Prims, p = prims := ⟨_, rfl⟩
  obtain ⟨m_string, hm_string⟩ : ∃ m, m = List.map eS := ⟨_, rfl⟩
  rw [← hp]
  rw [← hm_string]
  obtain ⟨p_arith, p_cmp, p_wrap, p_scmp, p_scat, p_catOk, p_ssize, p_sat, p_ssub, p_bytes, p_str, p_bnot, p_beq, p_min, p_max, p_len, p_int, p_nth, p_sub, p_rsub, p_ridx, p_rnth, p_rset, p_rapp, p_rlen, p_addN, p_full, p_fits, p_frz, p_own, p_opn, p_lend, p_rmov, p_rout, p_both, p_yI, p_ofB, p_byW, p_mkN, p_rep, p_copy⟩ := p
  have h_bnot : p_bnot = prims.bnot := congrArg Prims.bnot hp
  clear hp
  unfold Has_s_laws_eqStringS at hF_s_laws_eqStringS
  rw [← hm_string] at hF_s_laws_eqStringS
  generalize hal : (fun (F : St → (Ex → St → Option (List Arg)) → Option (List Arg)) lv => aloop F lv fuel) = al
  rw [s_laws_eqName, ← h_bnot]
  conv => lhs; cbv
  rw [hF_s_laws_eqStringS a0 a1]
  refine cO (fun hx2 => ?_) ?_
  · rw [hx2]
    first | done | rfl
  · rintro r1 hx2
    rw [hx2]
    conv => lhs; cbv
    refine cC (fun hb3 => ?_) (fun hb3 => ?_)
    · rw [hb3]
      conv => lhs; cbv
      first | done | rfl
    · rw [hb3]
      conv => lhs; cbv
      first | done | rfl
def s_laws_eqByteS_l1 (a0 : (List UInt8)) (a1 : (List UInt8)) : Int → Option ((Int) ⊕ ((Int) ⊕ (Bool)))
  | v2 => bif prims.cmp .lss v2 (prims.int (prims.len (List.map eY a0))) then ((nthI a0 v2).bind fun x4 => (nthI a1 v2).bind fun x6 => bif prims.cmp .neq (prims.yI x4) (prims.yI x6) then (some (.inr (.inr (false)))) else (some (.inl (prims.arith .add .i64 v2 1)))) else (some (.inr (.inl v2)))
def s_laws_eqByteS (a0 : (List UInt8)) (a1 : (List UInt8)) : Option (Bool) := bif prims.cmp .neq (prims.int (prims.len (List.map eY a0))) (prims.int (prims.len (List.map eY a1))) then (some false) else ((whileO (s_laws_eqByteS_l1 a0 a1) fuel 0).bind fun g => match g with | .inl w9 => (some true) | .inr (w10) => (some w10))
def Has_s_laws_eqByteS (F : Fns) : Prop := ∀ (a0 : (List UInt8)) (a1 : (List UInt8)), F 46 [.v (.sl 5 1 (List.map eY a0)), .v (.sl 5 1 (List.map eY a1))] = (s_laws_eqByteS a0 a1).bind fun r => some [.v (.at (.bool r))]
set_option maxHeartbeats 40000000 in
theorem e_s_laws_eqByteS (F : Fns) (a0 : (List UInt8)) (a1 : (List UInt8)) : evBody prims (fun F lv => aloop F lv fuel) TY F ⟨Tryd.f46, Tryd.f46.body.getD .skip, fun id => if id = 4 then [0, 1, 5] else []⟩ [.v (.sl 5 1 (List.map eY a0)), .v (.sl 5 1 (List.map eY a1))] = (s_laws_eqByteS a0 a1).bind fun r => some [.v (.at (.bool r))] := by
  obtain ⟨p, hp⟩ : ∃ p : Prims, p = prims := ⟨_, rfl⟩
  obtain ⟨m_byte, hm_byte⟩ : ∃ m, m = List.map eY := ⟨_, rfl⟩
  rw [← hp]
  rw [← hm_byte]
  obtain ⟨p_arith, p_cmp, p_wrap, p_scmp, p_scat, p_catOk, p_ssize, p_sat, p_ssub, p_bytes, p_str, p_bnot, p_beq, p_min, p_max, p_len, p_int, p_nth, p_sub, p_rsub, p_ridx, p_rnth, p_rset, p_rapp, p_rlen, p_addN, p_full, p_fits, p_frz, p_own, p_opn, p_lend, p_rmov, p_rout, p_both, p_yI, p_ofB, p_byW, p_mkN, p_rep, p_copy⟩ := p
  have h_arith : p_arith = prims.arith := congrArg Prims.arith hp
  have h_cmp : p_cmp = prims.cmp := congrArg Prims.cmp hp
  have h_int : p_int = prims.int := congrArg Prims.int hp
  have h_len : p_len = prims.len := congrArg Prims.len hp
  have h_nth : p_nth = prims.nth := congrArg Prims.nth hp
  have h_yI : p_yI = prims.yI := congrArg Prims.yI hp
  clear hp
  have nth_byte := @nthF_byte
  rw [← h_nth, ← h_yI, ← hm_byte] at nth_byte
  generalize hal : (fun (F : St → (Ex → St → Option (List Arg)) → Option (List Arg)) lv => aloop F lv fuel) = al
  rw [s_laws_eqByteS, ← h_cmp, ← h_int, ← h_len, ← hm_byte]
  conv => lhs; cbv
  refine cC (fun hb1 => ?_) (fun hb1 => ?_)
  · rw [hb1]
    conv => lhs; cbv
    first | done | rfl
  · rw [hb1]
    conv => lhs; cbv
    refine (loop_al hal (fun v2 => ⟨[.c (.rd true 5 1 (m_byte a0)), .c (.rd true 5 1 (m_byte a1)), dd, dd, dd, .c (.at (.int .i64 v2)), dd, dd, dd, dd, dd, dd, dd, dd, dd, dd, dd, dd, dd, dd, dd, dd, dd, dd, dd, dd], [], 1⟩) (s_laws_eqByteS_l1 a0 a1) (fun K g => match g with | .inl v2 => K (.exit 0) ⟨[.c (.rd true 5 1 (m_byte a0)), .c (.rd true 5 1 (m_byte a1)), dd, dd, dd, .c (.at (.int .i64 v2)), dd, dd, dd, dd, dd, .c (.at (.int .i64 v2)), .c (.rd true 5 1 (m_byte a0)), .c (.at (.int .i64 (p_int (p_len (m_byte a0))))), .c (.at (.bool false)), dd, dd, dd, dd, dd, dd, dd, dd, dd, dd, dd], [], 2⟩ | .inr (r) => some [.v (.at (.bool r))]) ?_ 0 _ (rfl)).trans (cL ?_)
    · rintro K1 hr1 v2 R1
      rw [s_laws_eqByteS_l1, ← h_arith, ← h_cmp, ← h_int, ← h_len, ← h_yI, ← hm_byte]
      conv => lhs; cbv
      refine cC (fun hb3 => ?_) (fun hb3 => ?_)
      · rw [hb3]
        conv => lhs; cbv
        rw [nth_byte]
        refine cO (fun hx5 => ?_) ?_
        · rw [hx5]
          first | done | rfl
        · rintro x4 hx5
          rw [hx5]
          conv => lhs; cbv
          rw [nth_byte]
          refine cO (fun hx7 => ?_) ?_
          · rw [hx7]
            first | done | rfl
          · rintro x6 hx7
            rw [hx7]
            conv => lhs; cbv
            refine cC (fun hb8 => ?_) (fun hb8 => ?_)
            · rw [hb8]
              conv => lhs; cbv
              rw [hr1]
              conv => lhs; cbv
              first | done | rfl
            · rw [hb8]
              conv => lhs; cbv
              first | done | rfl
      · rw [hb3]
        conv => lhs; cbv
        first | done | rfl
    · rintro (w9 | w10)
      · conv => lhs; cbv
        first | done | rfl
      · rfl
def s_laws_eqData (a0 : DData) (a1 : DData) : Option (Bool) := (s_laws_eqName a0.name a1.name).bind fun r1 => bif prims.bnot r1 then (some false) else ((s_laws_eqByteS a0.content a1.content).bind fun r4 => bif prims.bnot r4 then (some false) else ((s_laws_eqName a0.keyName a1.keyName).bind fun r7 => bif prims.bnot r7 then (some false) else (bif prims.cmp .neq a0.freshUntil a1.freshUntil then (some false) else (bif prims.cmp .neq a0.signature a1.signature then (some false) else (some true)))))
def Has_s_laws_eqData (F : Fns) : Prop := ∀ (a0 : DData) (a1 : DData), F 12 [.a [.sl 9 1 (List.map eS a0.name), .sl 5 1 (List.map eY a0.content), .sl 9 1 (List.map eS a0.keyName), .at (.int .i64 a0.freshUntil), .at (.int .i64 a0.signature)], .a [.sl 9 1 (List.map eS a1.name), .sl 5 1 (List.map eY a1.content), .sl 9 1 (List.map eS a1.keyName), .at (.int .i64 a1.freshUntil), .at (.int .i64 a1.signature)]] = (s_laws_eqData a0 a1).bind fun r => some [.v (.at (.bool r))]
set_option maxHeartbeats 40000000 in
theorem e_s_laws_eqData (F : Fns) (hF_s_laws_eqName : Has_s_laws_eqName F) (hF_s_laws_eqByteS : Has_s_laws_eqByteS F) (a0 : DData) (a1 : DData) : evBody prims (fun F lv => aloop F lv fuel) TY F ⟨Tryd.f12, Tryd.f12.body.getD .skip, fun _ => []⟩ [.a [.sl 9 1 (List.map eS a0.name), .sl 5 1 (List.map eY a0.content), .sl 9 1 (List.map eS a0.keyName), .at (.int .i64 a0.freshUntil), .at (.int .i64 a0.signature)], .a [.sl 9 1 (List.map eS a1.name), .sl 5 1 (List.map eY a1.content), .sl 9 1 (List.map eS a1.keyName), .at (.int .i64 a1.freshUntil), .at (.int .i64 a1.signature)]] = (s_laws_eqData a0 a1).bind fun r => some [.v (.at (.bool r))] := by
  obtain ⟨p, hp⟩ : ∃ p : Prims, p = prims := ⟨_, rfl⟩
  obtain ⟨m_byte, hm_byte⟩ : ∃ m, m = List.map eY := ⟨_, rfl⟩
  obtain ⟨m_string, hm_string⟩ : ∃ m, m = List.map eS := ⟨_, rfl⟩
  rw [← hp]
  rw [← hm_byte, ← hm_string]
  obtain ⟨p_arith, p_cmp, p_wrap, p_scmp, p_scat, p_catOk, p_ssize, p_sat, p_ssub, p_bytes, p_str, p_bnot, p_beq, p_min, p_max, p_len, p_int, p_nth, p_sub, p_rsub, p_ridx, p_rnth, p_rset, p_rapp, p_rlen, p_addN, p_full, p_fits, p_frz, p_own, p_opn, p_lend, p_rmov, p_rout, p_both, p_yI, p_ofB, p_byW, p_mkN, p_rep, p_copy⟩ := p
  have h_bnot : p_bnot = prims.bnot := congrArg Prims.bnot hp
  have h_cmp : p_cmp = prims.cmp := congrArg Prims.cmp hp
  clear hp
  unfold Has_s_laws_eqName at hF_s_laws_eqName
  rw [← hm_string] at hF_s_laws_eqName
  unfold Has_s_laws_eqByteS at hF_s_laws_eqByteS
  rw [← hm_byte] at hF_s_laws_eqByteS
  generalize hal : (fun (F : St → (Ex → St → Option (List Arg)) → Option (List Arg)) lv => aloop F lv fuel) = al
  rw [s_laws_eqData, ← h_bnot, ← h_cmp]
  conv => lhs; cbv
  rw [hF_s_laws_eqName a0.name a1.name]
  refine cO (fun hx2 => ?_) ?_
  · rw [hx2]
    first | done | rfl
  · rintro r1 hx2
    rw [hx2]
    conv => lhs; cbv
    refine cC (fun hb3 => ?_) (fun hb3 => ?_)
    · rw [hb3]
      conv => lhs; cbv
      first | done | rfl
    · rw [hb3]
      conv => lhs; cbv
      rw [hF_s_laws_eqByteS a0.content a1.content]
      refine cO (fun hx5 => ?_) ?_
      · rw [hx5]
        first | done | rfl
      · rintro r4 hx5
        rw [hx5]
        conv => lhs; cbv
        refine cC (fun hb6 => ?_) (fun hb6 => ?_)
        · rw [hb6]
          conv => lhs; cbv
          first | done | rfl
        · rw [hb6]
          conv => lhs; cbv
          rw [hF_s_laws_eqName a0.keyName a1.keyName]
          refine cO (fun hx8 => ?_) ?_
          · rw [hx8]
            first | done | rfl
          · rintro r7 hx8
            rw [hx8]
            conv => lhs; cbv
            refine cC (fun hb9 => ?_) (fun hb9 => ?_)
            · rw [hb9]
              conv => lhs; cbv
              first | done | rfl
            · rw [hb9]
              conv => lhs; cbv
              refine cC (fun hb10 => ?_) (fun hb10 => ?_)
              · rw [hb10]
                conv => lhs; cbv
                first | done | rfl
              · rw [hb10]
                conv => lhs; cbv
                refine cC (fun hb11 => ?_) (fun hb11 => ?_)
                · rw [hb11]
                  conv => lhs; cbv
                  first | done | rfl
                · rw [hb11]
                  conv => lhs; cbv
                  first | done | rfl
def s_laws_FnExactFormatData (a0 : DData) : Option (Bool) := (s_laws_szData a0 1048576).bind fun r1 => bif prims.cmp .lss r1 0 then (some true) else ((s_laws_toData a0).bind fun r4 => (s_spec_FormatData r4).bind fun r6 => (s_impl_FormatData r4).bind fun r9 => bif prims.scmp .neq r9 r6 then (some false) else ((s_laws_eqData r4 r4).bind fun r13 => bif prims.bnot r13 then (some false) else (some true)))
def Has_s_laws_FnExactFormatData (F : Fns) : Prop := ∀ (a0 : DData), F 3 [.a [.sl 9 1 (List.map eS a0.name), .sl 5 1 (List.map eY a0.content), .sl 9 1 (List.map eS a0.keyName), .at (.int .i64 a0.freshUntil), .at (.int .i64 a0.signature)]] = (s_laws_FnExactFormatData a0).bind fun r => some [.v (.at (.bool r))]
set_option maxHeartbeats 40000000 in
theorem e_s_laws_FnExactFormatData (F : Fns) (hF_s_laws_szData : Has_s_laws_szData F) (hF_s_laws_toData : Has_s_laws_toData F) (hF_s_spec_FormatData : Has_s_spec_FormatData F) (hF_s_impl_FormatData : Has_s_impl_FormatData F) (hF_s_laws_eqData : Has_s_laws_eqData F) (a0 : DData) : evBody prims (fun F lv => aloop F lv fuel) TY F ⟨Tryd.f3, Tryd.f3.body.getD .skip, fun _ => []⟩ [.a [.sl 9 1 (List.map eS a0.name), .sl 5 1 (List.map eY a0.content), .sl 9 1 (List.map eS a0.keyName), .at (.int .i64 a0.freshUntil), .at (.int .i64 a0.signature)]] = (s_laws_FnExactFormatData a0).bind fun r => some [.v (.at (.bool r))] := by
  obtain ⟨p, hp⟩ : ∃ p : Prims, p = prims := ⟨_, rfl⟩
  obtain ⟨m_byte, hm_byte⟩ : ∃ m, m = List.map eY := ⟨_, rfl⟩
  obtain ⟨m_string, hm_string⟩ : ∃ m, m = List.map eS := ⟨_, rfl⟩
  rw [← hp]
  rw [← hm_byte, ← hm_string]
  obtain ⟨p_arith, p_cmp, p_wrap, p_scmp, p_scat, p_catOk, p_ssize, p_sat, p_ssub, p_bytes, p_str, p_bnot, p_beq, p_min, p_max, p_len, p_int, p_nth, p_sub, p_rsub, p_ridx, p_rnth, p_rset, p_rapp, p_rlen, p_addN, p_full, p_fits, p_frz, p_own, p_opn, p_lend, p_rmov, p_rout, p_both, p_yI, p_ofB, p_byW, p_mkN, p_rep, p_copy⟩ := p
  have h_bnot : p_bnot = prims.bnot := congrArg Prims.bnot hp
  have h_cmp : p_cmp = prims.cmp := congrArg Prims.cmp hp
  have h_frz : p_frz = prims.frz := congrArg Prims.frz hp
  have h_len : p_len = prims.len := congrArg Prims.len hp
  have h_opn : p_opn = prims.opn := congrArg Prims.opn hp
  have h_scmp : p_scmp = prims.scmp := congrArg Prims.scmp hp
  clear hp
  have frz_byte := @frzF_byte
  rw [← h_frz, ← h_len, ← h_opn, ← hm_byte] at frz_byte
  have frz_string := @frzF_string
  rw [← h_frz, ← h_len, ← h_opn, ← hm_string] at frz_string
  unfold Has_s_laws_szData at hF_s_laws_szData
  rw [← hm_byte, ← hm_string] at hF_s_laws_szData
  unfold Has_s_laws_toData at hF_s_laws_toData
  rw [← hm_byte, ← hm_string] at hF_s_laws_toData
  unfold Has_s_spec_FormatData at hF_s_spec_FormatData
  rw [← hm_byte, ← hm_string] at hF_s_spec_FormatData
  unfold Has_s_impl_FormatData at hF_s_impl_FormatData
  rw [← hm_byte, ← hm_string] at hF_s_impl_FormatData
  unfold Has_s_laws_eqData at hF_s_laws_eqData
  rw [← hm_byte, ← hm_string] at hF_s_laws_eqData
  generalize hal : (fun (F : St → (Ex → St → Option (List Arg)) → Option (List Arg)) lv => aloop F lv fuel) = al
  rw [s_laws_FnExactFormatData, ← h_bnot, ← h_cmp, ← h_scmp]
  conv => lhs; cbv
  rw [hF_s_laws_szData a0 1048576]
  refine cO (fun hx2 => ?_) ?_
  · rw [hx2]
    first | done | rfl
  · rintro r1 hx2
    rw [hx2]
    conv => lhs; cbv
    refine cC (fun hb3 => ?_) (fun hb3 => ?_)
    · rw [hb3]
      conv => lhs; cbv
      first | done | rfl
    · rw [hb3]
      conv => lhs; cbv
      rw [hF_s_laws_toData a0]
      refine cO (fun hx5 => ?_) ?_
      · rw [hx5]
        first | done | rfl
      · rintro r4 hx5
        rw [hx5]
        conv => lhs; cbv
        rw [frz_string]
        conv => lhs; cbv
        rw [frz_byte]
        conv => lhs; cbv
        rw [frz_string]
        conv => lhs; cbv
        rw [hF_s_spec_FormatData r4]
        refine cO (fun hx7 => ?_) ?_
        · rw [hx7]
          first | done | rfl
        · rintro r6 hx7
          rw [hx7]
          conv => lhs; cbv
          rw [hF_s_laws_toData a0]
          rw [hx5]
          conv => lhs; cbv
          rw [frz_string]
          conv => lhs; cbv
          rw [frz_byte]
          conv => lhs; cbv
          rw [frz_string]
          conv => lhs; cbv
          rw [hF_s_impl_FormatData r4]
          refine cO (fun hx10 => ?_) ?_
          · rw [hx10]
            first | done | rfl
          · rintro r9 hx10
            rw [hx10]
            conv => lhs; cbv
            refine cC (fun hb11 => ?_) (fun hb11 => ?_)
            · rw [hb11]
              conv => lhs; cbv
              first | done | rfl
            · rw [hb11]
              conv => lhs; cbv
              rw [hF_s_laws_toData a0]
              rw [hx5]
              conv => lhs; cbv
              rw [frz_string]
              conv => lhs; cbv
              rw [frz_byte]
              conv => lhs; cbv
              rw [frz_string]
              conv => lhs; cbv
              rw [frz_string]
              conv => lhs; cbv
              rw [frz_byte]
              conv => lhs; cbv
              rw [frz_string]
              conv => lhs; cbv
              rw [hF_s_laws_eqData r4 r4]
              refine cO (fun hx14 => ?_) ?_
              · rw [hx14]
                first | done | rfl
              · rintro r13 hx14
                rw [hx14]
                conv => lhs; cbv
                refine cC (fun hb15 => ?_) (fun hb15 => ?_)
                · rw [hb15]
                  conv => lhs; cbv
                  first | done | rfl
                · rw [hb15]
                  conv => lhs; cbv
                  first | done | rfl
def s_laws_szTableEntry (a0 : DTableEntry) (a1 : Int) : Option (Int) := (s_laws_szName a0.name a1).bind fun r1 => bif prims.cmp .lss r1 0 then (some (-1)) else (some r1)
def Has_s_laws_szTableEntry (F : Fns) : Prop := ∀ (a0 : DTableEntry) (a1 : Int), F 96 [.a [.sl 9 1 (List.map eS a0.name), .at (.int .i64 a0.value)], .v (.at (.int .i64 a1))] = (s_laws_szTableEntry a0 a1).bind fun r => some [.v (.at (.int .i64 r))]
set_option maxHeartbeats 40000000 in
theorem e_s_laws_szTableEntry (F : Fns) (hF_s_laws_szName : Has_s_laws_szName F) (a0 : DTableEntry) (a1 : Int) : evBody prims (fun F lv => aloop F lv fuel) TY F ⟨Tryd.f96, Tryd.f96.body.getD .skip, fun _ => []⟩ [.a [.sl 9 1 (List.map eS a0.name), .at (.int .i64 a0.value)], .v (.at (.int .i64 a1))] = (s_laws_szTableEntry a0 a1).bind fun r => some [.v (.at (.int .i64 r))] := by
  obtain ⟨p, hp⟩ : ∃ p : Prims, p = prims := ⟨_, rfl⟩
  obtain ⟨m_string, hm_string⟩ : ∃ m, m = List.map eS := ⟨_, rfl⟩
  rw [← hp]
  rw [← hm_string]
  obtain ⟨p_arith, p_cmp, p_wrap, p_scmp, p_scat, p_catOk, p_ssize, p_sat, p_ssub, p_bytes, p_str, p_bnot, p_beq, p_min, p_max, p_len, p_int, p_nth, p_sub, p_rsub, p_ridx, p_rnth, p_rset, p_rapp, p_rlen, p_addN, p_full, p_fits, p_frz, p_own, p_opn, p_lend, p_rmov, p_rout, p_both, p_yI, p_ofB, p_byW, p_mkN, p_rep, p_copy⟩ := p
  have h_cmp : p_cmp = prims.cmp := congrArg Prims.cmp hp
  clear hp
  unfold Has_s_laws_szName at hF_s_laws_szName
  rw [← hm_string] at hF_s_laws_szName
  generalize hal : (fun (F : St → (Ex → St → Option (List Arg)) → Option (List Arg)) lv => aloop F lv fuel) = al
  rw [s_laws_szTableEntry, ← h_cmp]
  conv => lhs; cbv
  rw [hF_s_laws_szName a0.name a1]
  refine cO (fun hx2 => ?_) ?_
  · rw [hx2]
    first | done | rfl
  · rintro r1 hx2
    rw [hx2]
    conv => lhs; cbv
    refine cC (fun hb3 => ?_) (fun hb3 => ?_)
    · rw [hb3]
      conv => lhs; cbv
      first | done | rfl
    · rw [hb3]
      conv => lhs; cbv
      first | done | rfl
def s_laws_szTableEntryS_l1 (a0 : (List DTableEntry)) : (Int × Int) → Option ((Int × Int) ⊕ ((Int × Int) ⊕ (Int)))
  | (v2, v3) => bif prims.cmp .lss v3 (prims.int (prims.len (List.map eTableEntry a0))) then ((nthI a0 v3).bind fun x5 => (s_laws_szTableEntry x5 v2).bind fun r7 => bif prims.cmp .lss r7 0 then (some (.inr (.inr ((-1))))) else (some (.inl (r7, prims.arith .add .i64 v3 1)))) else (some (.inr (.inl (v2, v3))))
def s_laws_szTableEntryS (a0 : (List DTableEntry)) (a1 : Int) : Option (Int) := bif prims.cmp .lss (prims.arith .sub .i64 a1 (prims.int (prims.len (List.map eTableEntry a0)))) 0 then (some (-1)) else ((whileO (s_laws_szTableEntryS_l1 a0) fuel (prims.arith .sub .i64 a1 (prims.int (prims.len (List.map eTableEntry a0))), 0)).bind fun g => match g with | .inl (w10, w11) => (some w10) | .inr (w12) => (some w12))
def Has_s_laws_szTableEntryS (F : Fns) : Prop := ∀ (a0 : (List DTableEntry)) (a1 : Int), F 47 [.v (.sl 112 2 (List.map eTableEntry a0)), .v (.at (.int .i64 a1))] = (s_laws_szTableEntryS a0 a1).bind fun r => some [.v (.at (.int .i64 r))]
set_option maxHeartbeats 40000000 in
theorem e_s_laws_szTableEntryS (F : Fns) (hF_s_laws_szTableEntry : Has_s_laws_szTableEntry F) (a0 : (List DTableEntry)) (a1 : Int) : evBody prims (fun F lv => aloop F lv fuel) TY F ⟨Tryd.f47, Tryd.f47.body.getD .skip, fun id => if id = 5 then [0, 1, 5] else []⟩ [.v (.sl 112 2 (List.map eTableEntry a0)), .v (.at (.int .i64 a1))] = (s_laws_szTableEntryS a0 a1).bind fun r => some [.v (.at (.int .i64 r))] := by
  obtain ⟨p, hp⟩ : ∃ p : Prims, p = prims := ⟨_, rfl⟩
  obtain ⟨m_TableEntry, hm_TableEntry⟩ : ∃ m, m = List.map eTableEntry := ⟨_, rfl⟩
  obtain ⟨m_string, hm_string⟩ : ∃ m, m = List.map eS := ⟨_, rfl⟩
  rw [← hp]
  rw [← hm_TableEntry]
  obtain ⟨p_arith, p_cmp, p_wrap, p_scmp, p_scat, p_catOk, p_ssize, p_sat, p_ssub, p_bytes, p_str, p_bnot, p_beq, p_min, p_max, p_len, p_int, p_nth, p_sub, p_rsub, p_ridx, p_rnth, p_rset, p_rapp, p_rlen, p_addN, p_full, p_fits, p_frz, p_own, p_opn, p_lend, p_rmov, p_rout, p_both, p_yI, p_ofB, p_byW, p_mkN, p_rep, p_copy⟩ := p
  have h_arith : p_arith = prims.arith := congrArg Prims.arith hp
  have h_cmp : p_cmp = prims.cmp := congrArg Prims.cmp hp
  have h_int : p_int = prims.int := congrArg Prims.int hp
  have h_len : p_len = prims.len := congrArg Prims.len hp
  have h_nth : p_nth = prims.nth := congrArg Prims.nth hp
  clear hp
  have nth_TableEntry := @nthF_TableEntry
  rw [← h_nth, ← hm_TableEntry, ← hm_string] at nth_TableEntry
  unfold Has_s_laws_szTableEntry at hF_s_laws_szTableEntry
  rw [← hm_string] at hF_s_laws_szTableEntry
  generalize hal : (fun (F : St → (Ex → St → Option (List Arg)) → Option (List Arg)) lv => aloop F lv fuel) = al
  rw [s_laws_szTableEntryS, ← h_arith, ← h_cmp, ← h_int, ← h_len, ← hm_TableEntry]
  conv => lhs; cbv
  refine cC (fun hb1 => ?_) (fun hb1 => ?_)
  · rw [hb1]
    conv => lhs; cbv
    first | done | rfl
  · rw [hb1]
    conv => lhs; cbv
    refine (loop_al hal (fun x => match x with | (v2, v3) => ⟨[.c (.rd true 112 2 (m_TableEntry a0)), .c (.at (.int .i64 v2)), dd, dd, dd, .c (.at (.int .i64 v3)), dd, dd, dd, dd, dd, dd, dd, dd, dd, dd, dd, dd, dd, dd, dd, dd, dd, dd, dd, dd, dd], [], 1⟩) (s_laws_szTableEntryS_l1 a0) (fun K g => match g with | .inl (v2, v3) => K (.exit 0) ⟨[.c (.rd true 112 2 (m_TableEntry a0)), .c (.at (.int .i64 v2)), dd, dd, dd, .c (.at (.int .i64 v3)), dd, dd, dd, dd, dd, dd, .c (.at (.int .i64 v3)), .c (.rd true 112 2 (m_TableEntry a0)), .c (.at (.int .i64 (p_int (p_len (m_TableEntry a0))))), .c (.at (.bool false)), dd, dd, dd, dd, dd, dd, dd, dd, dd, dd, dd], [], 2⟩ | .inr (r) => some [.v (.at (.int .i64 r))]) ?_ (p_arith .sub .i64 a1 (p_int (p_len (m_TableEntry a0))), 0) _ (rfl)).trans (cL ?_)
    · rintro K1 hr1 ⟨v2, v3⟩ R1
      rw [s_laws_szTableEntryS_l1, ← h_arith, ← h_cmp, ← h_int, ← h_len, ← hm_TableEntry]
      conv => lhs; cbv
      refine cC (fun hb4 => ?_) (fun hb4 => ?_)
      · rw [hb4]
        conv => lhs; cbv
        rw [nth_TableEntry]
        refine cO (fun hx6 => ?_) ?_
        · rw [hx6]
          first | done | rfl
        · rintro x5 hx6
          rw [hx6]
          conv => lhs; cbv
          rw [hF_s_laws_szTableEntry x5 v2]
          refine cO (fun hx8 => ?_) ?_
          · rw [hx8]
            first | done | rfl
          · rintro r7 hx8
            rw [hx8]
            conv => lhs; cbv
            refine cC (fun hb9 => ?_) (fun hb9 => ?_)
            · rw [hb9]
              conv => lhs; cbv
              rw [hr1]
              conv => lhs; cbv
              first | done | rfl
            · rw [hb9]
              conv => lhs; cbv
              first | done | rfl
      · rw [hb4]
        conv => lhs; cbv
        first | done | rfl
    · rintro (⟨w10, w11⟩ | w12)
      · conv => lhs; cbv
        first | done | rfl
      · rfl
def s_laws_szStateVector (a0 : (List DTableEntry)) (a1 : Int) : Option (Int) := (s_laws_szTableEntryS a0 a1).bind fun r1 => bif prims.cmp .lss r1 0 then (some (-1)) else (some r1)
def Has_s_laws_szStateVector (F : Fns) : Prop := ∀ (a0 : (List DTableEntry)) (a1 : Int), F 13 [.a [.sl 112 2 (List.map eTableEntry a0)], .v (.at (.int .i64 a1))] = (s_laws_szStateVector a0 a1).bind fun r => some [.v (.at (.int .i64 r))]
set_option maxHeartbeats 40000000 in
theorem e_s_laws_szStateVector (F : Fns) (hF_s_laws_szTableEntryS : Has_s_laws_szTableEntryS F) (a0 : (List DTableEntry)) (a1 : Int) : evBody prims (fun F lv => aloop F lv fuel) TY F ⟨Tryd.f13, Tryd.f13.body.getD .skip, fun _ => []⟩ [.a [.sl 112 2 (List.map eTableEntry a0)], .v (.at (.int .i64 a1))] = (s_laws_szStateVector a0 a1).bind fun r => some [.v (.at (.int .i64 r))] := by
  obtain ⟨p, hp⟩ : ∃ p : Prims, p = prims := ⟨_, rfl⟩
  obtain ⟨m_TableEntry, hm_TableEntry⟩ : ∃ m, m = List.map eTableEntry := ⟨_, rfl⟩
  rw [← hp]
  rw [← hm_TableEntry]
  obtain ⟨p_arith, p_cmp, p_wrap, p_scmp, p_scat, p_catOk, p_ssize, p_sat, p_ssub, p_bytes, p_str, p_bnot, p_beq, p_min, p_max, p_len, p_int, p_nth, p_sub, p_rsub, p_ridx, p_rnth, p_rset, p_rapp, p_rlen, p_addN, p_full, p_fits, p_frz, p_own, p_opn, p_lend, p_rmov, p_rout, p_both, p_yI, p_ofB, p_byW, p_mkN, p_rep, p_copy⟩ := p
  have h_cmp : p_cmp = prims.cmp := congrArg Prims.cmp hp
  clear hp
  unfold Has_s_laws_szTableEntryS at hF_s_laws_szTableEntryS
  rw [← hm_TableEntry] at hF_s_laws_szTableEntryS
  generalize hal : (fun (F : St → (Ex → St → Option (List Arg)) → Option (List Arg)) lv => aloop F lv fuel) = al
  rw [s_laws_szStateVector, ← h_cmp]
  conv => lhs; cbv
  rw [hF_s_laws_szTableEntryS a0 a1]
  refine cO (fun hx2 => ?_) ?_
  · rw [hx2]
    first | done | rfl
  · rintro r1 hx2
    rw [hx2]
    conv => lhs; cbv
    refine cC (fun hb3 => ?_) (fun hb3 => ?_)
    · rw [hb3]
      conv => lhs; cbv
      first | done | rfl
    · rw [hb3]
      conv => lhs; cbv
      first | done | rfl
def s_laws_toTableEntry (a0 : DTableEntry) : Option (DTableEntry) := (s_laws_toName a0.name).bind fun r1 => some (⟨r1, a0.value⟩ : DTableEntry)
def Has_s_laws_toTableEntry (F : Fns) : Prop := ∀ (a0 : DTableEntry), F 97 [.a [.sl 9 1 (List.map eS a0.name), .at (.int .i64 a0.value)]] = (s_laws_toTableEntry a0).bind fun r => some [.a [.sl 9 1 (List.map eS r.name), .at (.int .i64 r.value)]]
set_option maxHeartbeats 40000000 in
theorem e_s_laws_toTableEntry (F : Fns) (hF_s_laws_toName : Has_s_laws_toName F) (a0 : DTableEntry) : evBody prims (fun F lv => aloop F lv fuel) TY F ⟨Tryd.f97, Tryd.f97.body.getD .skip, fun _ => []⟩ [.a [.sl 9 1 (List.map eS a0.name), .at (.int .i64 a0.value)]] = (s_laws_toTableEntry a0).bind fun r => some [.a [.sl 9 1 (List.map eS r.name), .at (.int .i64 r.value)]] := by
  obtain ⟨p, hp⟩ : ∃ p : Prims, p = prims := ⟨_, rfl⟩
  obtain ⟨m_string, hm_string⟩ : ∃ m, m = List.map eS := ⟨_, rfl⟩
  rw [← hp]
  rw [← hm_string]
  obtain ⟨p_arith, p_cmp, p_wrap, p_scmp, p_scat, p_catOk, p_ssize, p_sat, p_ssub, p_bytes, p_str, p_bnot, p_beq, p_min, p_max, p_len, p_int, p_nth, p_sub, p_rsub, p_ridx, p_rnth, p_rset, p_rapp, p_rlen, p_addN, p_full, p_fits, p_frz, p_own, p_opn, p_lend, p_rmov, p_rout, p_both, p_yI, p_ofB, p_byW, p_mkN, p_rep, p_copy⟩ := p
  have h_full : p_full = prims.full := congrArg Prims.full hp
  have h_len : p_len = prims.len := congrArg Prims.len hp
  have h_opn : p_opn = prims.opn := congrArg Prims.opn hp
  have h_own : p_own = prims.own := congrArg Prims.own hp
  clear hp
  have full_string := @fullF_string
  rw [← h_full, ← h_len, ← h_opn, ← hm_string] at full_string
  have own_string := @ownF_string
  rw [← h_opn, ← h_own, ← hm_string] at own_string
  unfold Has_s_laws_toName at hF_s_laws_toName
  rw [← hm_string] at hF_s_laws_toName
  generalize hal : (fun (F : St → (Ex → St → Option (List Arg)) → Option (List Arg)) lv => aloop F lv fuel) = al
  rw [s_laws_toTableEntry]
  conv => lhs; cbv
  rw [hF_s_laws_toName a0.name]
  refine cO (fun hx2 => ?_) ?_
  · rw [hx2]
    first | done | rfl
  · rintro r1 hx2
    rw [hx2]
    conv => lhs; cbv
    rw [if_pos (full_string _)]
    conv => lhs; cbv
    rw [own_string]
    conv => lhs; cbv
    first | done | rfl
def s_laws_toTableEntryS_l1 (a0 : (List DTableEntry)) : (Int × (List DTableEntry)) → Option ((Int × (List DTableEntry)) ⊕ ((Int × (List DTableEntry))))
  | (v3, v4) => bif prims.cmp .lss v3 (prims.int (prims.len (List.map eTableEntry a0))) then ((nthI a0 v3).bind fun x6 => (s_laws_toTableEntry x6).bind fun r8 => (prims.ridx 0 (prims.len (List.map eTableEntry v4)) v3).bind fun x10 => (v4[x10]?).bind fun x12 => some (.inl (prims.arith .add .i64 v3 1, v4.set x10 r8))) else (some (.inr (v3, v4)))
def s_laws_toTableEntryS (a0 : (List DTableEntry)) : Option ((List DTableEntry)) := (mkSl ((⟨[], 0⟩ : DTableEntry) : DTableEntry) (prims.int (prims.len (List.map eTableEntry a0))) (prims.int (prims.len (List.map eTableEntry a0))) 32).bind fun x1 => (whileO (s_laws_toTableEntryS_l1 a0) fuel (0, x1)).bind fun ⟨w14, w15⟩ => some w15
def Has_s_laws_toTableEntryS (F : Fns) : Prop := ∀ (a0 : (List DTableEntry)), F 48 [.v (.sl 112 2 (List.map eTableEntry a0))] = (s_laws_toTableEntryS a0).bind fun r => some [.v (.sl 112 2 (List.map eTableEntry r))]
set_option maxHeartbeats 40000000 in
theorem e_s_laws_toTableEntryS (F : Fns) (hF_s_laws_toTableEntry : Has_s_laws_toTableEntry F) (a0 : (List DTableEntry)) : evBody prims (fun F lv => aloop F lv fuel) TY F ⟨Tryd.f48, Tryd.f48.body.getD .skip, fun id => if id = 3 then [0, 3, 4] else []⟩ [.v (.sl 112 2 (List.map eTableEntry a0))] = (s_laws_toTableEntryS a0).bind fun r => some [.v (.sl 112 2 (List.map eTableEntry r))] := by
  obtain ⟨p, hp⟩ : ∃ p : Prims, p = prims := ⟨_, rfl⟩
  obtain ⟨m_TableEntry, hm_TableEntry⟩ : ∃ m, m = List.map eTableEntry := ⟨_, rfl⟩
  obtain ⟨m_string, hm_string⟩ : ∃ m, m = List.map eS := ⟨_, rfl⟩
  rw [← hp]
  rw [← hm_TableEntry]
  obtain ⟨p_arith, p_cmp, p_wrap, p_scmp, p_scat, p_catOk, p_ssize, p_sat, p_ssub, p_bytes, p_str, p_bnot, p_beq, p_min, p_max, p_len, p_int, p_nth, p_sub, p_rsub, p_ridx, p_rnth, p_rset, p_rapp, p_rlen, p_addN, p_full, p_fits, p_frz, p_own, p_opn, p_lend, p_rmov, p_rout, p_both, p_yI, p_ofB, p_byW, p_mkN, p_rep, p_copy⟩ := p
  have h_arith : p_arith = prims.arith := congrArg Prims.arith hp
  have h_cmp : p_cmp = prims.cmp := congrArg Prims.cmp hp
  have h_full : p_full = prims.full := congrArg Prims.full hp
  have h_int : p_int = prims.int := congrArg Prims.int hp
  have h_len : p_len = prims.len := congrArg Prims.len hp
  have h_mkN : p_mkN = prims.mkN := congrArg Prims.mkN hp
  have h_nth : p_nth = prims.nth := congrArg Prims.nth hp
  have h_opn : p_opn = prims.opn := congrArg Prims.opn hp
  have h_own : p_own = prims.own := congrArg Prims.own hp
  have h_rep : p_rep = prims.rep := congrArg Prims.rep hp
  have h_ridx : p_ridx = prims.ridx := congrArg Prims.ridx hp
  have h_rnth : p_rnth = prims.rnth := congrArg Prims.rnth hp
  have h_rset : p_rset = prims.rset := congrArg Prims.rset hp
  clear hp
  have full_TableEntry := @fullF_TableEntry
  rw [← h_full, ← h_len, ← h_opn, ← hm_TableEntry] at full_TableEntry
  have full_string := @fullF_string
  rw [← h_full, ← h_len, ← h_opn, ← hm_string] at full_string
  have lset_TableEntry := @lsetF_TableEntry
  rw [← h_len, ← hm_TableEntry] at lset_TableEntry
  have mkn_TableEntry := @mknF_TableEntry
  rw [← h_len, ← h_mkN, ← hm_TableEntry] at mkn_TableEntry
  have nth_TableEntry := @nthF_TableEntry
  rw [← h_nth, ← hm_TableEntry, ← hm_string] at nth_TableEntry
  have own_TableEntry := @ownF_TableEntry
  rw [← h_opn, ← h_own, ← hm_TableEntry] at own_TableEntry
  have own_string := @ownF_string
  rw [← h_opn, ← h_own, ← hm_string] at own_string
  have rep_TableEntry := @repF_TableEntry
  rw [← h_len, ← h_opn, ← h_rep, ← hm_TableEntry] at rep_TableEntry
  have rnth_TableEntry := @rnthF_TableEntry
  rw [← h_opn, ← h_rnth, ← hm_TableEntry, ← hm_string] at rnth_TableEntry
  have rset_TableEntry := @rsetF_TableEntry
  rw [← h_opn, ← h_rset, ← hm_TableEntry, ← hm_string] at rset_TableEntry
  unfold Has_s_laws_toTableEntry at hF_s_laws_toTableEntry
  rw [← hm_string] at hF_s_laws_toTableEntry
  generalize hal : (fun (F : St → (Ex → St → Option (List Arg)) → Option (List Arg)) lv => aloop F lv fuel) = al
  rw [s_laws_toTableEntryS, ← h_int, ← h_len, ← hm_TableEntry]
  conv => lhs; cbv
  rw [mkn_TableEntry]
  refine cO (fun hx2 => ?_) ?_
  · rw [hx2]
    first | done | rfl
  · rintro x1 hx2
    rw [hx2]
    conv => lhs; cbv
    rw [rep_TableEntry _ _ _ hx2]
    conv => lhs; cbv
    refine (loop_al hal (fun x => match x with | (v3, v4) => ⟨[.c (.rd true 112 2 (m_TableEntry a0)), dd, dd, .c (.row (0, 0, 0) 112 2 0 (p_len (m_TableEntry v4))), .c (.at (.int .i64 v3)), dd, dd, dd, dd, dd, dd, dd, dd, dd, dd, dd, dd, dd, dd, dd, dd, dd, dd], [((0, 0, 0), ⟨true, false, 112, 2, p_opn (m_TableEntry v4)⟩)], 1⟩) (s_laws_toTableEntryS_l1 a0) (fun K g => match g with | (v3, v4) => K (.exit 0) ⟨[.c (.rd true 112 2 (m_TableEntry a0)), dd, dd, .c (.row (0, 0, 0) 112 2 0 (p_len (m_TableEntry v4))), .c (.at (.int .i64 v3)), dd, dd, dd, .c (.at (.int .i64 v3)), .c (.rd true 112 2 (m_TableEntry a0)), .c (.at (.int .i64 (p_int (p_len (m_TableEntry a0))))), .c (.at (.bool false)), dd, dd, dd, dd, dd, dd, dd, dd, dd, dd, dd], [((0, 0, 0), ⟨true, false, 112, 2, p_opn (m_TableEntry v4)⟩)], 2⟩) ?_ (0, x1) _ (rfl)).trans (cL ?_)
    · rintro K1 hr1 ⟨v3, v4⟩ R1
      rw [s_laws_toTableEntryS_l1, ← h_arith, ← h_cmp, ← h_int, ← h_len, ← h_ridx, ← hm_TableEntry]
      conv => lhs; cbv
      refine cC (fun hb5 => ?_) (fun hb5 => ?_)
      · rw [hb5]
        conv => lhs; cbv
        rw [nth_TableEntry]
        refine cO (fun hx7 => ?_) ?_
        · rw [hx7]
          first | done | rfl
        · rintro x6 hx7
          rw [hx7]
          conv => lhs; cbv
          rw [hF_s_laws_toTableEntry x6]
          refine cO (fun hx9 => ?_) ?_
          · rw [hx9]
            first | done | rfl
          · rintro r8 hx9
            rw [hx9]
            conv => lhs; cbv
            refine cO (fun hx11 => ?_) ?_
            · rw [hx11]
              first | done | rfl
            · rintro x10 hx11
              rw [hx11]
              conv => lhs; cbv
              rw [rnth_TableEntry]
              refine cO (fun hx13 => ?_) ?_
              · rw [hx13]
                first | done | rfl
              · rintro x12 hx13
                rw [hx13]
                conv => lhs; cbv
                rw [if_pos (full_string _)]
                conv => lhs; cbv
                rw [own_string]
                conv => lhs; cbv
                rw [rset_TableEntry]
                try conv => lhs; rw [← lset_TableEntry v4 x10 r8]
                conv => lhs; cbv
                first | done | rfl
      · rw [hb5]
        conv => lhs; cbv
        first | done | rfl
    · rintro ⟨w14, w15⟩
      conv => lhs; cbv
      rw [if_pos (full_TableEntry _)]
      conv => lhs; cbv
      rw [own_TableEntry]
      conv => lhs; cbv
      first | done | rfl
def s_laws_toStateVector (a0 : (List DTableEntry)) : Option ((List DTableEntry)) := (s_laws_toTableEntryS a0).bind fun r1 => some r1
def Has_s_laws_toStateVector (F : Fns) : Prop := ∀ (a0 : (List DTableEntry)), F 15 [.a [.sl 112 2 (List.map eTableEntry a0)]] = (s_laws_toStateVector a0).bind fun r => some [.a [.sl 112 2 (List.map eTableEntry r)]]
set_option maxHeartbeats 40000000 in
theorem e_s_laws_toStateVector (F : Fns) (hF_s_laws_toTableEntryS : Has_s_laws_toTableEntryS F) (a0 : (List DTableEntry)) : evBody prims (fun F lv => aloop F lv fuel) TY F ⟨Tryd.f15, Tryd.f15.body.getD .skip, fun _ => []⟩ [.a [.sl 112 2 (List.map eTableEntry a0)]] = (s_laws_toStateVector a0).bind fun r => some [.a [.sl 112 2 (List.map eTableEntry r)]] := by
  obtain ⟨p, hp⟩ : ∃ p : Prims, p = prims := ⟨_, rfl⟩
  obtain ⟨m_TableEntry, hm_TableEntry⟩ : ∃ m, m = List.map eTableEntry := ⟨_, rfl⟩
  rw [← hp]
  rw [← hm_TableEntry]
  obtain ⟨p_arith, p_cmp, p_wrap, p_scmp, p_scat, p_catOk, p_ssize, p_sat, p_ssub, p_bytes, p_str, p_bnot, p_beq, p_min, p_max, p_len, p_int, p_nth, p_sub, p_rsub, p_ridx, p_rnth, p_rset, p_rapp, p_rlen, p_addN, p_full, p_fits, p_frz, p_own, p_opn, p_lend, p_rmov, p_rout, p_both, p_yI, p_ofB, p_byW, p_mkN, p_rep, p_copy⟩ := p
  have h_full : p_full = prims.full := congrArg Prims.full hp
  have h_len : p_len = prims.len := congrArg Prims.len hp
  have h_opn : p_opn = prims.opn := congrArg Prims.opn hp
  have h_own : p_own = prims.own := congrArg Prims.own hp
  clear hp
  have full_TableEntry := @fullF_TableEntry
  rw [← h_full, ← h_len, ← h_opn, ← hm_TableEntry] at full_TableEntry
  have own_TableEntry := @ownF_TableEntry
  rw [← h_opn, ← h_own, ← hm_TableEntry] at own_TableEntry
  unfold Has_s_laws_toTableEntryS at hF_s_laws_toTableEntryS
  rw [← hm_TableEntry] at hF_s_laws_toTableEntryS
  generalize hal : (fun (F : St → (Ex → St → Option (List Arg)) → Option (List Arg)) lv => aloop F lv fuel) = al
  rw [s_laws_toStateVector]
  conv => lhs; cbv
  rw [hF_s_laws_toTableEntryS a0]
  refine cO (fun hx2 => ?_) ?_
  · rw [hx2]
    first | done | rfl
  · rintro r1 hx2
    rw [hx2]
    conv => lhs; cbv
    rw [if_pos (full_TableEntry _)]
    conv => lhs; cbv
    rw [own_TableEntry]
    conv => lhs; cbv
    first | done | rfl
def s_spec_FormatVector_l1 (a0 : (List DTableEntry)) : (ByteArray × Int) → Option ((ByteArray × Int) ⊕ ((ByteArray × Int)))
  | (v1, v2) => bif prims.cmp .lss v2 (prims.int (prims.len (List.map eTableEntry a0))) then (bif prims.cmp .gtr v2 0 then (bif prims.catOk v1 (ByteArray.mk (Array.mk [32])) then ((nthI a0 v2).bind fun x6 => (s_spec_FormatName x6.name).bind fun r8 => bif prims.catOk (prims.scat v1 (ByteArray.mk (Array.mk [32]))) r8 then (bif prims.catOk (prims.scat (prims.scat v1 (ByteArray.mk (Array.mk [32]))) r8) (ByteArray.mk (Array.mk [58])) then ((s_spec_FormatInt x6.value).bind fun r13 => bif prims.catOk (prims.scat (prims.scat (prims.scat v1 (ByteArray.mk (Array.mk [32]))) r8) (ByteArray.mk (Array.mk [58]))) r13 then (some (.inl (prims.scat (prims.scat (prims.scat (prims.scat v1 (ByteArray.mk (Array.mk [32]))) r8) (ByteArray.mk (Array.mk [58]))) r13, prims.arith .add .i64 v2 1))) else none) else none) else none) else none) else ((nthI a0 v2).bind fun x16 => (s_spec_FormatName x16.name).bind fun r18 => bif prims.catOk v1 r18 then (bif prims.catOk (prims.scat v1 r18) (ByteArray.mk (Array.mk [58])) then ((s_spec_FormatInt x16.value).bind fun r23 => bif prims.catOk (prims.scat (prims.scat v1 r18) (ByteArray.mk (Array.mk [58]))) r23 then (some (.inl (prims.scat (prims.scat (prims.scat v1 r18) (ByteArray.mk (Array.mk [58]))) r23, prims.arith .add .i64 v2 1))) else none) else none) else none)) else (some (.inr (v1, v2)))
def s_spec_FormatVector (a0 : (List DTableEntry)) : Option (ByteArray) := (whileO (s_spec_FormatVector_l1 a0) fuel ((ByteArray.mk (Array.mk [])), 0)).bind fun ⟨w26, w27⟩ => bif prims.cmp .eql (prims.int (prims.len (List.map eTableEntry a0))) 0 then (some (ByteArray.mk (Array.mk [45]))) else (some w26)
def Has_s_spec_FormatVector (F : Fns) : Prop := ∀ (a0 : (List DTableEntry)), F 14 [.a [.sl 112 2 (List.map eTableEntry a0)]] = (s_spec_FormatVector a0).bind fun r => some [.v (.at (.string r))]
set_option maxHeartbeats 40000000 in
theorem e_s_spec_FormatVector (F : Fns) (hF_s_spec_FormatName : Has_s_spec_FormatName F) (hF_s_spec_FormatInt : Has_s_spec_FormatInt F) (a0 : (List DTableEntry)) : evBody prims (fun F lv => aloop F lv fuel) TY F ⟨Tryd.f14, Tryd.f14.body.getD .skip, fun id => if id = 3 then [1, 3, 4] else []⟩ [.a [.sl 112 2 (List.map eTableEntry a0)]] = (s_spec_FormatVector a0).bind fun r => some [.v (.at (.string r))] := by
  obtain ⟨p, hp⟩ : ∃ p : Prims, p = prims := ⟨_, rfl⟩
  obtain ⟨m_TableEntry, hm_TableEntry⟩ : ∃ m, m = List.map eTableEntry := ⟨_, rfl⟩
  obtain ⟨m_string, hm_string⟩ : ∃ m, m = List.map eS := ⟨_, rfl⟩
  rw [← hp]
  rw [← hm_TableEntry]
  obtain ⟨p_arith, p_cmp, p_wrap, p_scmp, p_scat, p_catOk, p_ssize, p_sat, p_ssub, p_bytes, p_str, p_bnot, p_beq, p_min, p_max, p_len, p_int, p_nth, p_sub, p_rsub, p_ridx, p_rnth, p_rset, p_rapp, p_rlen, p_addN, p_full, p_fits, p_frz, p_own, p_opn, p_lend, p_rmov, p_rout, p_both, p_yI, p_ofB, p_byW, p_mkN, p_rep, p_copy⟩ := p
  have h_arith : p_arith = prims.arith := congrArg Prims.arith hp
  have h_catOk : p_catOk = prims.catOk := congrArg Prims.catOk hp
  have h_cmp : p_cmp = prims.cmp := congrArg Prims.cmp hp
  have h_int : p_int = prims.int := congrArg Prims.int hp
  have h_len : p_len = prims.len := congrArg Prims.len hp
  have h_nth : p_nth = prims.nth := congrArg Prims.nth hp
  have h_scat : p_scat = prims.scat := congrArg Prims.scat hp
  clear hp
  have nth_TableEntry := @nthF_TableEntry
  rw [← h_nth, ← hm_TableEntry, ← hm_string] at nth_TableEntry
  unfold Has_s_spec_FormatName at hF_s_spec_FormatName
  rw [← hm_string] at hF_s_spec_FormatName
  unfold Has_s_spec_FormatInt at hF_s_spec_FormatInt
  generalize hal : (fun (F : St → (Ex → St → Option (List Arg)) → Option (List Arg)) lv => aloop F lv fuel) = al
  rw [s_spec_FormatVector, ← h_cmp, ← h_int, ← h_len, ← hm_TableEntry]
  conv => lhs; cbv
  refine (loop_al hal (fun x => match x with | (v1, v2) => ⟨[dd, .c (.ptr (0, 0, 0) 1 0 0), dd, .c (.at (.string v1)), .c (.at (.int .i64 v2)), dd, dd, dd, dd, dd, dd, dd, dd, dd, dd, dd, dd, dd, dd, dd, dd, dd, dd, dd, dd, dd, dd, dd, dd, dd, dd, dd, dd, dd, dd, dd, dd, dd, dd], [((0, 0, 0), ⟨false, true, 43, 1, [[.rd true 112 2 (m_TableEntry a0)]]⟩)], 1⟩) (s_spec_FormatVector_l1 a0) (fun K g => match g with | (v1, v2) => K (.exit 0) ⟨[dd, .c (.ptr (0, 0, 0) 1 0 0), dd, .c (.at (.string v1)), .c (.at (.int .i64 v2)), .c (.at (.int .i64 v2)), .c (.ptr (0, 0, 0) 1 0 0), .c (.rd true 112 2 (m_TableEntry a0)), .c (.at (.int .i64 (p_int (p_len (m_TableEntry a0))))), .c (.at (.bool false)), dd, dd, dd, dd, dd, dd, dd, dd, dd, dd, dd, dd, dd, dd, dd, dd, dd, dd, dd, dd, dd, dd, dd, dd, dd, dd, dd, dd, dd], [((0, 0, 0), ⟨false, true, 43, 1, [[.rd true 112 2 (m_TableEntry a0)]]⟩)], 2⟩) ?_ ((ByteArray.mk (Array.mk [])), 0) _ (rfl)).trans (cL ?_)
  · rintro K1 hr1 ⟨v1, v2⟩ R1
    rw [s_spec_FormatVector_l1, ← h_arith, ← h_catOk, ← h_cmp, ← h_int, ← h_len, ← h_scat, ← hm_TableEntry]
    conv => lhs; cbv
    refine cC (fun hb3 => ?_) (fun hb3 => ?_)
    · rw [hb3]
      conv => lhs; cbv
      refine cC (fun hb4 => ?_) (fun hb4 => ?_)
      · rw [hb4]
        conv => lhs; cbv
        refine cC (fun hb5 => ?_) (fun hb5 => ?_)
        · rw [if_pos hb5]
          try rw [hb5]
          conv => lhs; cbv
          rw [nth_TableEntry]
          refine cO (fun hx7 => ?_) ?_
          · rw [hx7]
            first | done | rfl
          · rintro x6 hx7
            rw [hx7]
            conv => lhs; cbv
            rw [hF_s_spec_FormatName x6.name]
            refine cO (fun hx9 => ?_) ?_
            · rw [hx9]
              first | done | rfl
            · rintro r8 hx9
              rw [hx9]
              conv => lhs; cbv
              refine cC (fun hb10 => ?_) (fun hb10 => ?_)
              · rw [if_pos hb10]
                try rw [hb10]
                conv => lhs; cbv
                refine cC (fun hb11 => ?_) (fun hb11 => ?_)
                · rw [if_pos hb11]
                  try rw [hb11]
                  conv => lhs; cbv
                  rw [nth_TableEntry]
                  rw [hx7]
                  conv => lhs; cbv
                  rw [hF_s_spec_FormatInt x6.value]
                  refine cO (fun hx14 => ?_) ?_
                  · rw [hx14]
                    first | done | rfl
                  · rintro r13 hx14
                    rw [hx14]
                    conv => lhs; cbv
                    refine cC (fun hb15 => ?_) (fun hb15 => ?_)
                    · rw [if_pos hb15]
                      try rw [hb15]
                      conv => lhs; cbv
                      first | done | rfl
                    · rw [if_neg (Bool.eq_false_iff.1 hb15)]
                      try rw [hb15]
                      conv => lhs; cbv
                      first | done | rfl
                · rw [if_neg (Bool.eq_false_iff.1 hb11)]
                  try rw [hb11]
                  conv => lhs; cbv
                  first | done | rfl
              · rw [if_neg (Bool.eq_false_iff.1 hb10)]
                try rw [hb10]
                conv => lhs; cbv
                first | done | rfl
        · rw [if_neg (Bool.eq_false_iff.1 hb5)]
          try rw [hb5]
          conv => lhs; cbv
          first | done | rfl
      · rw [hb4]
        conv => lhs; cbv
        rw [nth_TableEntry]
        refine cO (fun hx17 => ?_) ?_
        · rw [hx17]
          first | done | rfl
        · rintro x16 hx17
          rw [hx17]
          conv => lhs; cbv
          rw [hF_s_spec_FormatName x16.name]
          refine cO (fun hx19 => ?_) ?_
          · rw [hx19]
            first | done | rfl
          · rintro r18 hx19
            rw [hx19]
            conv => lhs; cbv
            refine cC (fun hb20 => ?_) (fun hb20 => ?_)
            · rw [if_pos hb20]
              try rw [hb20]
              conv => lhs; cbv
              refine cC (fun hb21 => ?_) (fun hb21 => ?_)
              · rw [if_pos hb21]
                try rw [hb21]
                conv => lhs; cbv
                rw [nth_TableEntry]
                rw [hx17]
                conv => lhs; cbv
                rw [hF_s_spec_FormatInt x16.value]
                refine cO (fun hx24 => ?_) ?_
                · rw [hx24]
                  first | done | rfl
                · rintro r23 hx24
                  rw [hx24]
                  conv => lhs; cbv
                  refine cC (fun hb25 => ?_) (fun hb25 => ?_)
                  · rw [if_pos hb25]
                    try rw [hb25]
                    conv => lhs; cbv
                    first | done | rfl
                  · rw [if_neg (Bool.eq_false_iff.1 hb25)]
                    try rw [hb25]
                    conv => lhs; cbv
                    first | done | rfl
              · rw [if_neg (Bool.eq_false_iff.1 hb21)]
                try rw [hb21]
                conv => lhs; cbv
                first | done | rfl
            · rw [if_neg (Bool.eq_false_iff.1 hb20)]
              try rw [hb20]
              conv => lhs; cbv
              first | done | rfl
    · rw [hb3]
      conv => lhs; cbv
      first | done | rfl
  · rintro ⟨w26, w27⟩
    conv => lhs; cbv
    refine cC (fun hb28 => ?_) (fun hb28 => ?_)
    · rw [hb28]
      conv => lhs; cbv
      first | done | rfl
    · rw [hb28]
      conv => lhs; cbv
      first | done | rfl
def s_impl_orDash (a0 : (List ByteArray)) : Option (ByteArray) := bif prims.cmp .eql (prims.int (prims.len (List.map eS a0))) 0 then (some (ByteArray.mk (Array.mk [45]))) else ((s_strings_Join a0 (ByteArray.mk (Array.mk [32]))).bind fun r2 => some r2)
def Has_s_impl_orDash (F : Fns) : Prop := ∀ (a0 : (List ByteArray)), F 49 [.v (.sl 9 1 (List.map eS a0))] = (s_impl_orDash a0).bind fun r => some [.v (.at (.string r))]
set_option maxHeartbeats 40000000 in
theorem e_s_impl_orDash (F : Fns) (hF_s_strings_Join : Has_s_strings_Join F) (a0 : (List ByteArray)) : evBody prims (fun F lv => aloop F lv fuel) TY F ⟨Tryd.f49, Tryd.f49.body.getD .skip, fun _ => []⟩ [.v (.sl 9 1 (List.map eS a0))] = (s_impl_orDash a0).bind fun r => some [.v (.at (.string r))] := by
  obtain ⟨p, hp⟩ : ∃ p : Prims, p = prims := ⟨_, rfl⟩
  obtain ⟨m_string, hm_string⟩ : ∃ m, m = List.map eS := ⟨_, rfl⟩
  rw [← hp]
  rw [← hm_string]
  obtain ⟨p_arith, p_cmp, p_wrap, p_scmp, p_scat, p_catOk, p_ssize, p_sat, p_ssub, p_bytes, p_str, p_bnot, p_beq, p_min, p_max, p_len, p_int, p_nth, p_sub, p_rsub, p_ridx, p_rnth, p_rset, p_rapp, p_rlen, p_addN, p_full, p_fits, p_frz, p_own, p_opn, p_lend, p_rmov, p_rout, p_both, p_yI, p_ofB, p_byW, p_mkN, p_rep, p_copy⟩ := p
  have h_cmp : p_cmp = prims.cmp := congrArg Prims.cmp hp
  have h_int : p_int = prims.int := congrArg Prims.int hp
  have h_len : p_len = prims.len := congrArg Prims.len hp
  clear hp
  unfold Has_s_strings_Join at hF_s_strings_Join
  rw [← hm_string] at hF_s_strings_Join
  generalize hal : (fun (F : St → (Ex → St → Option (List Arg)) → Option (List Arg)) lv => aloop F lv fuel) = al
  rw [s_impl_orDash, ← h_cmp, ← h_int, ← h_len, ← hm_string]
  conv => lhs; cbv
  refine cC (fun hb1 => ?_) (fun hb1 => ?_)
  · rw [hb1]
    conv => lhs; cbv
    first | done | rfl
  · rw [hb1]
    conv => lhs; cbv
    rw [hF_s_strings_Join a0 (ByteArray.mk (Array.mk [32]))]
    refine cO (fun hx3 => ?_) ?_
    · rw [hx3]
      first | done | rfl
    · rintro r2 hx3
      rw [hx3]
      conv => lhs; cbv
      first | done | rfl
def s_impl_FormatVector_l1 (a0 : (List DTableEntry)) : (Int × (List ByteArray)) → Option ((Int × (List ByteArray)) ⊕ ((Int × (List ByteArray))))
  | (v1, v2) => bif prims.cmp .lss v1 (prims.int (prims.len (List.map eTableEntry a0))) then ((nthI a0 v1).bind fun x4 => (s_impl_FormatName x4.name).bind fun r6 => bif prims.catOk r6 (ByteArray.mk (Array.mk [58])) then ((s_impl_FormatInt x4.value).bind fun r9 => bif prims.catOk (prims.scat r6 (ByteArray.mk (Array.mk [58]))) r9 then (bif prims.fits (prims.len (List.map eS v2)) (prims.rlen (prims.opn (List.map eS [prims.scat (prims.scat r6 (ByteArray.mk (Array.mk [58]))) r9]))) 16 then (some (.inl (prims.arith .add .i64 v1 1, v2 ++ [prims.scat (prims.scat r6 (ByteArray.mk (Array.mk [58]))) r9]))) else none) else none) else none) else (some (.inr (v1, v2)))
def s_impl_FormatVector (a0 : (List DTableEntry)) : Option (ByteArray) := (whileO (s_impl_FormatVector_l1 a0) fuel (0, [])).bind fun ⟨w13, w14⟩ => (s_impl_orDash w14).bind fun r15 => some r15
def Has_s_impl_FormatVector (F : Fns) : Prop := ∀ (a0 : (List DTableEntry)), F 16 [.a [.sl 112 2 (List.map eTableEntry a0)]] = (s_impl_FormatVector a0).bind fun r => some [.v (.at (.string r))]
set_option maxHeartbeats 40000000 in
theorem e_s_impl_FormatVector (F : Fns) (hF_s_impl_FormatName : Has_s_impl_FormatName F) (hF_s_impl_FormatInt : Has_s_impl_FormatInt F) (hF_s_impl_orDash : Has_s_impl_orDash F) (a0 : (List DTableEntry)) : evBody prims (fun F lv => aloop F lv fuel) TY F ⟨Tryd.f16, Tryd.f16.body.getD .skip, fun id => if id = 3 then [3, 8, 9, 10] else []⟩ [.a [.sl 112 2 (List.map eTableEntry a0)]] = (s_impl_FormatVector a0).bind fun r => some [.v (.at (.string r))] := by
  obtain ⟨p, hp⟩ : ∃ p : Prims, p = prims := ⟨_, rfl⟩
  obtain ⟨m_TableEntry, hm_TableEntry⟩ : ∃ m, m = List.map eTableEntry := ⟨_, rfl⟩
  obtain ⟨m_string, hm_string⟩ : ∃ m, m = List.map eS := ⟨_, rfl⟩
  rw [← hp]
  rw [← hm_TableEntry]
  obtain ⟨p_arith, p_cmp, p_wrap, p_scmp, p_scat, p_catOk, p_ssize, p_sat, p_ssub, p_bytes, p_str, p_bnot, p_beq, p_min, p_max, p_len, p_int, p_nth, p_sub, p_rsub, p_ridx, p_rnth, p_rset, p_rapp, p_rlen, p_addN, p_full, p_fits, p_frz, p_own, p_opn, p_lend, p_rmov, p_rout, p_both, p_yI, p_ofB, p_byW, p_mkN, p_rep, p_copy⟩ := p
  have h_addN : p_addN = prims.addN := congrArg Prims.addN hp
  have h_arith : p_arith = prims.arith := congrArg Prims.arith hp
  have h_catOk : p_catOk = prims.catOk := congrArg Prims.catOk hp
  have h_cmp : p_cmp = prims.cmp := congrArg Prims.cmp hp
  have h_fits : p_fits = prims.fits := congrArg Prims.fits hp
  have h_frz : p_frz = prims.frz := congrArg Prims.frz hp
  have h_full : p_full = prims.full := congrArg Prims.full hp
  have h_int : p_int = prims.int := congrArg Prims.int hp
  have h_len : p_len = prims.len := congrArg Prims.len hp
  have h_nth : p_nth = prims.nth := congrArg Prims.nth hp
  have h_opn : p_opn = prims.opn := congrArg Prims.opn hp
  have h_rapp : p_rapp = prims.rapp := congrArg Prims.rapp hp
  have h_rlen : p_rlen = prims.rlen := congrArg Prims.rlen hp
  have h_scat : p_scat = prims.scat := congrArg Prims.scat hp
  clear hp
  have addn_string := @addnF_string
  rw [← h_addN, ← h_len, ← h_opn, ← h_rlen, ← hm_string] at addn_string
  have frz_string := @frzF_string
  rw [← h_frz, ← h_len, ← h_opn, ← hm_string] at frz_string
  have full_string := @fullF_string
  rw [← h_full, ← h_len, ← h_opn, ← hm_string] at full_string
  have len0_string := @len0F_string
  rw [← h_len, ← hm_string] at len0_string
  have lit_string := @litF_string
  rw [← h_opn, ← hm_string] at lit_string
  have nth_TableEntry := @nthF_TableEntry
  rw [← h_nth, ← hm_TableEntry, ← hm_string] at nth_TableEntry
  have opn0_string := @opn0F_string
  rw [← h_opn, ← hm_string] at opn0_string
  have rapp_string := @rappF_string
  rw [← h_opn, ← h_rapp, ← hm_string] at rapp_string
  unfold Has_s_impl_FormatName at hF_s_impl_FormatName
  rw [← hm_string] at hF_s_impl_FormatName
  unfold Has_s_impl_FormatInt at hF_s_impl_FormatInt
  unfold Has_s_impl_orDash at hF_s_impl_orDash
  rw [← hm_string] at hF_s_impl_orDash
  generalize hal : (fun (F : St → (Ex → St → Option (List Arg)) → Option (List Arg)) lv => aloop F lv fuel) = al
  rw [s_impl_FormatVector]
  conv => lhs; cbv
  refine (loop_al hal (fun x => match x with | (v1, v2) => ⟨[dd, dd, dd, .c (.row (0, 0, 0) 9 1 0 (p_len (m_string v2))), dd, dd, dd, dd, .c (.rd true 112 2 (m_TableEntry a0)), .c (.at (.int .i64 (p_int (p_len (m_TableEntry a0))))), .c (.at (.int .i64 v1)), dd, dd, dd, dd, dd, dd, dd, dd, dd, dd, dd, dd, dd, dd, dd, dd, dd], [((0, 0, 0), ⟨true, false, 9, 1, p_opn (m_string v2)⟩)], 1⟩) (s_impl_FormatVector_l1 a0) (fun K g => match g with | (v1, v2) => K (.exit 0) ⟨[dd, dd, dd, .c (.row (0, 0, 0) 9 1 0 (p_len (m_string v2))), dd, dd, dd, dd, .c (.rd true 112 2 (m_TableEntry a0)), .c (.at (.int .i64 (p_int (p_len (m_TableEntry a0))))), .c (.at (.int .i64 v1)), .c (.at (.bool false)), dd, dd, dd, dd, dd, dd, dd, dd, dd, dd, dd, dd, dd, dd, dd, dd], [((0, 0, 0), ⟨true, false, 9, 1, p_opn (m_string v2)⟩)], 2⟩) ?_ (0, []) _ (by simp only [opn0_string, len0_string]; rfl)).trans (cL ?_)
  · rintro K1 hr1 ⟨v1, v2⟩ R1
    rw [s_impl_FormatVector_l1, ← h_arith, ← h_catOk, ← h_cmp, ← h_fits, ← h_int, ← h_len, ← h_opn, ← h_rlen, ← h_scat, ← hm_TableEntry, ← hm_string]
    conv => lhs; cbv
    refine cC (fun hb3 => ?_) (fun hb3 => ?_)
    · rw [hb3]
      conv => lhs; cbv
      rw [nth_TableEntry]
      refine cO (fun hx5 => ?_) ?_
      · rw [hx5]
        first | done | rfl
      · rintro x4 hx5
        rw [hx5]
        conv => lhs; cbv
        rw [hF_s_impl_FormatName x4.name]
        refine cO (fun hx7 => ?_) ?_
        · rw [hx7]
          first | done | rfl
        · rintro r6 hx7
          rw [hx7]
          conv => lhs; cbv
          refine cC (fun hb8 => ?_) (fun hb8 => ?_)
          · rw [if_pos hb8]
            try rw [hb8]
            conv => lhs; cbv
            rw [hF_s_impl_FormatInt x4.value]
            refine cO (fun hx10 => ?_) ?_
            · rw [hx10]
              first | done | rfl
            · rintro r9 hx10
              rw [hx10]
              conv => lhs; cbv
              refine cC (fun hb11 => ?_) (fun hb11 => ?_)
              · rw [if_pos hb11]
                try rw [hb11]
                conv => lhs; cbv
                rw [lit_string]
                refine cC (fun hb12 => ?_) (fun hb12 => ?_)
                · rw [if_pos ⟨full_string _, hb12, trivial⟩]
                  conv => lhs; cbv
                  rw [rapp_string, addn_string]
                  conv => lhs; cbv
                  first | done | rfl
                · rw [if_neg (fun x => Bool.noConfusion (hb12.symm.trans x.2.1))]
                  first | done | rfl
              · rw [if_neg (Bool.eq_false_iff.1 hb11)]
                try rw [hb11]
                conv => lhs; cbv
                first | done | rfl
          · rw [if_neg (Bool.eq_false_iff.1 hb8)]
            try rw [hb8]
            conv => lhs; cbv
            first | done | rfl
    · rw [hb3]
      conv => lhs; cbv
      first | done | rfl
  · rintro ⟨w13, w14⟩
    conv => lhs; cbv
    rw [frz_string]
    conv => lhs; cbv
    rw [hF_s_impl_orDash w14]
    refine cO (fun hx16 => ?_) ?_
    · rw [hx16]
      first | done | rfl
    · rintro r15 hx16
      rw [hx16]
      conv => lhs; cbv
      first | done | rfl
def s_laws_eqTableEntry (a0 : DTableEntry) (a1 : DTableEntry) : Option (Bool) := (s_laws_eqName a0.name a1.name).bind fun r1 => bif prims.bnot r1 then (some false) else (bif prims.cmp .neq a0.value a1.value then (some false) else (some true))
def Has_s_laws_eqTableEntry (F : Fns) : Prop := ∀ (a0 : DTableEntry) (a1 : DTableEntry), F 99 [.a [.sl 9 1 (List.map eS a0.name), .at (.int .i64 a0.value)], .a [.sl 9 1 (List.map eS a1.name), .at (.int .i64 a1.value)]] = (s_laws_eqTableEntry a0 a1).bind fun r => some [.v (.at (.bool r))]
set_option maxHeartbeats 40000000 in
theorem e_s_laws_eqTableEntry (F : Fns) (hF_s_laws_eqName : Has_s_laws_eqName F) (a0 : DTableEntry) (a1 : DTableEntry) : evBody prims (fun F lv => aloop F lv fuel) TY F ⟨Tryd.f99, Tryd.f99.body.getD .skip, fun _ => []⟩ [.a [.sl 9 1 (List.map eS a0.name), .at (.int .i64 a0.value)], .a [.sl 9 1 (List.map eS a1.name), .at (.int .i64 a1.value)]] = (s_laws_eqTableEntry a0 a1).bind fun r => some [.v (.at (.bool r))] := by
  obtain ⟨p, hp⟩ : ∃ p : Prims, p = prims := ⟨_, rfl⟩
  obtain ⟨m_string, hm_string⟩ : ∃ m, m = List.map eS := ⟨_, rfl⟩
  rw [← hp]
  rw [← hm_string]
  obtain ⟨p_arith, p_cmp, p_wrap, p_scmp, p_scat, p_catOk, p_ssize, p_sat, p_ssub, p_bytes, p_str, p_bnot, p_beq, p_min, p_max, p_len, p_int, p_nth, p_sub, p_rsub, p_ridx, p_rnth, p_rset, p_rapp, p_rlen, p_addN, p_full, p_fits, p_frz, p_own, p_opn, p_lend, p_rmov, p_rout, p_both, p_yI, p_ofB, p_byW, p_mkN, p_rep, p_copy⟩ := p
  have h_bnot : p_bnot = prims.bnot := congrArg Prims.bnot hp
  have h_cmp : p_cmp = prims.cmp := congrArg Prims.cmp hp
  clear hp
  unfold Has_s_laws_eqName at hF_s_laws_eqName
  rw [← hm_string] at hF_s_laws_eqName
  generalize hal : (fun (F : St → (Ex → St → Option (List Arg)) → Option (List Arg)) lv => aloop F lv fuel) = al
  rw [s_laws_eqTableEntry, ← h_bnot, ← h_cmp]
  conv => lhs; cbv
  rw [hF_s_laws_eqName a0.name a1.name]
  refine cO (fun hx2 => ?_) ?_
  · rw [hx2]
    first | done | rfl
  · rintro r1 hx2
    rw [hx2]
    conv => lhs; cbv
    refine cC (fun hb3 => ?_) (fun hb3 => ?_)
    · rw [hb3]
      conv => lhs; cbv
      first | done | rfl
    · rw [hb3]
      conv => lhs; cbv
      refine cC (fun hb4 => ?_) (fun hb4 => ?_)
      · rw [hb4]
        conv => lhs; cbv
        first | done | rfl
      · rw [hb4]
        conv => lhs; cbv
        first | done | rfl
def s_laws_eqTableEntryS_l1 (a0 : (List DTableEntry)) (a1 : (List DTableEntry)) : Int → Option ((Int) ⊕ ((Int) ⊕ (Bool)))
  | v2 => bif prims.cmp .lss v2 (prims.int (prims.len (List.map eTableEntry a0))) then ((nthI a0 v2).bind fun x4 => (nthI a1 v2).bind fun x6 => (s_laws_eqTableEntry x4 x6).bind fun r8 => bif prims.bnot r8 then (some (.inr (.inr (false)))) else (some (.inl (prims.arith .add .i64 v2 1)))) else (some (.inr (.inl v2)))
def s_laws_eqTableEntryS (a0 : (List DTableEntry)) (a1 : (List DTableEntry)) : Option (Bool) := bif prims.cmp .neq (prims.int (prims.len (List.map eTableEntry a0))) (prims.int (prims.len (List.map eTableEntry a1))) then (some false) else ((whileO (s_laws_eqTableEntryS_l1 a0 a1) fuel 0).bind fun g => match g with | .inl w11 => (some true) | .inr (w12) => (some w12))
def Has_s_laws_eqTableEntryS (F : Fns) : Prop := ∀ (a0 : (List DTableEntry)) (a1 : (List DTableEntry)), F 50 [.v (.sl 112 2 (List.map eTableEntry a0)), .v (.sl 112 2 (List.map eTableEntry a1))] = (s_laws_eqTableEntryS a0 a1).bind fun r => some [.v (.at (.bool r))]
set_option maxHeartbeats 40000000 in
theorem e_s_laws_eqTableEntryS (F : Fns) (hF_s_laws_eqTableEntry : Has_s_laws_eqTableEntry F) (a0 : (List DTableEntry)) (a1 : (List DTableEntry)) : evBody prims (fun F lv => aloop F lv fuel) TY F ⟨Tryd.f50, Tryd.f50.body.getD .skip, fun id => if id = 4 then [0, 1, 5] else []⟩ [.v (.sl 112 2 (List.map eTableEntry a0)), .v (.sl 112 2 (List.map eTableEntry a1))] = (s_laws_eqTableEntryS a0 a1).bind fun r => some [.v (.at (.bool r))] := by
  obtain ⟨p, hp⟩ : ∃ p : Prims, p = prims := ⟨_, rfl⟩
  obtain ⟨m_TableEntry, hm_TableEntry⟩ : ∃ m, m = List.map eTableEntry := ⟨_, rfl⟩
  obtain ⟨m_string, hm_string⟩ : ∃ m, m = List.map eS := ⟨_, rfl⟩
  rw [← hp]
  rw [← hm_TableEntry]
  obtain ⟨p_arith, p_cmp, p_wrap, p_scmp, p_scat, p_catOk, p_ssize, p_sat, p_ssub, p_bytes, p_str, p_bnot, p_beq, p_min, p_max, p_len, p_int, p_nth, p_sub, p_rsub, p_ridx, p_rnth, p_rset, p_rapp, p_rlen, p_addN, p_full, p_fits, p_frz, p_own, p_opn, p_lend, p_rmov, p_rout, p_both, p_yI, p_ofB, p_byW, p_mkN, p_rep, p_copy⟩ := p
  have h_arith : p_arith = prims.arith := congrArg Prims.arith hp
  have h_bnot : p_bnot = prims.bnot := congrArg Prims.bnot hp
  have h_cmp : p_cmp = prims.cmp := congrArg Prims.cmp hp
  have h_int : p_int = prims.int := congrArg Prims.int hp
  have h_len : p_len = prims.len := congrArg Prims.len hp
  have h_nth : p_nth = prims.nth := congrArg Prims.nth hp
  clear hp
  have nth_TableEntry := @nthF_TableEntry
  rw [← h_nth, ← hm_TableEntry, ← hm_string] at nth_TableEntry
  unfold Has_s_laws_eqTableEntry at hF_s_laws_eqTableEntry
  rw [← hm_string] at hF_s_laws_eqTableEntry
  generalize hal : (fun (F : St → (Ex → St → Option (List Arg)) → Option (List Arg)) lv => aloop F lv fuel) = al
  rw [s_laws_eqTableEntryS, ← h_cmp, ← h_int, ← h_len, ← hm_TableEntry]
  conv => lhs; cbv
  refine cC (fun hb1 => ?_) (fun hb1 => ?_)
  · rw [hb1]
    conv => lhs; cbv
    first | done | rfl
  · rw [hb1]
    conv => lhs; cbv
    refine (loop_al hal (fun v2 => ⟨[.c (.rd true 112 2 (m_TableEntry a0)), .c (.rd true 112 2 (m_TableEntry a1)), dd, dd, dd, .c (.at (.int .i64 v2)), dd, dd, dd, dd, dd, dd, dd, dd, dd, dd, dd, dd, dd, dd, dd, dd, dd, dd, dd, dd, dd], [], 1⟩) (s_laws_eqTableEntryS_l1 a0 a1) (fun K g => match g with | .inl v2 => K (.exit 0) ⟨[.c (.rd true 112 2 (m_TableEntry a0)), .c (.rd true 112 2 (m_TableEntry a1)), dd, dd, dd, .c (.at (.int .i64 v2)), dd, dd, dd, dd, dd, .c (.at (.int .i64 v2)), .c (.rd true 112 2 (m_TableEntry a0)), .c (.at (.int .i64 (p_int (p_len (m_TableEntry a0))))), .c (.at (.bool false)), dd, dd, dd, dd, dd, dd, dd, dd, dd, dd, dd, dd], [], 2⟩ | .inr (r) => some [.v (.at (.bool r))]) ?_ 0 _ (rfl)).trans (cL ?_)
    · rintro K1 hr1 v2 R1
      rw [s_laws_eqTableEntryS_l1, ← h_arith, ← h_bnot, ← h_cmp, ← h_int, ← h_len, ← hm_TableEntry]
      conv => lhs; cbv
      refine cC (fun hb3 => ?_) (fun hb3 => ?_)
      · rw [hb3]
        conv => lhs; cbv
        rw [nth_TableEntry]
        refine cO (fun hx5 => ?_) ?_
        · rw [hx5]
          first | done | rfl
        · rintro x4 hx5
          rw [hx5]
          conv => lhs; cbv
          rw [nth_TableEntry]
          refine cO (fun hx7 => ?_) ?_
          · rw [hx7]
            first | done | rfl
          · rintro x6 hx7
            rw [hx7]
            conv => lhs; cbv
            rw [hF_s_laws_eqTableEntry x4 x6]
            refine cO (fun hx9 => ?_) ?_
            · rw [hx9]
              first | done | rfl
            · rintro r8 hx9
              rw [hx9]
              conv => lhs; cbv
              refine cC (fun hb10 => ?_) (fun hb10 => ?_)
              · rw [hb10]
                conv => lhs; cbv
                rw [hr1]
                conv => lhs; cbv
                first | done | rfl
              · rw [hb10]
                conv => lhs; cbv
                first | done | rfl
      · rw [hb3]
        conv => lhs; cbv
        first | done | rfl
    · rintro (w11 | w12)
      · conv => lhs; cbv
        first | done | rfl
      · rfl
def s_laws_eqStateVector (a0 : (List DTableEntry)) (a1 : (List DTableEntry)) : Option (Bool) := (s_laws_eqTableEntryS a0 a1).bind fun r1 => bif prims.bnot r1 then (some false) else (some true)
def Has_s_laws_eqStateVector (F : Fns) : Prop := ∀ (a0 : (List DTableEntry)) (a1 : (List DTableEntry)), F 17 [.a [.sl 112 2 (List.map eTableEntry a0)], .a [.sl 112 2 (List.map eTableEntry a1)]] = (s_laws_eqStateVector a0 a1).bind fun r => some [.v (.at (.bool r))]
set_option maxHeartbeats 40000000 in
theorem e_s_laws_eqStateVector (F : Fns) (hF_s_laws_eqTableEntryS : Has_s_laws_eqTableEntryS F) (a0 : (List DTableEntry)) (a1 : (List DTableEntry)) : evBody prims (fun F lv => aloop F lv fuel) TY F ⟨Tryd.f17, Tryd.f17.body.getD .skip, fun _ => []⟩ [.a [.sl 112 2 (List.map eTableEntry a0)], .a [.sl 112 2 (List.map eTableEntry a1)]] = (s_laws_eqStateVector a0 a1).bind fun r => some [.v (.at (.bool r))] := by
  obtain ⟨p, hp⟩ : ∃ p : Prims, p = prims := ⟨_, rfl⟩
  obtain ⟨m_TableEntry, hm_TableEntry⟩ : ∃ m, m = List.map eTableEntry := ⟨_, rfl⟩
  rw [← hp]
  rw [← hm_TableEntry]
  obtain ⟨p_arith, p_cmp, p_wrap, p_scmp, p_scat, p_catOk, p_ssize, p_sat, p_ssub, p_bytes, p_str, p_bnot, p_beq, p_min, p_max, p_len, p_int, p_nth, p_sub, p_rsub, p_ridx, p_rnth, p_rset, p_rapp, p_rlen, p_addN, p_full, p_fits, p_frz, p_own, p_opn, p_lend, p_rmov, p_rout, p_both, p_yI, p_ofB, p_byW, p_mkN, p_rep, p_copy⟩ := p
  have h_bnot : p_bnot = prims.bnot := congrArg Prims.bnot hp
  clear hp
  unfold Has_s_laws_eqTableEntryS at hF_s_laws_eqTableEntryS
  rw [← hm_TableEntry] at hF_s_laws_eqTableEntryS
  generalize hal : (fun (F : St → (Ex → St → Option (List Arg)) → Option (List Arg)) lv => aloop F lv fuel) = al
  rw [s_laws_eqStateVector, ← h_bnot]
  conv => lhs; cbv
  rw [hF_s_laws_eqTableEntryS a0 a1]
  refine cO (fun hx2 => ?_) ?_
  · rw [hx2]
    first | done | rfl
  · rintro r1 hx2
    rw [hx2]
    conv => lhs; cbv
    refine cC (fun hb3 => ?_) (fun hb3 => ?_)
    · rw [hb3]
      conv => lhs; cbv
      first | done | rfl
    · rw [hb3]
      conv => lhs; cbv
      first | done | rfl
def s_laws_FnExactFormatVector (a0 : (List DTableEntry)) : Option (Bool) := (s_laws_szStateVector a0 1048576).bind fun r1 => bif prims.cmp .lss r1 0 then (some true) else ((s_laws_toStateVector a0).bind fun r4 => (s_spec_FormatVector r4).bind fun r6 => (s_impl_FormatVector r4).bind fun r9 => bif prims.scmp .neq r9 r6 then (some false) else ((s_laws_eqStateVector r4 r4).bind fun r13 => bif prims.bnot r13 then (some false) else (some true)))
def Has_s_laws_FnExactFormatVector (F : Fns) : Prop := ∀ (a0 : (List DTableEntry)), F 4 [.a [.sl 112 2 (List.map eTableEntry a0)]] = (s_laws_FnExactFormatVector a0).bind fun r => some [.v (.at (.bool r))]
set_option maxHeartbeats 40000000 in
theorem e_s_laws_FnExactFormatVector (F : Fns) (hF_s_laws_szStateVector : Has_s_laws_szStateVector F) (hF_s_laws_toStateVector : Has_s_laws_toStateVector F) (hF_s_spec_FormatVector : Has_s_spec_FormatVector F) (hF_s_impl_FormatVector : Has_s_impl_FormatVector F) (hF_s_laws_eqStateVector : Has_s_laws_eqStateVector F) (a0 : (List DTableEntry)) : evBody prims (fun F lv => aloop F lv fuel) TY F ⟨Tryd.f4, Tryd.f4.body.getD .skip, fun _ => []⟩ [.a [.sl 112 2 (List.map eTableEntry a0)]] = (s_laws_FnExactFormatVector a0).bind fun r => some [.v (.at (.bool r))] := by
  obtain ⟨p, hp⟩ : ∃ p : Prims, p = prims := ⟨_, rfl⟩
  obtain ⟨m_TableEntry, hm_TableEntry⟩ : ∃ m, m = List.map eTableEntry := ⟨_, rfl⟩
  rw [← hp]
  rw [← hm_TableEntry]
  obtain ⟨p_arith, p_cmp, p_wrap, p_scmp, p_scat, p_catOk, p_ssize, p_sat, p_ssub, p_bytes, p_str, p_bnot, p_beq, p_min, p_max, p_len, p_int, p_nth, p_sub, p_rsub, p_ridx, p_rnth, p_rset, p_rapp, p_rlen, p_addN, p_full, p_fits, p_frz, p_own, p_opn, p_lend, p_rmov, p_rout, p_both, p_yI, p_ofB, p_byW, p_mkN, p_rep, p_copy⟩ := p
  have h_bnot : p_bnot = prims.bnot := congrArg Prims.bnot hp
  have h_cmp : p_cmp = prims.cmp := congrArg Prims.cmp hp
  have h_frz : p_frz = prims.frz := congrArg Prims.frz hp
  have h_len : p_len = prims.len := congrArg Prims.len hp
  have h_opn : p_opn = prims.opn := congrArg Prims.opn hp
  have h_scmp : p_scmp = prims.scmp := congrArg Prims.scmp hp
  clear hp
  have frz_TableEntry := @frzF_TableEntry
  rw [← h_frz, ← h_len, ← h_opn, ← hm_TableEntry] at frz_TableEntry
  unfold Has_s_laws_szStateVector at hF_s_laws_szStateVector
  rw [← hm_TableEntry] at hF_s_laws_szStateVector
  unfold Has_s_laws_toStateVector at hF_s_laws_toStateVector
  rw [← hm_TableEntry] at hF_s_laws_toStateVector
  unfold Has_s_spec_FormatVector at hF_s_spec_FormatVector
  rw [← hm_TableEntry] at hF_s_spec_FormatVector
  unfold Has_s_impl_FormatVector at hF_s_impl_FormatVector
  rw [← hm_TableEntry] at hF_s_impl_FormatVector
  unfold Has_s_laws_eqStateVector at hF_s_laws_eqStateVector
  rw [← hm_TableEntry] at hF_s_laws_eqStateVector
  generalize hal : (fun (F : St → (Ex → St → Option (List Arg)) → Option (List Arg)) lv => aloop F lv fuel) = al
  rw [s_laws_FnExactFormatVector, ← h_bnot, ← h_cmp, ← h_scmp]
  conv => lhs; cbv
  rw [hF_s_laws_szStateVector a0 1048576]
  refine cO (fun hx2 => ?_) ?_
  · rw [hx2]
    first | done | rfl
  · rintro r1 hx2
    rw [hx2]
    conv => lhs; cbv
    refine cC (fun hb3 => ?_) (fun hb3 => ?_)
    · rw [hb3]
      conv => lhs; cbv
      first | done | rfl
    · rw [hb3]
      conv => lhs; cbv
      rw [hF_s_laws_toStateVector a0]
      refine cO (fun hx5 => ?_) ?_
      · rw [hx5]
        first | done | rfl
      · rintro r4 hx5
        rw [hx5]
        conv => lhs; cbv
        rw [frz_TableEntry]
        conv => lhs; cbv
        rw [hF_s_spec_FormatVector r4]
        refine cO (fun hx7 => ?_) ?_
        · rw [hx7]
          first | done | rfl
        · rintro r6 hx7
          rw [hx7]
          conv => lhs; cbv
          rw [hF_s_laws_toStateVector a0]
          rw [hx5]
          conv => lhs; cbv
          rw [frz_TableEntry]
          conv => lhs; cbv
          rw [hF_s_impl_FormatVector r4]
          refine cO (fun hx10 => ?_) ?_
          · rw [hx10]
            first | done | rfl
          · rintro r9 hx10
            rw [hx10]
            conv => lhs; cbv
            refine cC (fun hb11 => ?_) (fun hb11 => ?_)
            · rw [hb11]
              conv => lhs; cbv
              first | done | rfl
            · rw [hb11]
              conv => lhs; cbv
              rw [hF_s_laws_toStateVector a0]
              rw [hx5]
              conv => lhs; cbv
              rw [frz_TableEntry]
              conv => lhs; cbv
              rw [frz_TableEntry]
              conv => lhs; cbv
              rw [hF_s_laws_eqStateVector r4 r4]
              refine cO (fun hx14 => ?_) ?_
              · rw [hx14]
                first | done | rfl
              · rintro r13 hx14
                rw [hx14]
                conv => lhs; cbv
                refine cC (fun hb15 => ?_) (fun hb15 => ?_)
                · rw [hb15]
                  conv => lhs; cbv
                  first | done | rfl
                · rw [hb15]
                  conv => lhs; cbv
                  first | done | rfl
def s_laws_szInterest (a0 : DInterest) (a1 : Int) : Option (Int) := (s_laws_szName a0.name a1).bind fun r1 => bif prims.cmp .lss r1 0 then (some (-1)) else (some r1)
def Has_s_laws_szInterest (F : Fns) : Prop := ∀ (a0 : DInterest) (a1 : Int), F 51 [.a [.sl 9 1 (List.map eS a0.name), .at (.int .i64 a0.nonce), .at (.int .i64 a0.hopLimit), .at (.int .i64 a0.lifetime)], .v (.at (.int .i64 a1))] = (s_laws_szInterest a0 a1).bind fun r => some [.v (.at (.int .i64 r))]
set_option maxHeartbeats 40000000 in
theorem e_s_laws_szInterest (F : Fns) (hF_s_laws_szName : Has_s_laws_szName F) (a0 : DInterest) (a1 : Int) : evBody prims (fun F lv => aloop F lv fuel) TY F ⟨Tryd.f51, Tryd.f51.body.getD .skip, fun _ => []⟩ [.a [.sl 9 1 (List.map eS a0.name), .at (.int .i64 a0.nonce), .at (.int .i64 a0.hopLimit), .at (.int .i64 a0.lifetime)], .v (.at (.int .i64 a1))] = (s_laws_szInterest a0 a1).bind fun r => some [.v (.at (.int .i64 r))] := by
  obtain ⟨p, hp⟩ : ∃ p : Prims, p = prims := ⟨_, rfl⟩
  obtain ⟨m_string, hm_string⟩ : ∃ m, m = List.map eS := ⟨_, rfl⟩
  rw [← hp]
  rw [← hm_string]
  obtain ⟨p_arith, p_cmp, p_wrap, p_scmp, p_scat, p_catOk, p_ssize, p_sat, p_ssub, p_bytes, p_str, p_bnot, p_beq, p_min, p_max, p_len, p_int, p_nth, p_sub, p_rsub, p_ridx, p_rnth, p_rset, p_rapp, p_rlen, p_addN, p_full, p_fits, p_frz, p_own, p_opn, p_lend, p_rmov, p_rout, p_both, p_yI, p_ofB, p_byW, p_mkN, p_rep, p_copy⟩ := p
  have h_cmp : p_cmp = prims.cmp := congrArg Prims.cmp hp
  clear hp
  unfold Has_s_laws_szName at hF_s_laws_szName
  rw [← hm_string] at hF_s_laws_szName
  generalize hal : (fun (F : St → (Ex → St → Option (List Arg)) → Option (List Arg)) lv => aloop F lv fuel) = al
  rw [s_laws_szInterest, ← h_cmp]
  conv => lhs; cbv
  rw [hF_s_laws_szName a0.name a1]
  refine cO (fun hx2 => ?_) ?_
  · rw [hx2]
    first | done | rfl
  · rintro r1 hx2
    rw [hx2]
    conv => lhs; cbv
    refine cC (fun hb3 => ?_) (fun hb3 => ?_)
    · rw [hb3]
      conv => lhs; cbv
      first | done | rfl
    · rw [hb3]
      conv => lhs; cbv
      first | done | rfl
def s_laws_szPacketInFlight (a0 : DPacketInFlight) (a1 : Int) : Option (Int) := (s_laws_szInterest a0.interest a1).bind fun r1 => bif prims.cmp .lss r1 0 then (some (-1)) else ((s_laws_szData a0.data r1).bind fun r4 => bif prims.cmp .lss r4 0 then (some (-1)) else (some r4))
def Has_s_laws_szPacketInFlight (F : Fns) : Prop := ∀ (a0 : DPacketInFlight) (a1 : Int), F 18 [.a [.at (.int .i64 a0.dest), .at (.int .i64 a0.face), .at (.bool a0.isInterest), .sl 9 1 (List.map eS a0.interest.name), .at (.int .i64 a0.interest.nonce), .at (.int .i64 a0.interest.hopLimit), .at (.int .i64 a0.interest.lifetime), .sl 9 1 (List.map eS a0.data.name), .sl 5 1 (List.map eY a0.data.content), .sl 9 1 (List.map eS a0.data.keyName), .at (.int .i64 a0.data.freshUntil), .at (.int .i64 a0.data.signature)], .v (.at (.int .i64 a1))] = (s_laws_szPacketInFlight a0 a1).bind fun r => some [.v (.at (.int .i64 r))]
set_option maxHeartbeats 40000000 in
theorem e_s_laws_szPacketInFlight (F : Fns) (hF_s_laws_szInterest : Has_s_laws_szInterest F) (hF_s_laws_szData : Has_s_laws_szData F) (a0 : DPacketInFlight) (a1 : Int) : evBody prims (fun F lv => aloop F lv fuel) TY F ⟨Tryd.f18, Tryd.f18.body.getD .skip, fun _ => []⟩ [.a [.at (.int .i64 a0.dest), .at (.int .i64 a0.face), .at (.bool a0.isInterest), .sl 9 1 (List.map eS a0.interest.name), .at (.int .i64 a0.interest.nonce), .at (.int .i64 a0.interest.hopLimit), .at (.int .i64 a0.interest.lifetime), .sl 9 1 (List.map eS a0.data.name), .sl 5 1 (List.map eY a0.data.content), .sl 9 1 (List.map eS a0.data.keyName), .at (.int .i64 a0.data.freshUntil), .at (.int .i64 a0.data.signature)], .v (.at (.int .i64 a1))] = (s_laws_szPacketInFlight a0 a1).bind fun r => some [.v (.at (.int .i64 r))] := by
  obtain ⟨p, hp⟩ : ∃ p : Prims, p = prims := ⟨_, rfl⟩
  obtain ⟨m_byte, hm_byte⟩ : ∃ m, m = List.map eY := ⟨_, rfl⟩
  obtain ⟨m_string, hm_string⟩ : ∃ m, m = List.map eS := ⟨_, rfl⟩
  rw [← hp]
  rw [← hm_byte, ← hm_string]
  obtain ⟨p_arith, p_cmp, p_wrap, p_scmp, p_scat, p_catOk, p_ssize, p_sat, p_ssub, p_bytes, p_str, p_bnot, p_beq, p_min, p_max, p_len, p_int, p_nth, p_sub, p_rsub, p_ridx, p_rnth, p_rset, p_rapp, p_rlen, p_addN, p_full, p_fits, p_frz, p_own, p_opn, p_lend, p_rmov, p_rout, p_both, p_yI, p_ofB, p_byW, p_mkN, p_rep, p_copy⟩ := p
  have h_cmp : p_cmp = prims.cmp := congrArg Prims.cmp hp
  clear hp
  unfold Has_s_laws_szInterest at hF_s_laws_szInterest
  rw [← hm_string] at hF_s_laws_szInterest
  unfold Has_s_laws_szData at hF_s_laws_szData
  rw [← hm_byte, ← hm_string] at hF_s_laws_szData
  generalize hal : (fun (F : St → (Ex → St → Option (List Arg)) → Option (List Arg)) lv => aloop F lv fuel) = al
  rw [s_laws_szPacketInFlight, ← h_cmp]
  conv => lhs; cbv
  rw [hF_s_laws_szInterest a0.interest a1]
  refine cO (fun hx2 => ?_) ?_
  · rw [hx2]
    first | done | rfl
  · rintro r1 hx2
    rw [hx2]
    conv => lhs; cbv
    refine cC (fun hb3 => ?_) (fun hb3 => ?_)
    · rw [hb3]
      conv => lhs; cbv
      first | done | rfl
    · rw [hb3]
      conv => lhs; cbv
      rw [hF_s_laws_szData a0.data r1]
      refine cO (fun hx5 => ?_) ?_
      · rw [hx5]
        first | done | rfl
      · rintro r4 hx5
        rw [hx5]
        conv => lhs; cbv
        refine cC (fun hb6 => ?_) (fun hb6 => ?_)
        · rw [hb6]
          conv => lhs; cbv
          first | done | rfl
        · rw [hb6]
          conv => lhs; cbv
          first | done | rfl
def s_laws_toInterest (a0 : DInterest) : Option (DInterest) := (s_laws_toName a0.name).bind fun r1 => some (⟨r1, a0.nonce, a0.hopLimit, a0.lifetime⟩ : DInterest)
def Has_s_laws_toInterest (F : Fns) : Prop := ∀ (a0 : DInterest), F 53 [.a [.sl 9 1 (List.map eS a0.name), .at (.int .i64 a0.nonce), .at (.int .i64 a0.hopLimit), .at (.int .i64 a0.lifetime)]] = (s_laws_toInterest a0).bind fun r => some [.a [.sl 9 1 (List.map eS r.name), .at (.int .i64 r.nonce), .at (.int .i64 r.hopLimit), .at (.int .i64 r.lifetime)]]
set_option maxHeartbeats 40000000 in
theorem e_s_laws_toInterest (F : Fns) (hF_s_laws_toName : Has_s_laws_toName F) (a0 : DInterest) : evBody prims (fun F lv => aloop F lv fuel) TY F ⟨Tryd.f53, Tryd.f53.body.getD .skip, fun _ => []⟩ [.a [.sl 9 1 (List.map eS a0.name), .at (.int .i64 a0.nonce), .at (.int .i64 a0.hopLimit), .at (.int .i64 a0.lifetime)]] = (s_laws_toInterest a0).bind fun r => some [.a [.sl 9 1 (List.map eS r.name), .at (.int .i64 r.nonce), .at (.int .i64 r.hopLimit), .at (.int .i64 r.lifetime)]] := by
  obtain ⟨p, hp⟩ : ∃ p : Prims, p = prims := ⟨_, rfl⟩
  obtain ⟨m_string, hm_string⟩ : ∃ m, m = List.map eS := ⟨_, rfl⟩
  rw [← hp]
  rw [← hm_string]
  obtain ⟨p_arith, p_cmp, p_wrap, p_scmp, p_scat, p_catOk, p_ssize, p_sat, p_ssub, p_bytes, p_str, p_bnot, p_beq, p_min, p_max, p_len, p_int, p_nth, p_sub, p_rsub, p_ridx, p_rnth, p_rset, p_rapp, p_rlen, p_addN, p_full, p_fits, p_frz, p_own, p_opn, p_lend, p_rmov, p_rout, p_both, p_yI, p_ofB, p_byW, p_mkN, p_rep, p_copy⟩ := p
  have h_full : p_full = prims.full := congrArg Prims.full hp
  have h_len : p_len = prims.len := congrArg Prims.len hp
  have h_opn : p_opn = prims.opn := congrArg Prims.opn hp
  have h_own : p_own = prims.own := congrArg Prims.own hp
  clear hp
  have full_string := @fullF_string
  rw [← h_full, ← h_len, ← h_opn, ← hm_string] at full_string
  have own_string := @ownF_string
  rw [← h_opn, ← h_own, ← hm_string] at own_string
  unfold Has_s_laws_toName at hF_s_laws_toName
  rw [← hm_string] at hF_s_laws_toName
  generalize hal : (fun (F : St → (Ex → St → Option (List Arg)) → Option (List Arg)) lv => aloop F lv fuel) = al
  rw [s_laws_toInterest]
  conv => lhs; cbv
  rw [hF_s_laws_toName a0.name]
  refine cO (fun hx2 => ?_) ?_
  · rw [hx2]
    first | done | rfl
  · rintro r1 hx2
    rw [hx2]
    conv => lhs; cbv
    rw [if_pos (full_string _)]
    conv => lhs; cbv
    rw [own_string]
    conv => lhs; cbv
    first | done | rfl
def s_laws_toPacketInFlight (a0 : DPacketInFlight) : Option (DPacketInFlight) := (s_laws_toInterest a0.interest).bind fun r1 => (s_laws_toData a0.data).bind fun r3 => some (⟨a0.dest, a0.face, a0.isInterest, r1, r3⟩ : DPacketInFlight)
def Has_s_laws_toPacketInFlight (F : Fns) : Prop := ∀ (a0 : DPacketInFlight), F 20 [.a [.at (.int .i64 a0.dest), .at (.int .i64 a0.face), .at (.bool a0.isInterest), .sl 9 1 (List.map eS a0.interest.name), .at (.int .i64 a0.interest.nonce), .at (.int .i64 a0.interest.hopLimit), .at (.int .i64 a0.interest.lifetime), .sl 9 1 (List.map eS a0.data.name), .sl 5 1 (List.map eY a0.data.content), .sl 9 1 (List.map eS a0.data.keyName), .at (.int .i64 a0.data.freshUntil), .at (.int .i64 a0.data.signature)]] = (s_laws_toPacketInFlight a0).bind fun r => some [.a [.at (.int .i64 r.dest), .at (.int .i64 r.face), .at (.bool r.isInterest), .sl 9 1 (List.map eS r.interest.name), .at (.int .i64 r.interest.nonce), .at (.int .i64 r.interest.hopLimit), .at (.int .i64 r.interest.lifetime), .sl 9 1 (List.map eS r.data.name), .sl 5 1 (List.map eY r.data.content), .sl 9 1 (List.map eS r.data.keyName), .at (.int .i64 r.data.freshUntil), .at (.int .i64 r.data.signature)]]
set_option maxHeartbeats 40000000 in
theorem e_s_laws_toPacketInFlight (F : Fns) (hF_s_laws_toInterest : Has_s_laws_toInterest F) (hF_s_laws_toData : Has_s_laws_toData F) (a0 : DPacketInFlight) : evBody prims (fun F lv => aloop F lv fuel) TY F ⟨Tryd.f20, Tryd.f20.body.getD .skip, fun _ => []⟩ [.a [.at (.int .i64 a0.dest), .at (.int .i64 a0.face), .at (.bool a0.isInterest), .sl 9 1 (List.map eS a0.interest.name), .at (.int .i64 a0.interest.nonce), .at (.int .i64 a0.interest.hopLimit), .at (.int .i64 a0.interest.lifetime), .sl 9 1 (List.map eS a0.data.name), .sl 5 1 (List.map eY a0.data.content), .sl 9 1 (List.map eS a0.data.keyName), .at (.int .i64 a0.data.freshUntil), .at (.int .i64 a0.data.signature)]] = (s_laws_toPacketInFlight a0).bind fun r => some [.a [.at (.int .i64 r.dest), .at (.int .i64 r.face), .at (.bool r.isInterest), .sl 9 1 (List.map eS r.interest.name), .at (.int .i64 r.interest.nonce), .at (.int .i64 r.interest.hopLimit), .at (.int .i64 r.interest.lifetime), .sl 9 1 (List.map eS r.data.name), .sl 5 1 (List.map eY r.data.content), .sl 9 1 (List.map eS r.data.keyName), .at (.int .i64 r.data.freshUntil), .at (.int .i64 r.data.signature)]] := by
  obtain ⟨p, hp⟩ : ∃ p : Prims, p = prims := ⟨_, rfl⟩
  obtain ⟨m_byte, hm_byte⟩ : ∃ m, m = List.map eY := ⟨_, rfl⟩
  obtain ⟨m_string, hm_string⟩ : ∃ m, m = List.map eS := ⟨_, rfl⟩
  rw [← hp]
  rw [← hm_byte, ← hm_string]
  obtain ⟨p_arith, p_cmp, p_wrap, p_scmp, p_scat, p_catOk, p_ssize, p_sat, p_ssub, p_bytes, p_str, p_bnot, p_beq, p_min, p_max, p_len, p_int, p_nth, p_sub, p_rsub, p_ridx, p_rnth, p_rset, p_rapp, p_rlen, p_addN, p_full, p_fits, p_frz, p_own, p_opn, p_lend, p_rmov, p_rout, p_both, p_yI, p_ofB, p_byW, p_mkN, p_rep, p_copy⟩ := p
  have h_full : p_full = prims.full := congrArg Prims.full hp
  have h_len : p_len = prims.len := congrArg Prims.len hp
  have h_opn : p_opn = prims.opn := congrArg Prims.opn hp
  have h_own : p_own = prims.own := congrArg Prims.own hp
  clear hp
  have full_byte := @fullF_byte
  rw [← h_full, ← h_len, ← h_opn, ← hm_byte] at full_byte
  have full_string := @fullF_string
  rw [← h_full, ← h_len, ← h_opn, ← hm_string] at full_string
  have own_byte := @ownF_byte
  rw [← h_opn, ← h_own, ← hm_byte] at own_byte
  have own_string := @ownF_string
  rw [← h_opn, ← h_own, ← hm_string] at own_string
  unfold Has_s_laws_toInterest at hF_s_laws_toInterest
  rw [← hm_string] at hF_s_laws_toInterest
  unfold Has_s_laws_toData at hF_s_laws_toData
  rw [← hm_byte, ← hm_string] at hF_s_laws_toData
  generalize hal : (fun (F : St → (Ex → St → Option (List Arg)) → Option (List Arg)) lv => aloop F lv fuel) = al
  rw [s_laws_toPacketInFlight]
  conv => lhs; cbv
  rw [hF_s_laws_toInterest a0.interest]
  refine cO (fun hx2 => ?_) ?_
  · rw [hx2]
    first | done | rfl
  · rintro r1 hx2
    rw [hx2]
    conv => lhs; cbv
    rw [hF_s_laws_toData a0.data]
    refine cO (fun hx4 => ?_) ?_
    · rw [hx4]
      first | done | rfl
    · rintro r3 hx4
      rw [hx4]
      conv => lhs; cbv
      rw [if_pos (full_string _)]
      conv => lhs; cbv
      rw [own_string]
      conv => lhs; cbv
      rw [if_pos (full_string _)]
      conv => lhs; cbv
      rw [own_string]
      conv => lhs; cbv
      rw [if_pos (full_byte _)]
      conv => lhs; cbv
      rw [own_byte]
      conv => lhs; cbv
      rw [if_pos (full_string _)]
      conv => lhs; cbv
      rw [own_string]
      conv => lhs; cbv
      first | done | rfl
def s_spec_FormatInterest (a0 : DInterest) : Option (ByteArray) := (s_spec_FormatName a0.name).bind fun r1 => bif prims.catOk r1 (ByteArray.mk (Array.mk [63])) then ((s_spec_FormatInt a0.nonce).bind fun r4 => bif prims.catOk (prims.scat r1 (ByteArray.mk (Array.mk [63]))) r4 then (some (prims.scat (prims.scat r1 (ByteArray.mk (Array.mk [63]))) r4)) else none) else none
def Has_s_spec_FormatInterest (F : Fns) : Prop := ∀ (a0 : DInterest), F 52 [.a [.sl 9 1 (List.map eS a0.name), .at (.int .i64 a0.nonce), .at (.int .i64 a0.hopLimit), .at (.int .i64 a0.lifetime)]] = (s_spec_FormatInterest a0).bind fun r => some [.v (.at (.string r))]
set_option maxHeartbeats 40000000 in
theorem e_s_spec_FormatInterest (F : Fns) (hF_s_spec_FormatName : Has_s_spec_FormatName F) (hF_s_spec_FormatInt : Has_s_spec_FormatInt F) (a0 : DInterest) : evBody prims (fun F lv => aloop F lv fuel) TY F ⟨Tryd.f52, Tryd.f52.body.getD .skip, fun _ => []⟩ [.a [.sl 9 1 (List.map eS a0.name), .at (.int .i64 a0.nonce), .at (.int .i64 a0.hopLimit), .at (.int .i64 a0.lifetime)]] = (s_spec_FormatInterest a0).bind fun r => some [.v (.at (.string r))] := by
  obtain ⟨p, hp⟩ : ∃ p : Prims, p = prims := ⟨_, rfl⟩
  obtain ⟨m_string, hm_string⟩ : ∃ m, m = List.map eS := ⟨_, rfl⟩
  rw [← hp]
  rw [← hm_string]
  obtain ⟨p_arith, p_cmp, p_wrap, p_scmp, p_scat, p_catOk, p_ssize, p_sat, p_ssub, p_bytes, p_str, p_bnot, p_beq, p_min, p_max, p_len, p_int, p_nth, p_sub, p_rsub, p_ridx, p_rnth, p_rset, p_rapp, p_rlen, p_addN, p_full, p_fits, p_frz, p_own, p_opn, p_lend, p_rmov, p_rout, p_both, p_yI, p_ofB, p_byW, p_mkN, p_rep, p_copy⟩ := p
  have h_catOk : p_catOk = prims.catOk := congrArg Prims.catOk hp
  have h_scat : p_scat = prims.scat := congrArg Prims.scat hp
  clear hp
  unfold Has_s_spec_FormatName at hF_s_spec_FormatName
  rw [← hm_string] at hF_s_spec_FormatName
  unfold Has_s_spec_FormatInt at hF_s_spec_FormatInt
  generalize hal : (fun (F : St → (Ex → St → Option (List Arg)) → Option (List Arg)) lv => aloop F lv fuel) = al
  rw [s_spec_FormatInterest, ← h_catOk, ← h_scat]
  conv => lhs; cbv
  rw [hF_s_spec_FormatName a0.name]
  refine cO (fun hx2 => ?_) ?_
  · rw [hx2]
    first | done | rfl
  · rintro r1 hx2
    rw [hx2]
    conv => lhs; cbv
    refine cC (fun hb3 => ?_) (fun hb3 => ?_)
    · rw [if_pos hb3]
      try rw [hb3]
      conv => lhs; cbv
      rw [hF_s_spec_FormatInt a0.nonce]
      refine cO (fun hx5 => ?_) ?_
      · rw [hx5]
        first | done | rfl
      · rintro r4 hx5
        rw [hx5]
        conv => lhs; cbv
        refine cC (fun hb6 => ?_) (fun hb6 => ?_)
        · rw [if_pos hb6]
          try rw [hb6]
          conv => lhs; cbv
          first | done | rfl
        · rw [if_neg (Bool.eq_false_iff.1 hb6)]
          try rw [hb6]
          conv => lhs; cbv
          first | done | rfl
    · rw [if_neg (Bool.eq_false_iff.1 hb3)]
      try rw [hb3]
      conv => lhs; cbv
      first | done | rfl
def s_spec_FormatPacket (a0 : DPacketInFlight) : Option (ByteArray) := (s_spec_FormatInt a0.dest).bind fun r1 => bif prims.catOk r1 (ByteArray.mk (Array.mk [46])) then ((s_spec_FormatInt a0.face).bind fun r4 => bif prims.catOk (prims.scat r1 (ByteArray.mk (Array.mk [46]))) r4 then (bif prims.catOk (prims.scat (prims.scat r1 (ByteArray.mk (Array.mk [46]))) r4) (ByteArray.mk (Array.mk [32])) then (bif a0.isInterest then ((s_spec_FormatInterest a0.interest).bind fun r9 => bif prims.catOk (prims.scat (prims.scat (prims.scat r1 (ByteArray.mk (Array.mk [46]))) r4) (ByteArray.mk (Array.mk [32]))) r9 then (some (prims.scat (prims.scat (prims.scat (prims.scat r1 (ByteArray.mk (Array.mk [46]))) r4) (ByteArray.mk (Array.mk [32]))) r9)) else none) else ((s_spec_FormatData a0.data).bind fun r12 => bif prims.catOk (prims.scat (prims.scat (prims.scat r1 (ByteArray.mk (Array.mk [46]))) r4) (ByteArray.mk (Array.mk [32]))) r12 then (some (prims.scat (prims.scat (prims.scat (prims.scat r1 (ByteArray.mk (Array.mk [46]))) r4) (ByteArray.mk (Array.mk [32]))) r12)) else none)) else none) else none) else none
def Has_s_spec_FormatPacket (F : Fns) : Prop := ∀ (a0 : DPacketInFlight), F 19 [.a [.at (.int .i64 a0.dest), .at (.int .i64 a0.face), .at (.bool a0.isInterest), .sl 9 1 (List.map eS a0.interest.name), .at (.int .i64 a0.interest.nonce), .at (.int .i64 a0.interest.hopLimit), .at (.int .i64 a0.interest.lifetime), .sl 9 1 (List.map eS a0.data.name), .sl 5 1 (List.map eY a0.data.content), .sl 9 1 (List.map eS a0.data.keyName), .at (.int .i64 a0.data.freshUntil), .at (.int .i64 a0.data.signature)]] = (s_spec_FormatPacket a0).bind fun r => some [.v (.at (.string r))]
set_option maxHeartbeats 40000000 in
theorem e_s_spec_FormatPacket (F : Fns) (hF_s_spec_FormatInt : Has_s_spec_FormatInt F) (hF_s_spec_FormatInterest : Has_s_spec_FormatInterest F) (hF_s_spec_FormatData : Has_s_spec_FormatData F) (a0 : DPacketInFlight) : evBody prims (fun F lv => aloop F lv fuel) TY F ⟨Tryd.f19, Tryd.f19.body.getD .skip, fun _ => []⟩ [.a [.at (.int .i64 a0.dest), .at (.int .i64 a0.face), .at (.bool a0.isInterest), .sl 9 1 (List.map eS a0.interest.name), .at (.int .i64 a0.interest.nonce), .at (.int .i64 a0.interest.hopLimit), .at (.int .i64 a0.interest.lifetime), .sl 9 1 (List.map eS a0.data.name), .sl 5 1 (List.map eY a0.data.content), .sl 9 1 (List.map eS a0.data.keyName), .at (.int .i64 a0.data.freshUntil), .at (.int .i64 a0.data.signature)]] = (s_spec_FormatPacket a0).bind fun r => some [.v (.at (.string r))] := by
  obtain ⟨p, hp⟩ : ∃ p : Prims, p = prims := ⟨_, rfl⟩
  obtain ⟨m_byte, hm_byte⟩ : ∃ m, m = List.map eY := ⟨_, rfl⟩
  obtain ⟨m_string, hm_string⟩ : ∃ m, m = List.map eS := ⟨_, rfl⟩
  rw [← hp]
  rw [← hm_byte, ← hm_string]
  obtain ⟨p_arith, p_cmp, p_wrap, p_scmp, p_scat, p_catOk, p_ssize, p_sat, p_ssub, p_bytes, p_str, p_bnot, p_beq, p_min, p_max, p_len, p_int, p_nth, p_sub, p_rsub, p_ridx, p_rnth, p_rset, p_rapp, p_rlen, p_addN, p_full, p_fits, p_frz, p_own, p_opn, p_lend, p_rmov, p_rout, p_both, p_yI, p_ofB, p_byW, p_mkN, p_rep, p_copy⟩ := p
  have h_catOk : p_catOk = prims.catOk := congrArg Prims.catOk hp
  have h_scat : p_scat = prims.scat := congrArg Prims.scat hp
  clear hp
  unfold Has_s_spec_FormatInt at hF_s_spec_FormatInt
  unfold Has_s_spec_FormatInterest at hF_s_spec_FormatInterest
  rw [← hm_string] at hF_s_spec_FormatInterest
  unfold Has_s_spec_FormatData at hF_s_spec_FormatData
  rw [← hm_byte, ← hm_string] at hF_s_spec_FormatData
  generalize hal : (fun (F : St → (Ex → St → Option (List Arg)) → Option (List Arg)) lv => aloop F lv fuel) = al
  rw [s_spec_FormatPacket, ← h_catOk, ← h_scat]
  conv => lhs; cbv
  rw [hF_s_spec_FormatInt a0.dest]
  refine cO (fun hx2 => ?_) ?_
  · rw [hx2]
    first | done | rfl
  · rintro r1 hx2
    rw [hx2]
    conv => lhs; cbv
    refine cC (fun hb3 => ?_) (fun hb3 => ?_)
    · rw [if_pos hb3]
      try rw [hb3]
      conv => lhs; cbv
      rw [hF_s_spec_FormatInt a0.face]
      refine cO (fun hx5 => ?_) ?_
      · rw [hx5]
        first | done | rfl
      · rintro r4 hx5
        rw [hx5]
        conv => lhs; cbv
        refine cC (fun hb6 => ?_) (fun hb6 => ?_)
        · rw [if_pos hb6]
          try rw [hb6]
          conv => lhs; cbv
          refine cC (fun hb7 => ?_) (fun hb7 => ?_)
          · rw [if_pos hb7]
            try rw [hb7]
            conv => lhs; cbv
            refine cC (fun hb8 => ?_) (fun hb8 => ?_)
            · first | rw [hb8] | rw [if_pos hb8] | simp only [hb8]
              conv => lhs; cbv
              rw [hF_s_spec_FormatInterest a0.interest]
              refine cO (fun hx10 => ?_) ?_
              · rw [hx10]
                first | done | rfl
              · rintro r9 hx10
                rw [hx10]
                conv => lhs; cbv
                refine cC (fun hb11 => ?_) (fun hb11 => ?_)
                · rw [if_pos hb11]
                  try rw [hb11]
                  conv => lhs; cbv
                  first | done | rfl
                · rw [if_neg (Bool.eq_false_iff.1 hb11)]
                  try rw [hb11]
                  conv => lhs; cbv
                  first | done | rfl
            · first | rw [hb8] | rw [if_neg (Bool.eq_false_iff.1 hb8)] | simp only [hb8]
              conv => lhs; cbv
              rw [hF_s_spec_FormatData a0.data]
              refine cO (fun hx13 => ?_) ?_
              · rw [hx13]
                first | done | rfl
              · rintro r12 hx13
                rw [hx13]
                conv => lhs; cbv
                refine cC (fun hb14 => ?_) (fun hb14 => ?_)
                · rw [if_pos hb14]
                  try rw [hb14]
                  conv => lhs; cbv
                  first | done | rfl
                · rw [if_neg (Bool.eq_false_iff.1 hb14)]
                  try rw [hb14]
                  conv => lhs; cbv
                  first | done | rfl
          · rw [if_neg (Bool.eq_false_iff.1 hb7)]
            try rw [hb7]
            conv => lhs; cbv
            first | done | rfl
        · rw [if_neg (Bool.eq_false_iff.1 hb6)]
          try rw [hb6]
          conv => lhs; cbv
          first | done | rfl
    · rw [if_neg (Bool.eq_false_iff.1 hb3)]
      try rw [hb3]
      conv => lhs; cbv
      first | done | rfl
def s_impl_FormatInterest (a0 : DInterest) : Option (ByteArray) := (s_impl_FormatName a0.name).bind fun r1 => bif prims.catOk r1 (ByteArray.mk (Array.mk [63])) then ((s_impl_FormatInt a0.nonce).bind fun r4 => bif prims.catOk (prims.scat r1 (ByteArray.mk (Array.mk [63]))) r4 then (some (prims.scat (prims.scat r1 (ByteArray.mk (Array.mk [63]))) r4)) else none) else none
def Has_s_impl_FormatInterest (F : Fns) : Prop := ∀ (a0 : DInterest), F 54 [.a [.sl 9 1 (List.map eS a0.name), .at (.int .i64 a0.nonce), .at (.int .i64 a0.hopLimit), .at (.int .i64 a0.lifetime)]] = (s_impl_FormatInterest a0).bind fun r => some [.v (.at (.string r))]
set_option maxHeartbeats 40000000 in
theorem e_s_impl_FormatInterest (F : Fns) (hF_s_impl_FormatName : Has_s_impl_FormatName F) (hF_s_impl_FormatInt : Has_s_impl_FormatInt F) (a0 : DInterest) : evBody prims (fun F lv => aloop F lv fuel) TY F ⟨Tryd.f54, Tryd.f54.body.getD .skip, fun _ => []⟩ [.a [.sl 9 1 (List.map eS a0.name), .at (.int .i64 a0.nonce), .at (.int .i64 a0.hopLimit), .at (.int .i64 a0.lifetime)]] = (s_impl_FormatInterest a0).bind fun r => some [.v (.at (.string r))] := by
  obtain ⟨p, hp⟩ : ∃ p : Prims, p = prims := ⟨_, rfl⟩
  obtain ⟨m_string, hm_string⟩ : ∃ m, m = List.map eS := ⟨_, rfl⟩
  rw [← hp]
  rw [← hm_string]
  obtain ⟨p_arith, p_cmp, p_wrap, p_scmp, p_scat, p_catOk, p_ssize, p_sat, p_ssub, p_bytes, p_str, p_bnot, p_beq, p_min, p_max, p_len, p_int, p_nth, p_sub, p_rsub, p_ridx, p_rnth, p_rset, p_rapp, p_rlen, p_addN, p_full, p_fits, p_frz, p_own, p_opn, p_lend, p_rmov, p_rout, p_both, p_yI, p_ofB, p_byW, p_mkN, p_rep, p_copy⟩ := p
  have h_catOk : p_catOk = prims.catOk := congrArg Prims.catOk hp
  have h_scat : p_scat = prims.scat := congrArg Prims.scat hp
  clear hp
  unfold Has_s_impl_FormatName at hF_s_impl_FormatName
  rw [← hm_string] at hF_s_impl_FormatName
  unfold Has_s_impl_FormatInt at hF_s_impl_FormatInt
  generalize hal : (fun (F : St → (Ex → St → Option (List Arg)) → Option (List Arg)) lv => aloop F lv fuel) = al
  rw [s_impl_FormatInterest, ← h_catOk, ← h_scat]
  conv => lhs; cbv
  rw [hF_s_impl_FormatName a0.name]
  refine cO (fun hx2 => ?_) ?_
  · rw [hx2]
    first | done | rfl
  · rintro r1 hx2
    rw [hx2]
    conv => lhs; cbv
    refine cC (fun hb3 => ?_) (fun hb3 => ?_)
    · rw [if_pos hb3]
      try rw [hb3]
      conv => lhs; cbv
      rw [hF_s_impl_FormatInt a0.nonce]
      refine cO (fun hx5 => ?_) ?_
      · rw [hx5]
        first | done | rfl
      · rintro r4 hx5
        rw [hx5]
        conv => lhs; cbv
        refine cC (fun hb6 => ?_) (fun hb6 => ?_)
        · rw [if_pos hb6]
          try rw [hb6]
          conv => lhs; cbv
          first | done | rfl
        · rw [if_neg (Bool.eq_false_iff.1 hb6)]
          try rw [hb6]
          conv => lhs; cbv
          first | done | rfl
    · rw [if_neg (Bool.eq_false_iff.1 hb3)]
      try rw [hb3]
      conv => lhs; cbv
      first | done | rfl
def s_impl_FormatPacket (a0 : DPacketInFlight) : Option (ByteArray) := (s_impl_FormatData a0.data).bind fun r1 => bif a0.isInterest then ((s_impl_FormatInterest a0.interest).bind fun r4 => (s_impl_FormatInt a0.dest).bind fun r6 => bif prims.catOk r6 (ByteArray.mk (Array.mk [46])) then ((s_impl_FormatInt a0.face).bind fun r9 => bif prims.catOk (prims.scat r6 (ByteArray.mk (Array.mk [46]))) r9 then (bif prims.catOk (prims.scat (prims.scat r6 (ByteArray.mk (Array.mk [46]))) r9) (ByteArray.mk (Array.mk [32])) then (bif prims.catOk (prims.scat (prims.scat (prims.scat r6 (ByteArray.mk (Array.mk [46]))) r9) (ByteArray.mk (Array.mk [32]))) r4 then (some (prims.scat (prims.scat (prims.scat (prims.scat r6 (ByteArray.mk (Array.mk [46]))) r9) (ByteArray.mk (Array.mk [32]))) r4)) else none) else none) else none) else none) else ((s_impl_FormatInt a0.dest).bind fun r14 => bif prims.catOk r14 (ByteArray.mk (Array.mk [46])) then ((s_impl_FormatInt a0.face).bind fun r17 => bif prims.catOk (prims.scat r14 (ByteArray.mk (Array.mk [46]))) r17 then (bif prims.catOk (prims.scat (prims.scat r14 (ByteArray.mk (Array.mk [46]))) r17) (ByteArray.mk (Array.mk [32])) then (bif prims.catOk (prims.scat (prims.scat (prims.scat r14 (ByteArray.mk (Array.mk [46]))) r17) (ByteArray.mk (Array.mk [32]))) r1 then (some (prims.scat (prims.scat (prims.scat (prims.scat r14 (ByteArray.mk (Array.mk [46]))) r17) (ByteArray.mk (Array.mk [32]))) r1)) else none) else none) else none) else none)
def Has_s_impl_FormatPacket (F : Fns) : Prop := ∀ (a0 : DPacketInFlight), F 21 [.a [.at (.int .i64 a0.dest), .at (.int .i64 a0.face), .at (.bool a0.isInterest), .sl 9 1 (List.map eS a0.interest.name), .at (.int .i64 a0.interest.nonce), .at (.int .i64 a0.interest.hopLimit), .at (.int .i64 a0.interest.lifetime), .sl 9 1 (List.map eS a0.data.name), .sl 5 1 (List.map eY a0.data.content), .sl 9 1 (List.map eS a0.data.keyName), .at (.int .i64 a0.data.freshUntil), .at (.int .i64 a0.data.signature)]] = (s_impl_FormatPacket a0).bind fun r => some [.v (.at (.string r))]
set_option maxHeartbeats 40000000 in
theorem e_s_impl_FormatPacket (F : Fns) (hF_s_impl_FormatData : Has_s_impl_FormatData F) (hF_s_impl_FormatInterest : Has_s_impl_FormatInterest F) (hF_s_impl_FormatInt : Has_s_impl_FormatInt F) (a0 : DPacketInFlight) : evBody prims (fun F lv => aloop F lv fuel) TY F ⟨Tryd.f21, Tryd.f21.body.getD .skip, fun _ => []⟩ [.a [.at (.int .i64 a0.dest), .at (.int .i64 a0.face), .at (.bool a0.isInterest), .sl 9 1 (List.map eS a0.interest.name), .at (.int .i64 a0.interest.nonce), .at (.int .i64 a0.interest.hopLimit), .at (.int .i64 a0.interest.lifetime), .sl 9 1 (List.map eS a0.data.name), .sl 5 1 (List.map eY a0.data.content), .sl 9 1 (List.map eS a0.data.keyName), .at (.int .i64 a0.data.freshUntil), .at (.int .i64 a0.data.signature)]] = (s_impl_FormatPacket a0).bind fun r => some [.v (.at (.string r))] := by
  obtain ⟨p, hp⟩ : ∃ p : Prims, p = prims := ⟨_, rfl⟩
  obtain ⟨m_byte, hm_byte⟩ : ∃ m, m = List.map eY := ⟨_, rfl⟩
  obtain ⟨m_string, hm_string⟩ : ∃ m, m = List.map eS := ⟨_, rfl⟩
  rw [← hp]
  rw [← hm_byte, ← hm_string]
  obtain ⟨p_arith, p_cmp, p_wrap, p_scmp, p_scat, p_catOk, p_ssize, p_sat, p_ssub, p_bytes, p_str, p_bnot, p_beq, p_min, p_max, p_len, p_int, p_nth, p_sub, p_rsub, p_ridx, p_rnth, p_rset, p_rapp, p_rlen, p_addN, p_full, p_fits, p_frz, p_own, p_opn, p_lend, p_rmov, p_rout, p_both, p_yI, p_ofB, p_byW, p_mkN, p_rep, p_copy⟩ := p
  have h_catOk : p_catOk = prims.catOk := congrArg Prims.catOk hp
  have h_scat : p_scat = prims.scat := congrArg Prims.scat hp
  clear hp
  unfold Has_s_impl_FormatData at hF_s_impl_FormatData
  rw [← hm_byte, ← hm_string] at hF_s_impl_FormatData
  unfold Has_s_impl_FormatInterest at hF_s_impl_FormatInterest
  rw [← hm_string] at hF_s_impl_FormatInterest
  unfold Has_s_impl_FormatInt at hF_s_impl_FormatInt
  generalize hal : (fun (F : St → (Ex → St → Option (List Arg)) → Option (List Arg)) lv => aloop F lv fuel) = al
  rw [s_impl_FormatPacket, ← h_catOk, ← h_scat]
  conv => lhs; cbv
  rw [hF_s_impl_FormatData a0.data]
  refine cO (fun hx2 => ?_) ?_
  · rw [hx2]
    first | done | rfl
  · rintro r1 hx2
    rw [hx2]
    conv => lhs; cbv
    refine cC (fun hb3 => ?_) (fun hb3 => ?_)
    · first | rw [hb3] | rw [if_pos hb3] | simp only [hb3]
      conv => lhs; cbv
      rw [hF_s_impl_FormatInterest a0.interest]
      refine cO (fun hx5 => ?_) ?_
      · rw [hx5]
        first | done | rfl
      · rintro r4 hx5
        rw [hx5]
        conv => lhs; cbv
        rw [hF_s_impl_FormatInt a0.dest]
        refine cO (fun hx7 => ?_) ?_
        · rw [hx7]
          first | done | rfl
        · rintro r6 hx7
          rw [hx7]
          conv => lhs; cbv
          refine cC (fun hb8 => ?_) (fun hb8 => ?_)
          · rw [if_pos hb8]
            try rw [hb8]
            conv => lhs; cbv
            rw [hF_s_impl_FormatInt a0.face]
            refine cO (fun hx10 => ?_) ?_
            · rw [hx10]
              first | done | rfl
            · rintro r9 hx10
              rw [hx10]
              conv => lhs; cbv
              refine cC (fun hb11 => ?_) (fun hb11 => ?_)
              · rw [if_pos hb11]
                try rw [hb11]
                conv => lhs; cbv
                refine cC (fun hb12 => ?_) (fun hb12 => ?_)
                · rw [if_pos hb12]
                  try rw [hb12]
                  conv => lhs; cbv
                  refine cC (fun hb13 => ?_) (fun hb13 => ?_)
                  · rw [if_pos hb13]
                    try rw [hb13]
                    conv => lhs; cbv
                    first | done | rfl
                  · rw [if_neg (Bool.eq_false_iff.1 hb13)]
                    try rw [hb13]
                    conv => lhs; cbv
                    first | done | rfl
                · rw [if_neg (Bool.eq_false_iff.1 hb12)]
                  try rw [hb12]
                  conv => lhs; cbv
                  first | done | rfl
              · rw [if_neg (Bool.eq_false_iff.1 hb11)]
                try rw [hb11]
                conv => lhs; cbv
                first | done | rfl
          · rw [if_neg (Bool.eq_false_iff.1 hb8)]
            try rw [hb8]
            conv => lhs; cbv
            first | done | rfl
    · first | rw [hb3] | rw [if_neg (Bool.eq_false_iff.1 hb3)] | simp only [hb3]
      conv => lhs; cbv
      rw [hF_s_impl_FormatInt a0.dest]
      refine cO (fun hx15 => ?_) ?_
      · rw [hx15]
        first | done | rfl
      · rintro r14 hx15
        rw [hx15]
        conv => lhs; cbv
        refine cC (fun hb16 => ?_) (fun hb16 => ?_)
        · rw [if_pos hb16]
          try rw [hb16]
          conv => lhs; cbv
          rw [hF_s_impl_FormatInt a0.face]
          refine cO (fun hx18 => ?_) ?_
          · rw [hx18]
            first | done | rfl
          · rintro r17 hx18
            rw [hx18]
            conv => lhs; cbv
            refine cC (fun hb19 => ?_) (fun hb19 => ?_)
            · rw [if_pos hb19]
              try rw [hb19]
              conv => lhs; cbv
              refine cC (fun hb20 => ?_) (fun hb20 => ?_)
              · rw [if_pos hb20]
                try rw [hb20]
                conv => lhs; cbv
                refine cC (fun hb21 => ?_) (fun hb21 => ?_)
                · rw [if_pos hb21]
                  try rw [hb21]
                  conv => lhs; cbv
                  first | done | rfl
                · rw [if_neg (Bool.eq_false_iff.1 hb21)]
                  try rw [hb21]
                  conv => lhs; cbv
                  first | done | rfl
              · rw [if_neg (Bool.eq_false_iff.1 hb20)]
                try rw [hb20]
                conv => lhs; cbv
                first | done | rfl
            · rw [if_neg (Bool.eq_false_iff.1 hb19)]
              try rw [hb19]
              conv => lhs; cbv
              first | done | rfl
        · rw [if_neg (Bool.eq_false_iff.1 hb16)]
          try rw [hb16]
          conv => lhs; cbv
          first | done | rfl
def s_laws_eqInterest (a0 : DInterest) (a1 : DInterest) : Option (Bool) := (s_laws_eqName a0.name a1.name).bind fun r1 => bif prims.bnot r1 then (some false) else (bif prims.cmp .neq a0.nonce a1.nonce then (some false) else (bif prims.cmp .neq a0.hopLimit a1.hopLimit then (some false) else (bif prims.cmp .neq a0.lifetime a1.lifetime then (some false) else (some true))))
def Has_s_laws_eqInterest (F : Fns) : Prop := ∀ (a0 : DInterest) (a1 : DInterest), F 55 [.a [.sl 9 1 (List.map eS a0.name), .at (.int .i64 a0.nonce), .at (.int .i64 a0.hopLimit), .at (.int .i64 a0.lifetime)], .a [.sl 9 1 (List.map eS a1.name), .at (.int .i64 a1.nonce), .at (.int .i64 a1.hopLimit), .at (.int .i64 a1.lifetime)]] = (s_laws_eqInterest a0 a1).bind fun r => some [.v (.at (.bool r))]
set_option maxHeartbeats 40000000 in
theorem e_s_laws_eqInterest (F : Fns) (hF_s_laws_eqName : Has_s_laws_eqName F) (a0 : DInterest) (a1 : DInterest) : evBody prims (fun F lv => aloop F lv fuel) TY F ⟨Tryd.f55, Tryd.f55.body.getD .skip, fun _ => []⟩ [.a [.sl 9 1 (List.map eS a0.name), .at (.int .i64 a0.nonce), .at (.int .i64 a0.hopLimit), .at (.int .i64 a0.lifetime)], .a [.sl 9 1 (List.map eS a1.name), .at (.int .i64 a1.nonce), .at (.int .i64 a1.hopLimit), .at (.int .i64 a1.lifetime)]] = (s_laws_eqInterest a0 a1).bind fun r => some [.v (.at (.bool r))] := by
  obtain ⟨p, hp⟩ : ∃ p : Prims, p = prims := ⟨_, rfl⟩
  obtain ⟨m_string, hm_string⟩ : ∃ m, m = List.map eS := ⟨_, rfl⟩
  rw [← hp]
  rw [← hm_string]
  obtain ⟨p_arith, p_cmp, p_wrap, p_scmp, p_scat, p_catOk, p_ssize, p_sat, p_ssub, p_bytes, p_str, p_bnot, p_beq, p_min, p_max, p_len, p_int, p_nth, p_sub, p_rsub, p_ridx, p_rnth, p_rset, p_rapp, p_rlen, p_addN, p_full, p_fits, p_frz, p_own, p_opn, p_lend, p_rmov, p_rout, p_both, p_yI, p_ofB, p_byW, p_mkN, p_rep, p_copy⟩ := p
  have h_bnot : p_bnot = prims.bnot := congrArg Prims.bnot hp
  have h_cmp : p_cmp = prims.cmp := congrArg Prims.cmp hp
  clear hp
  unfold Has_s_laws_eqName at hF_s_laws_eqName
  rw [← hm_string] at hF_s_laws_eqName
  generalize hal : (fun (F : St → (Ex → St → Option (List Arg)) → Option (List Arg)) lv => aloop F lv fuel) = al
  rw [s_laws_eqInterest, ← h_bnot, ← h_cmp]
  conv => lhs; cbv
  rw [hF_s_laws_eqName a0.name a1.name]
  refine cO (fun hx2 => ?_) ?_
  · rw [hx2]
    first | done | rfl
  · rintro r1 hx2
    rw [hx2]
    conv => lhs; cbv
    refine cC (fun hb3 => ?_) (fun hb3 => ?_)
    · rw [hb3]
      conv => lhs; cbv
      first | done | rfl
    · rw [hb3]
      conv => lhs; cbv
      refine cC (fun hb4 => ?_) (fun hb4 => ?_)
      · rw [hb4]
        conv => lhs; cbv
        first | done | rfl
      · rw [hb4]
        conv => lhs; cbv
        refine cC (fun hb5 => ?_) (fun hb5 => ?_)
        · rw [hb5]
          conv => lhs; cbv
          first | done | rfl
        · rw [hb5]
          conv => lhs; cbv
          refine cC (fun hb6 => ?_) (fun hb6 => ?_)
          · rw [hb6]
            conv => lhs; cbv
            first | done | rfl
          · rw [hb6]
            conv => lhs; cbv
            first | done | rfl
def s_laws_eqPacketInFlight (a0 : DPacketInFlight) (a1 : DPacketInFlight) : Option (Bool) := bif prims.cmp .neq a0.dest a1.dest then (some false) else (bif prims.cmp .neq a0.face a1.face then (some false) else (bif prims.bnot (prims.beq a0.isInterest a1.isInterest) then (some false) else ((s_laws_eqInterest a0.interest a1.interest).bind fun r4 => bif prims.bnot r4 then (some false) else ((s_laws_eqData a0.data a1.data).bind fun r7 => bif prims.bnot r7 then (some false) else (some true)))))
def Has_s_laws_eqPacketInFlight (F : Fns) : Prop := ∀ (a0 : DPacketInFlight) (a1 : DPacketInFlight), F 22 [.a [.at (.int .i64 a0.dest), .at (.int .i64 a0.face), .at (.bool a0.isInterest), .sl 9 1 (List.map eS a0.interest.name), .at (.int .i64 a0.interest.nonce), .at (.int .i64 a0.interest.hopLimit), .at (.int .i64 a0.interest.lifetime), .sl 9 1 (List.map eS a0.data.name), .sl 5 1 (List.map eY a0.data.content), .sl 9 1 (List.map eS a0.data.keyName), .at (.int .i64 a0.data.freshUntil), .at (.int .i64 a0.data.signature)], .a [.at (.int .i64 a1.dest), .at (.int .i64 a1.face), .at (.bool a1.isInterest), .sl 9 1 (List.map eS a1.interest.name), .at (.int .i64 a1.interest.nonce), .at (.int .i64 a1.interest.hopLimit), .at (.int .i64 a1.interest.lifetime), .sl 9 1 (List.map eS a1.data.name), .sl 5 1 (List.map eY a1.data.content), .sl 9 1 (List.map eS a1.data.keyName), .at (.int .i64 a1.data.freshUntil), .at (.int .i64 a1.data.signature)]] = (s_laws_eqPacketInFlight a0 a1).bind fun r => some [.v (.at (.bool r))]
set_option maxHeartbeats 40000000 in
theorem e_s_laws_eqPacketInFlight (F : Fns) (hF_s_laws_eqInterest : Has_s_laws_eqInterest F) (hF_s_laws_eqData : Has_s_laws_eqData F) (a0 : DPacketInFlight) (a1 : DPacketInFlight) : evBody prims (fun F lv => aloop F lv fuel) TY F ⟨Tryd.f22, Tryd.f22.body.getD .skip, fun _ => []⟩ [.a [.at (.int .i64 a0.dest), .at (.int .i64 a0.face), .at (.bool a0.isInterest), .sl 9 1 (List.map eS a0.interest.name), .at (.int .i64 a0.interest.nonce), .at (.int .i64 a0.interest.hopLimit), .at (.int .i64 a0.interest.lifetime), .sl 9 1 (List.map eS a0.data.name), .sl 5 1 (List.map eY a0.data.content), .sl 9 1 (List.map eS a0.data.keyName), .at (.int .i64 a0.data.freshUntil), .at (.int .i64 a0.data.signature)], .a [.at (.int .i64 a1.dest), .at (.int .i64 a1.face), .at (.bool a1.isInterest), .sl 9 1 (List.map eS a1.interest.name), .at (.int .i64 a1.interest.nonce), .at (.int .i64 a1.interest.hopLimit), .at (.int .i64 a1.interest.lifetime), .sl 9 1 (List.map eS a1.data.name), .sl 5 1 (List.map eY a1.data.content), .sl 9 1 (List.map eS a1.data.keyName), .at (.int .i64 a1.data.freshUntil), .at (.int .i64 a1.data.signature)]] = (s_laws_eqPacketInFlight a0 a1).bind fun r => some [.v (.at (.bool r))] := by
  obtain ⟨p, hp⟩ : ∃ p : Prims, p = prims := ⟨_, rfl⟩
  obtain ⟨m_byte, hm_byte⟩ : ∃ m, m = List.map eY := ⟨_, rfl⟩
  obtain ⟨m_string, hm_string⟩ : ∃ m, m = List.map eS := ⟨_, rfl⟩
  rw [← hp]
  rw [← hm_byte, ← hm_string]
  obtain ⟨p_arith, p_cmp, p_wrap, p_scmp, p_scat, p_catOk, p_ssize, p_sat, p_ssub, p_bytes, p_str, p_bnot, p_beq, p_min, p_max, p_len, p_int, p_nth, p_sub, p_rsub, p_ridx, p_rnth, p_rset, p_rapp, p_rlen, p_addN, p_full, p_fits, p_frz, p_own, p_opn, p_lend, p_rmov, p_rout, p_both, p_yI, p_ofB, p_byW, p_mkN, p_rep, p_copy⟩ := p
  have h_beq : p_beq = prims.beq := congrArg Prims.beq hp
  have h_bnot : p_bnot = prims.bnot := congrArg Prims.bnot hp
  have h_cmp : p_cmp = prims.cmp := congrArg Prims.cmp hp
  clear hp
  unfold Has_s_laws_eqInterest at hF_s_laws_eqInterest
  rw [← hm_string] at hF_s_laws_eqInterest
  unfold Has_s_laws_eqData at hF_s_laws_eqData
  rw [← hm_byte, ← hm_string] at hF_s_laws_eqData
  generalize hal : (fun (F : St → (Ex → St → Option (List Arg)) → Option (List Arg)) lv => aloop F lv fuel) = al
  rw [s_laws_eqPacketInFlight, ← h_beq, ← h_bnot, ← h_cmp]
  conv => lhs; cbv
  refine cC (fun hb1 => ?_) (fun hb1 => ?_)
  · rw [hb1]
    conv => lhs; cbv
    first | done | rfl
  · rw [hb1]
    conv => lhs; cbv
    refine cC (fun hb2 => ?_) (fun hb2 => ?_)
    · rw [hb2]
      conv => lhs; cbv
      first | done | rfl
    · rw [hb2]
      conv => lhs; cbv
      refine cC (fun hb3 => ?_) (fun hb3 => ?_)
      · rw [hb3]
        conv => lhs; cbv
        first | done | rfl
      · rw [hb3]
        conv => lhs; cbv
        rw [hF_s_laws_eqInterest a0.interest a1.interest]
        refine cO (fun hx5 => ?_) ?_
        · rw [hx5]
          first | done | rfl
        · rintro r4 hx5
          rw [hx5]
          conv => lhs; cbv
          refine cC (fun hb6 => ?_) (fun hb6 => ?_)
          · rw [hb6]
            conv => lhs; cbv
            first | done | rfl
          · rw [hb6]
            conv => lhs; cbv
            rw [hF_s_laws_eqData a0.data a1.data]
            refine cO (fun hx8 => ?_) ?_
            · rw [hx8]
              first | done | rfl
            · rintro r7 hx8
              rw [hx8]
              conv => lhs; cbv
              refine cC (fun hb9 => ?_) (fun hb9 => ?_)
              · rw [hb9]
                conv => lhs; cbv
                first | done | rfl
              · rw [hb9]
                conv => lhs; cbv
                first | done | rfl
def s_laws_FnExactFormatPacket (a0 : DPacketInFlight) : Option (Bool) := (s_laws_szPacketInFlight a0 1048576).bind fun r1 => bif prims.cmp .lss r1 0 then (some true) else ((s_laws_toPacketInFlight a0).bind fun r4 => (s_spec_FormatPacket r4).bind fun r6 => (s_impl_FormatPacket r4).bind fun r9 => bif prims.scmp .neq r9 r6 then (some false) else ((s_laws_eqPacketInFlight r4 r4).bind fun r13 => bif prims.bnot r13 then (some false) else (some true)))
def Has_s_laws_FnExactFormatPacket (F : Fns) : Prop := ∀ (a0 : DPacketInFlight), F 5 [.a [.at (.int .i64 a0.dest), .at (.int .i64 a0.face), .at (.bool a0.isInterest), .sl 9 1 (List.map eS a0.interest.name), .at (.int .i64 a0.interest.nonce), .at (.int .i64 a0.interest.hopLimit), .at (.int .i64 a0.interest.lifetime), .sl 9 1 (List.map eS a0.data.name), .sl 5 1 (List.map eY a0.data.content), .sl 9 1 (List.map eS a0.data.keyName), .at (.int .i64 a0.data.freshUntil), .at (.int .i64 a0.data.signature)]] = (s_laws_FnExactFormatPacket a0).bind fun r => some [.v (.at (.bool r))]
set_option maxHeartbeats 40000000 in
theorem e_s_laws_FnExactFormatPacket (F : Fns) (hF_s_laws_szPacketInFlight : Has_s_laws_szPacketInFlight F) (hF_s_laws_toPacketInFlight : Has_s_laws_toPacketInFlight F) (hF_s_spec_FormatPacket : Has_s_spec_FormatPacket F) (hF_s_impl_FormatPacket : Has_s_impl_FormatPacket F) (hF_s_laws_eqPacketInFlight : Has_s_laws_eqPacketInFlight F) (a0 : DPacketInFlight) : evBody prims (fun F lv => aloop F lv fuel) TY F ⟨Tryd.f5, Tryd.f5.body.getD .skip, fun _ => []⟩ [.a [.at (.int .i64 a0.dest), .at (.int .i64 a0.face), .at (.bool a0.isInterest), .sl 9 1 (List.map eS a0.interest.name), .at (.int .i64 a0.interest.nonce), .at (.int .i64 a0.interest.hopLimit), .at (.int .i64 a0.interest.lifetime), .sl 9 1 (List.map eS a0.data.name), .sl 5 1 (List.map eY a0.data.content), .sl 9 1 (List.map eS a0.data.keyName), .at (.int .i64 a0.data.freshUntil), .at (.int .i64 a0.data.signature)]] = (s_laws_FnExactFormatPacket a0).bind fun r => some [.v (.at (.bool r))] := by
  obtain ⟨p, hp⟩ : ∃ p : Prims, p = prims := ⟨_, rfl⟩
  obtain ⟨m_byte, hm_byte⟩ : ∃ m, m = List.map eY := ⟨_, rfl⟩
  obtain ⟨m_string, hm_string⟩ : ∃ m, m = List.map eS := ⟨_, rfl⟩
  rw [← hp]
  rw [← hm_byte, ← hm_string]
  obtain ⟨p_arith, p_cmp, p_wrap, p_scmp, p_scat, p_catOk, p_ssize, p_sat, p_ssub, p_bytes, p_str, p_bnot, p_beq, p_min, p_max, p_len, p_int, p_nth, p_sub, p_rsub, p_ridx, p_rnth, p_rset, p_rapp, p_rlen, p_addN, p_full, p_fits, p_frz, p_own, p_opn, p_lend, p_rmov, p_rout, p_both, p_yI, p_ofB, p_byW, p_mkN, p_rep, p_copy⟩ := p
  have h_bnot : p_bnot = prims.bnot := congrArg Prims.bnot hp
  have h_cmp : p_cmp = prims.cmp := congrArg Prims.cmp hp
  have h_frz : p_frz = prims.frz := congrArg Prims.frz hp
  have h_len : p_len = prims.len := congrArg Prims.len hp
  have h_opn : p_opn = prims.opn := congrArg Prims.opn hp
  have h_scmp : p_scmp = prims.scmp := congrArg Prims.scmp hp
  clear hp
  have frz_byte := @frzF_byte
  rw [← h_frz, ← h_len, ← h_opn, ← hm_byte] at frz_byte
  have frz_string := @frzF_string
  rw [← h_frz, ← h_len, ← h_opn, ← hm_string] at frz_string
  unfold Has_s_laws_szPacketInFlight at hF_s_laws_szPacketInFlight
  rw [← hm_byte, ← hm_string] at hF_s_laws_szPacketInFlight
  unfold Has_s_laws_toPacketInFlight at hF_s_laws_toPacketInFlight
  rw [← hm_byte, ← hm_string] at hF_s_laws_toPacketInFlight
  unfold Has_s_spec_FormatPacket at hF_s_spec_FormatPacket
  rw [← hm_byte, ← hm_string] at hF_s_spec_FormatPacket
  unfold Has_s_impl_FormatPacket at hF_s_impl_FormatPacket
  rw [← hm_byte, ← hm_string] at hF_s_impl_FormatPacket
  unfold Has_s_laws_eqPacketInFlight at hF_s_laws_eqPacketInFlight
  rw [← hm_byte, ← hm_string] at hF_s_laws_eqPacketInFlight
  generalize hal : (fun (F : St → (Ex → St → Option (List Arg)) → Option (List Arg)) lv => aloop F lv fuel) = al
  rw [s_laws_FnExactFormatPacket, ← h_bnot, ← h_cmp, ← h_scmp]
  conv => lhs; cbv
  rw [hF_s_laws_szPacketInFlight a0 1048576]
  refine cO (fun hx2 => ?_) ?_
  · rw [hx2]
    first | done | rfl
  · rintro r1 hx2
    rw [hx2]
    conv => lhs; cbv
    refine cC (fun hb3 => ?_) (fun hb3 => ?_)
    · rw [hb3]
      conv => lhs; cbv
      first | done | rfl
    · rw [hb3]
      conv => lhs; cbv
      rw [hF_s_laws_toPacketInFlight a0]
      refine cO (fun hx5 => ?_) ?_
      · rw [hx5]
        first | done | rfl
      · rintro r4 hx5
        rw [hx5]
        conv => lhs; cbv
        rw [frz_string]
        conv => lhs; cbv
        rw [frz_string]
        conv => lhs; cbv
        rw [frz_byte]
        conv => lhs; cbv
        rw [frz_string]
        conv => lhs; cbv
        rw [hF_s_spec_FormatPacket r4]
        refine cO (fun hx7 => ?_) ?_
        · rw [hx7]
          first | done | rfl
        · rintro r6 hx7
          rw [hx7]
          conv => lhs; cbv
          rw [hF_s_laws_toPacketInFlight a0]
          rw [hx5]
          conv => lhs; cbv
          rw [frz_string]
          conv => lhs; cbv
          rw [frz_string]
          conv => lhs; cbv
          rw [frz_byte]
          conv => lhs; cbv
          rw [frz_string]
          conv => lhs; cbv
          rw [hF_s_impl_FormatPacket r4]
          refine cO (fun hx10 => ?_) ?_
          · rw [hx10]
            first | done | rfl
          · rintro r9 hx10
            rw [hx10]
            conv => lhs; cbv
            refine cC (fun hb11 => ?_) (fun hb11 => ?_)
            · rw [hb11]
              conv => lhs; cbv
              first | done | rfl
            · rw [hb11]
              conv => lhs; cbv
              rw [hF_s_laws_toPacketInFlight a0]
              rw [hx5]
              conv => lhs; cbv
              rw [frz_string]
              conv => lhs; cbv
              rw [frz_string]
              conv => lhs; cbv
              rw [frz_byte]
              conv => lhs; cbv
              rw [frz_string]
              conv => lhs; cbv
              rw [frz_string]
              conv => lhs; cbv
              rw [frz_string]
              conv => lhs; cbv
              rw [frz_byte]
              conv => lhs; cbv
              rw [frz_string]
              conv => lhs; cbv
              rw [hF_s_laws_eqPacketInFlight r4 r4]
              refine cO (fun hx14 => ?_) ?_
              · rw [hx14]
                first | done | rfl
              · rintro r13 hx14
                rw [hx14]
                conv => lhs; cbv
                refine cC (fun hb15 => ?_) (fun hb15 => ?_)
                · rw [hb15]
                  conv => lhs; cbv
                  first | done | rfl
                · rw [hb15]
                  conv => lhs; cbv
                  first | done | rfl
def s_laws_szDataS_l1 (a0 : (List DData)) : (Int × Int) → Option ((Int × Int) ⊕ ((Int × Int) ⊕ (Int)))
  | (v2, v3) => bif prims.cmp .lss v3 (prims.int (prims.len (List.map eData a0))) then ((nthI a0 v3).bind fun x5 => (s_laws_szData x5 v2).bind fun r7 => bif prims.cmp .lss r7 0 then (some (.inr (.inr ((-1))))) else (some (.inl (r7, prims.arith .add .i64 v3 1)))) else (some (.inr (.inl (v2, v3))))
def s_laws_szDataS (a0 : (List DData)) (a1 : Int) : Option (Int) := bif prims.cmp .lss (prims.arith .sub .i64 a1 (prims.int (prims.len (List.map eData a0)))) 0 then (some (-1)) else ((whileO (s_laws_szDataS_l1 a0) fuel (prims.arith .sub .i64 a1 (prims.int (prims.len (List.map eData a0))), 0)).bind fun g => match g with | .inl (w10, w11) => (some w10) | .inr (w12) => (some w12))
def Has_s_laws_szDataS (F : Fns) : Prop := ∀ (a0 : (List DData)) (a1 : Int), F 71 [.v (.sl 32 5 (List.map eData a0)), .v (.at (.int .i64 a1))] = (s_laws_szDataS a0 a1).bind fun r => some [.v (.at (.int .i64 r))]
set_option maxHeartbeats 40000000 in
theorem e_s_laws_szDataS (F : Fns) (hF_s_laws_szData : Has_s_laws_szData F) (a0 : (List DData)) (a1 : Int) : evBody prims (fun F lv => aloop F lv fuel) TY F ⟨Tryd.f71, Tryd.f71.body.getD .skip, fun id => if id = 5 then [0, 1, 5] else []⟩ [.v (.sl 32 5 (List.map eData a0)), .v (.at (.int .i64 a1))] = (s_laws_szDataS a0 a1).bind fun r => some [.v (.at (.int .i64 r))] := by
  obtain ⟨p, hp⟩ : ∃ p : Prims, p = prims := ⟨_, rfl⟩
  obtain ⟨m_Data, hm_Data⟩ : ∃ m, m = List.map eData := ⟨_, rfl⟩
  obtain ⟨m_byte, hm_byte⟩ : ∃ m, m = List.map eY := ⟨_, rfl⟩
  obtain ⟨m_string, hm_string⟩ : ∃ m, m = List.map eS := ⟨_, rfl⟩
  rw [← hp]
  rw [← hm_Data]
  obtain ⟨p_arith, p_cmp, p_wrap, p_scmp, p_scat, p_catOk, p_ssize, p_sat, p_ssub, p_bytes, p_str, p_bnot, p_beq, p_min, p_max, p_len, p_int, p_nth, p_sub, p_rsub, p_ridx, p_rnth, p_rset, p_rapp, p_rlen, p_addN, p_full, p_fits, p_frz, p_own, p_opn, p_lend, p_rmov, p_rout, p_both, p_yI, p_ofB, p_byW, p_mkN, p_rep, p_copy⟩ := p
  have h_arith : p_arith = prims.arith := congrArg Prims.arith hp
  have h_cmp : p_cmp = prims.cmp := congrArg Prims.cmp hp
  have h_int : p_int = prims.int := congrArg Prims.int hp
  have h_len : p_len = prims.len := congrArg Prims.len hp
  have h_nth : p_nth = prims.nth := congrArg Prims.nth hp
  clear hp
  have nth_Data := @nthF_Data
  rw [← h_nth, ← hm_Data, ← hm_byte, ← hm_string] at nth_Data
  unfold Has_s_laws_szData at hF_s_laws_szData
  rw [← hm_byte, ← hm_string] at hF_s_laws_szData
  generalize hal : (fun (F : St → (Ex → St → Option (List Arg)) → Option (List Arg)) lv => aloop F lv fuel) = al
  rw [s_laws_szDataS, ← h_arith, ← h_cmp, ← h_int, ← h_len, ← hm_Data]
  conv => lhs; cbv
  refine cC (fun hb1 => ?_) (fun hb1 => ?_)
  · rw [hb1]
    conv => lhs; cbv
    first | done | rfl
  · rw [hb1]
    conv => lhs; cbv
    refine (loop_al hal (fun x => match x with | (v2, v3) => ⟨[.c (.rd true 32 5 (m_Data a0)), .c (.at (.int .i64 v2)), dd, dd, dd, .c (.at (.int .i64 v3)), dd, dd, dd, dd, dd, dd, dd, dd, dd, dd, dd, dd, dd, dd, dd, dd, dd, dd, dd, dd, dd], [], 1⟩) (s_laws_szDataS_l1 a0) (fun K g => match g with | .inl (v2, v3) => K (.exit 0) ⟨[.c (.rd true 32 5 (m_Data a0)), .c (.at (.int .i64 v2)), dd, dd, dd, .c (.at (.int .i64 v3)), dd, dd, dd, dd, dd, dd, .c (.at (.int .i64 v3)), .c (.rd true 32 5 (m_Data a0)), .c (.at (.int .i64 (p_int (p_len (m_Data a0))))), .c (.at (.bool false)), dd, dd, dd, dd, dd, dd, dd, dd, dd, dd, dd], [], 2⟩ | .inr (r) => some [.v (.at (.int .i64 r))]) ?_ (p_arith .sub .i64 a1 (p_int (p_len (m_Data a0))), 0) _ (rfl)).trans (cL ?_)
    · rintro K1 hr1 ⟨v2, v3⟩ R1
      rw [s_laws_szDataS_l1, ← h_arith, ← h_cmp, ← h_int, ← h_len, ← hm_Data]
      conv => lhs; cbv
      refine cC (fun hb4 => ?_) (fun hb4 => ?_)
      · rw [hb4]
        conv => lhs; cbv
        rw [nth_Data]
        refine cO (fun hx6 => ?_) ?_
        · rw [hx6]
          first | done | rfl
        · rintro x5 hx6
          rw [hx6]
          conv => lhs; cbv
          rw [hF_s_laws_szData x5 v2]
          refine cO (fun hx8 => ?_) ?_
          · rw [hx8]
            first | done | rfl
          · rintro r7 hx8
            rw [hx8]
            conv => lhs; cbv
            refine cC (fun hb9 => ?_) (fun hb9 => ?_)
            · rw [hb9]
              conv => lhs; cbv
              rw [hr1]
              conv => lhs; cbv
              first | done | rfl
            · rw [hb9]
              conv => lhs; cbv
              first | done | rfl
      · rw [hb4]
        conv => lhs; cbv
        first | done | rfl
    · rintro (⟨w10, w11⟩ | w12)
      · conv => lhs; cbv
        first | done | rfl
      · rfl
def s_laws_szCacheEntry (a0 : DCacheEntry) (a1 : Int) : Option (Int) := (s_laws_szData a0.data a1).bind fun r1 => bif prims.cmp .lss r1 0 then (some (-1)) else (some r1)
def Has_s_laws_szCacheEntry (F : Fns) : Prop := ∀ (a0 : DCacheEntry) (a1 : Int), F 143 [.a [.sl 9 1 (List.map eS a0.data.name), .sl 5 1 (List.map eY a0.data.content), .sl 9 1 (List.map eS a0.data.keyName), .at (.int .i64 a0.data.freshUntil), .at (.int .i64 a0.data.signature), .at (.int .i64 a0.lastUsed)], .v (.at (.int .i64 a1))] = (s_laws_szCacheEntry a0 a1).bind fun r => some [.v (.at (.int .i64 r))]
set_option maxHeartbeats 40000000 in
theorem e_s_laws_szCacheEntry (F : Fns) (hF_s_laws_szData : Has_s_laws_szData F) (a0 : DCacheEntry) (a1 : Int) : evBody prims (fun F lv => aloop F lv fuel) TY F ⟨Tryd.f143, Tryd.f143.body.getD .skip, fun _ => []⟩ [.a [.sl 9 1 (List.map eS a0.data.name), .sl 5 1 (List.map eY a0.data.content), .sl 9 1 (List.map eS a0.data.keyName), .at (.int .i64 a0.data.freshUntil), .at (.int .i64 a0.data.signature), .at (.int .i64 a0.lastUsed)], .v (.at (.int .i64 a1))] = (s_laws_szCacheEntry a0 a1).bind fun r => some [.v (.at (.int .i64 r))] := by
  obtain ⟨p, hp⟩ : ∃ p : Prims, p = prims := ⟨_, rfl⟩
  obtain ⟨m_byte, hm_byte⟩ : ∃ m, m = List.map eY := ⟨_, rfl⟩
  obtain ⟨m_string, hm_string⟩ : ∃ m, m = List.map eS := ⟨_, rfl⟩
  rw [← hp]
  rw [← hm_byte, ← hm_string]
  obtain ⟨p_arith, p_cmp, p_wrap, p_scmp, p_scat, p_catOk, p_ssize, p_sat, p_ssub, p_bytes, p_str, p_bnot, p_beq, p_min, p_max, p_len, p_int, p_nth, p_sub, p_rsub, p_ridx, p_rnth, p_rset, p_rapp, p_rlen, p_addN, p_full, p_fits, p_frz, p_own, p_opn, p_lend, p_rmov, p_rout, p_both, p_yI, p_ofB, p_byW, p_mkN, p_rep, p_copy⟩ := p
  have h_cmp : p_cmp = prims.cmp := congrArg Prims.cmp hp
  clear hp
  unfold Has_s_laws_szData at hF_s_laws_szData
  rw [← hm_byte, ← hm_string] at hF_s_laws_szData
  generalize hal : (fun (F : St → (Ex → St → Option (List Arg)) → Option (List Arg)) lv => aloop F lv fuel) = al
  rw [s_laws_szCacheEntry, ← h_cmp]
  conv => lhs; cbv
  rw [hF_s_laws_szData a0.data a1]
  refine cO (fun hx2 => ?_) ?_
  · rw [hx2]
    first | done | rfl
  · rintro r1 hx2
    rw [hx2]
    conv => lhs; cbv
    refine cC (fun hb3 => ?_) (fun hb3 => ?_)
    · rw [hb3]
      conv => lhs; cbv
      first | done | rfl
    · rw [hb3]
      conv => lhs; cbv
      first | done | rfl
def s_laws_szCacheEntryS_l1 (a0 : (List DCacheEntry)) : (Int × Int) → Option ((Int × Int) ⊕ ((Int × Int) ⊕ (Int)))
  | (v2, v3) => bif prims.cmp .lss v3 (prims.int (prims.len (List.map eCacheEntry a0))) then ((nthI a0 v3).bind fun x5 => (s_laws_szCacheEntry x5 v2).bind fun r7 => bif prims.cmp .lss r7 0 then (some (.inr (.inr ((-1))))) else (some (.inl (r7, prims.arith .add .i64 v3 1)))) else (some (.inr (.inl (v2, v3))))
def s_laws_szCacheEntryS (a0 : (List DCacheEntry)) (a1 : Int) : Option (Int) := bif prims.cmp .lss (prims.arith .sub .i64 a1 (prims.int (prims.len (List.map eCacheEntry a0)))) 0 then (some (-1)) else ((whileO (s_laws_szCacheEntryS_l1 a0) fuel (prims.arith .sub .i64 a1 (prims.int (prims.len (List.map eCacheEntry a0))), 0)).bind fun g => match g with | .inl (w10, w11) => (some w10) | .inr (w12) => (some w12))
def Has_s_laws_szCacheEntryS (F : Fns) : Prop := ∀ (a0 : (List DCacheEntry)) (a1 : Int), F 117 [.v (.sl 226 6 (List.map eCacheEntry a0)), .v (.at (.int .i64 a1))] = (s_laws_szCacheEntryS a0 a1).bind fun r => some [.v (.at (.int .i64 r))]
set_option maxHeartbeats 40000000 in
theorem e_s_laws_szCacheEntryS (F : Fns) (hF_s_laws_szCacheEntry : Has_s_laws_szCacheEntry F) (a0 : (List DCacheEntry)) (a1 : Int) : evBody prims (fun F lv => aloop F lv fuel) TY F ⟨Tryd.f117, Tryd.f117.body.getD .skip, fun id => if id = 5 then [0, 1, 5] else []⟩ [.v (.sl 226 6 (List.map eCacheEntry a0)), .v (.at (.int .i64 a1))] = (s_laws_szCacheEntryS a0 a1).bind fun r => some [.v (.at (.int .i64 r))] := by
  obtain ⟨p, hp⟩ : ∃ p : Prims, p = prims := ⟨_, rfl⟩
  obtain ⟨m_CacheEntry, hm_CacheEntry⟩ : ∃ m, m = List.map eCacheEntry := ⟨_, rfl⟩
  obtain ⟨m_byte, hm_byte⟩ : ∃ m, m = List.map eY := ⟨_, rfl⟩
  obtain ⟨m_string, hm_string⟩ : ∃ m, m = List.map eS := ⟨_, rfl⟩
  rw [← hp]
  rw [← hm_CacheEntry]
  obtain ⟨p_arith, p_cmp, p_wrap, p_scmp, p_scat, p_catOk, p_ssize, p_sat, p_ssub, p_bytes, p_str, p_bnot, p_beq, p_min, p_max, p_len, p_int, p_nth, p_sub, p_rsub, p_ridx, p_rnth, p_rset, p_rapp, p_rlen, p_addN, p_full, p_fits, p_frz, p_own, p_opn, p_lend, p_rmov, p_rout, p_both, p_yI, p_ofB, p_byW, p_mkN, p_rep, p_copy⟩ := p
  have h_arith : p_arith = prims.arith := congrArg Prims.arith hp
  have h_cmp : p_cmp = prims.cmp := congrArg Prims.cmp hp
  have h_int : p_int = prims.int := congrArg Prims.int hp
  have h_len : p_len = prims.len := congrArg Prims.len hp
  have h_nth : p_nth = prims.nth := congrArg Prims.nth hp
  clear hp
  have nth_CacheEntry := @nthF_CacheEntry
  rw [← h_nth, ← hm_CacheEntry, ← hm_byte, ← hm_string] at nth_CacheEntry
  unfold Has_s_laws_szCacheEntry at hF_s_laws_szCacheEntry
  rw [← hm_byte, ← hm_string] at hF_s_laws_szCacheEntry
  generalize hal : (fun (F : St → (Ex → St → Option (List Arg)) → Option (List Arg)) lv => aloop F lv fuel) = al
  rw [s_laws_szCacheEntryS, ← h_arith, ← h_cmp, ← h_int, ← h_len, ← hm_CacheEntry]
  conv => lhs; cbv
  refine cC (fun hb1 => ?_) (fun hb1 => ?_)
  · rw [hb1]
    conv => lhs; cbv
    first | done | rfl
  · rw [hb1]
    conv => lhs; cbv
    refine (loop_al hal (fun x => match x with | (v2, v3) => ⟨[.c (.rd true 226 6 (m_CacheEntry a0)), .c (.at (.int .i64 v2)), dd, dd, dd, .c (.at (.int .i64 v3)), dd, dd, dd, dd, dd, dd, dd, dd, dd, dd, dd, dd, dd, dd, dd, dd, dd, dd, dd, dd, dd], [], 1⟩) (s_laws_szCacheEntryS_l1 a0) (fun K g => match g with | .inl (v2, v3) => K (.exit 0) ⟨[.c (.rd true 226 6 (m_CacheEntry a0)), .c (.at (.int .i64 v2)), dd, dd, dd, .c (.at (.int .i64 v3)), dd, dd, dd, dd, dd, dd, .c (.at (.int .i64 v3)), .c (.rd true 226 6 (m_CacheEntry a0)), .c (.at (.int .i64 (p_int (p_len (m_CacheEntry a0))))), .c (.at (.bool false)), dd, dd, dd, dd, dd, dd, dd, dd, dd, dd, dd], [], 2⟩ | .inr (r) => some [.v (.at (.int .i64 r))]) ?_ (p_arith .sub .i64 a1 (p_int (p_len (m_CacheEntry a0))), 0) _ (rfl)).trans (cL ?_)
    · rintro K1 hr1 ⟨v2, v3⟩ R1
      rw [s_laws_szCacheEntryS_l1, ← h_arith, ← h_cmp, ← h_int, ← h_len, ← hm_CacheEntry]
      conv => lhs; cbv
      refine cC (fun hb4 => ?_) (fun hb4 => ?_)
      · rw [hb4]
        conv => lhs; cbv
        rw [nth_CacheEntry]
        refine cO (fun hx6 => ?_) ?_
        · rw [hx6]
          first | done | rfl
        · rintro x5 hx6
          rw [hx6]
          conv => lhs; cbv
          rw [hF_s_laws_szCacheEntry x5 v2]
          refine cO (fun hx8 => ?_) ?_
          · rw [hx8]
            first | done | rfl
          · rintro r7 hx8
            rw [hx8]
            conv => lhs; cbv
            refine cC (fun hb9 => ?_) (fun hb9 => ?_)
            · rw [hb9]
              conv => lhs; cbv
              rw [hr1]
              conv => lhs; cbv
              first | done | rfl
            · rw [hb9]
              conv => lhs; cbv
              first | done | rfl
      · rw [hb4]
        conv => lhs; cbv
        first | done | rfl
    · rintro (⟨w10, w11⟩ | w12)
      · conv => lhs; cbv
        first | done | rfl
      · rfl
def s_laws_szContentStore (a0 : DContentStore) (a1 : Int) : Option (Int) := (s_laws_szCacheEntryS a0.entries a1).bind fun r1 => bif prims.cmp .lss r1 0 then (some (-1)) else (some r1)
def Has_s_laws_szContentStore (F : Fns) : Prop := ∀ (a0 : DContentStore) (a1 : Int), F 72 [.a [.at (.int .i64 a0.capacity), .sl 226 6 (List.map eCacheEntry a0.entries)], .v (.at (.int .i64 a1))] = (s_laws_szContentStore a0 a1).bind fun r => some [.v (.at (.int .i64 r))]
set_option maxHeartbeats 40000000 in
theorem e_s_laws_szContentStore (F : Fns) (hF_s_laws_szCacheEntryS : Has_s_laws_szCacheEntryS F) (a0 : DContentStore) (a1 : Int) : evBody prims (fun F lv => aloop F lv fuel) TY F ⟨Tryd.f72, Tryd.f72.body.getD .skip, fun _ => []⟩ [.a [.at (.int .i64 a0.capacity), .sl 226 6 (List.map eCacheEntry a0.entries)], .v (.at (.int .i64 a1))] = (s_laws_szContentStore a0 a1).bind fun r => some [.v (.at (.int .i64 r))] := by
  obtain ⟨p, hp⟩ : ∃ p : Prims, p = prims := ⟨_, rfl⟩
  obtain ⟨m_CacheEntry, hm_CacheEntry⟩ : ∃ m, m = List.map eCacheEntry := ⟨_, rfl⟩
  rw [← hp]
  rw [← hm_CacheEntry]
  obtain ⟨p_arith, p_cmp, p_wrap, p_scmp, p_scat, p_catOk, p_ssize, p_sat, p_ssub, p_bytes, p_str, p_bnot, p_beq, p_min, p_max, p_len, p_int, p_nth, p_sub, p_rsub, p_ridx, p_rnth, p_rset, p_rapp, p_rlen, p_addN, p_full, p_fits, p_frz, p_own, p_opn, p_lend, p_rmov, p_rout, p_both, p_yI, p_ofB, p_byW, p_mkN, p_rep, p_copy⟩ := p
  have h_cmp : p_cmp = prims.cmp := congrArg Prims.cmp hp
  clear hp
  unfold Has_s_laws_szCacheEntryS at hF_s_laws_szCacheEntryS
  rw [← hm_CacheEntry] at hF_s_laws_szCacheEntryS
  generalize hal : (fun (F : St → (Ex → St → Option (List Arg)) → Option (List Arg)) lv => aloop F lv fuel) = al
  rw [s_laws_szContentStore, ← h_cmp]
  conv => lhs; cbv
  rw [hF_s_laws_szCacheEntryS a0.entries a1]
  refine cO (fun hx2 => ?_) ?_
  · rw [hx2]
    first | done | rfl
  · rintro r1 hx2
    rw [hx2]
    conv => lhs; cbv
    refine cC (fun hb3 => ?_) (fun hb3 => ?_)
    · rw [hb3]
      conv => lhs; cbv
      first | done | rfl
    · rw [hb3]
      conv => lhs; cbv
      first | done | rfl
def s_laws_szRequesterS (a0 : (List DRequester)) (a1 : Int) : Option (Int) := bif prims.cmp .lss (prims.arith .sub .i64 a1 (prims.int (prims.len (List.map eRequester a0)))) 0 then (some (-1)) else (some (prims.arith .sub .i64 a1 (prims.int (prims.len (List.map eRequester a0)))))
def Has_s_laws_szRequesterS (F : Fns) : Prop := ∀ (a0 : (List DRequester)) (a1 : Int), F 144 [.v (.sl 236 3 (List.map eRequester a0)), .v (.at (.int .i64 a1))] = (s_laws_szRequesterS a0 a1).bind fun r => some [.v (.at (.int .i64 r))]
set_option maxHeartbeats 40000000 in
theorem e_s_laws_szRequesterS (F : Fns) (a0 : (List DRequester)) (a1 : Int) : evBody prims (fun F lv => aloop F lv fuel) TY F ⟨Tryd.f144, Tryd.f144.body.getD .skip, fun _ => []⟩ [.v (.sl 236 3 (List.map eRequester a0)), .v (.at (.int .i64 a1))] = (s_laws_szRequesterS a0 a1).bind fun r => some [.v (.at (.int .i64 r))] := by
  obtain ⟨p, hp⟩ : ∃ p : Prims, p = prims := ⟨_, rfl⟩
  obtain ⟨m_Requester, hm_Requester⟩ : ∃ m, m = List.map eRequester := ⟨_, rfl⟩
  rw [← hp]
  rw [← hm_Requester]
  obtain ⟨p_arith, p_cmp, p_wrap, p_scmp, p_scat, p_catOk, p_ssize, p_sat, p_ssub, p_bytes, p_str, p_bnot, p_beq, p_min, p_max, p_len, p_int, p_nth, p_sub, p_rsub, p_ridx, p_rnth, p_rset, p_rapp, p_rlen, p_addN, p_full, p_fits, p_frz, p_own, p_opn, p_lend, p_rmov, p_rout, p_both, p_yI, p_ofB, p_byW, p_mkN, p_rep, p_copy⟩ := p
  have h_arith : p_arith = prims.arith := congrArg Prims.arith hp
  have h_cmp : p_cmp = prims.cmp := congrArg Prims.cmp hp
  have h_int : p_int = prims.int := congrArg Prims.int hp
  have h_len : p_len = prims.len := congrArg Prims.len hp
  clear hp
  generalize hal : (fun (F : St → (Ex → St → Option (List Arg)) → Option (List Arg)) lv => aloop F lv fuel) = al
  rw [s_laws_szRequesterS, ← h_arith, ← h_cmp, ← h_int, ← h_len, ← hm_Requester]
  conv => lhs; cbv
  refine cC (fun hb1 => ?_) (fun hb1 => ?_)
  · rw [hb1]
    conv => lhs; cbv
    first | done | rfl
  · rw [hb1]
    conv => lhs; cbv
    first | done | rfl
def s_laws_szPendingInterest (a0 : DPendingInterest) (a1 : Int) : Option (Int) := (s_laws_szName a0.name a1).bind fun r1 => bif prims.cmp .lss r1 0 then (some (-1)) else ((s_laws_szRequesterS a0.requesters r1).bind fun r4 => bif prims.cmp .lss r4 0 then (some (-1)) else (some r4))
def Has_s_laws_szPendingInterest (F : Fns) : Prop := ∀ (a0 : DPendingInterest) (a1 : Int), F 118 [.a [.sl 9 1 (List.map eS a0.name), .sl 236 3 (List.map eRequester a0.requesters), .at (.int .i64 a0.lastSent)], .v (.at (.int .i64 a1))] = (s_laws_szPendingInterest a0 a1).bind fun r => some [.v (.at (.int .i64 r))]
set_option maxHeartbeats 40000000 in
theorem e_s_laws_szPendingInterest (F : Fns) (hF_s_laws_szName : Has_s_laws_szName F) (hF_s_laws_szRequesterS : Has_s_laws_szRequesterS F) (a0 : DPendingInterest) (a1 : Int) : evBody prims (fun F lv => aloop F lv fuel) TY F ⟨Tryd.f118, Tryd.f118.body.getD .skip, fun _ => []⟩ [.a [.sl 9 1 (List.map eS a0.name), .sl 236 3 (List.map eRequester a0.requesters), .at (.int .i64 a0.lastSent)], .v (.at (.int .i64 a1))] = (s_laws_szPendingInterest a0 a1).bind fun r => some [.v (.at (.int .i64 r))] := by
  obtain ⟨p, hp⟩ : ∃ p : Prims, p = prims := ⟨_, rfl⟩
  obtain ⟨m_Requester, hm_Requester⟩ : ∃ m, m = List.map eRequester := ⟨_, rfl⟩
  obtain ⟨m_string, hm_string⟩ : ∃ m, m = List.map eS := ⟨_, rfl⟩
  rw [← hp]
  rw [← hm_Requester, ← hm_string]
  obtain ⟨p_arith, p_cmp, p_wrap, p_scmp, p_scat, p_catOk, p_ssize, p_sat, p_ssub, p_bytes, p_str, p_bnot, p_beq, p_min, p_max, p_len, p_int, p_nth, p_sub, p_rsub, p_ridx, p_rnth, p_rset, p_rapp, p_rlen, p_addN, p_full, p_fits, p_frz, p_own, p_opn, p_lend, p_rmov, p_rout, p_both, p_yI, p_ofB, p_byW, p_mkN, p_rep, p_copy⟩ := p
  have h_cmp : p_cmp = prims.cmp := congrArg Prims.cmp hp
  clear hp
  unfold Has_s_laws_szName at hF_s_laws_szName
  rw [← hm_string] at hF_s_laws_szName
  unfold Has_s_laws_szRequesterS at hF_s_laws_szRequesterS
  rw [← hm_Requester] at hF_s_laws_szRequesterS
  generalize hal : (fun (F : St → (Ex → St → Option (List Arg)) → Option (List Arg)) lv => aloop F lv fuel) = al
  rw [s_laws_szPendingInterest, ← h_cmp]
  conv => lhs; cbv
  rw [hF_s_laws_szName a0.name a1]
  refine cO (fun hx2 => ?_) ?_
  · rw [hx2]
    first | done | rfl
  · rintro r1 hx2
    rw [hx2]
    conv => lhs; cbv
    refine cC (fun hb3 => ?_) (fun hb3 => ?_)
    · rw [hb3]
      conv => lhs; cbv
      first | done | rfl
    · rw [hb3]
      conv => lhs; cbv
      rw [hF_s_laws_szRequesterS a0.requesters r1]
      refine cO (fun hx5 => ?_) ?_
      · rw [hx5]
        first | done | rfl
      · rintro r4 hx5
        rw [hx5]
        conv => lhs; cbv
        refine cC (fun hb6 => ?_) (fun hb6 => ?_)
        · rw [hb6]
          conv => lhs; cbv
          first | done | rfl
        · rw [hb6]
          conv => lhs; cbv
          first | done | rfl
def s_laws_szPendingInterestS_l1 (a0 : (List DPendingInterest)) : (Int × Int) → Option ((Int × Int) ⊕ ((Int × Int) ⊕ (Int)))
  | (v2, v3) => bif prims.cmp .lss v3 (prims.int (prims.len (List.map ePendingInterest a0))) then ((nthI a0 v3).bind fun x5 => (s_laws_szPendingInterest x5 v2).bind fun r7 => bif prims.cmp .lss r7 0 then (some (.inr (.inr ((-1))))) else (some (.inl (r7, prims.arith .add .i64 v3 1)))) else (some (.inr (.inl (v2, v3))))
def s_laws_szPendingInterestS (a0 : (List DPendingInterest)) (a1 : Int) : Option (Int) := bif prims.cmp .lss (prims.arith .sub .i64 a1 (prims.int (prims.len (List.map ePendingInterest a0)))) 0 then (some (-1)) else ((whileO (s_laws_szPendingInterestS_l1 a0) fuel (prims.arith .sub .i64 a1 (prims.int (prims.len (List.map ePendingInterest a0))), 0)).bind fun g => match g with | .inl (w10, w11) => (some w10) | .inr (w12) => (some w12))
def Has_s_laws_szPendingInterestS (F : Fns) : Prop := ∀ (a0 : (List DPendingInterest)) (a1 : Int), F 73 [.v (.sl 191 3 (List.map ePendingInterest a0)), .v (.at (.int .i64 a1))] = (s_laws_szPendingInterestS a0 a1).bind fun r => some [.v (.at (.int .i64 r))]
set_option maxHeartbeats 40000000 in
theorem e_s_laws_szPendingInterestS (F : Fns) (hF_s_laws_szPendingInterest : Has_s_laws_szPendingInterest F) (a0 : (List DPendingInterest)) (a1 : Int) : evBody prims (fun F lv => aloop F lv fuel) TY F ⟨Tryd.f73, Tryd.f73.body.getD .skip, fun id => if id = 5 then [0, 1, 5] else []⟩ [.v (.sl 191 3 (List.map ePendingInterest a0)), .v (.at (.int .i64 a1))] = (s_laws_szPendingInterestS a0 a1).bind fun r => some [.v (.at (.int .i64 r))] := by
  obtain ⟨p, hp⟩ : ∃ p : Prims, p = prims := ⟨_, rfl⟩
  obtain ⟨m_PendingInterest, hm_PendingInterest⟩ : ∃ m, m = List.map ePendingInterest := ⟨_, rfl⟩
  obtain ⟨m_Requester, hm_Requester⟩ : ∃ m, m = List.map eRequester := ⟨_, rfl⟩
  obtain ⟨m_string, hm_string⟩ : ∃ m, m = List.map eS := ⟨_, rfl⟩
  rw [← hp]
  rw [← hm_PendingInterest]
  obtain ⟨p_arith, p_cmp, p_wrap, p_scmp, p_scat, p_catOk, p_ssize, p_sat, p_ssub, p_bytes, p_str, p_bnot, p_beq, p_min, p_max, p_len, p_int, p_nth, p_sub, p_rsub, p_ridx, p_rnth, p_rset, p_rapp, p_rlen, p_addN, p_full, p_fits, p_frz, p_own, p_opn, p_lend, p_rmov, p_rout, p_both, p_yI, p_ofB, p_byW, p_mkN, p_rep, p_copy⟩ := p
  have h_arith : p_arith = prims.arith := congrArg Prims.arith hp
  have h_cmp : p_cmp = prims.cmp := congrArg Prims.cmp hp
  have h_int : p_int = prims.int := congrArg Prims.int hp
  have h_len : p_len = prims.len := congrArg Prims.len hp
  have h_nth : p_nth = prims.nth := congrArg Prims.nth hp
  clear hp
  have nth_PendingInterest := @nthF_PendingInterest
  rw [← h_nth, ← hm_PendingInterest, ← hm_Requester, ← hm_string] at nth_PendingInterest
  unfold Has_s_laws_szPendingInterest at hF_s_laws_szPendingInterest
  rw [← hm_Requester, ← hm_string] at hF_s_laws_szPendingInterest
  generalize hal : (fun (F : St → (Ex → St → Option (List Arg)) → Option (List Arg)) lv => aloop F lv fuel) = al
  rw [s_laws_szPendingInterestS, ← h_arith, ← h_cmp, ← h_int, ← h_len, ← hm_PendingInterest]
  conv => lhs; cbv
  refine cC (fun hb1 => ?_) (fun hb1 => ?_)
  · rw [hb1]
    conv => lhs; cbv
    first | done | rfl
  · rw [hb1]
    conv => lhs; cbv
    refine (loop_al hal (fun x => match x with | (v2, v3) => ⟨[.c (.rd true 191 3 (m_PendingInterest a0)), .c (.at (.int .i64 v2)), dd, dd, dd, .c (.at (.int .i64 v3)), dd, dd, dd, dd, dd, dd, dd, dd, dd, dd, dd, dd, dd, dd, dd, dd, dd, dd, dd, dd, dd], [], 1⟩) (s_laws_szPendingInterestS_l1 a0) (fun K g => match g with | .inl (v2, v3) => K (.exit 0) ⟨[.c (.rd true 191 3 (m_PendingInterest a0)), .c (.at (.int .i64 v2)), dd, dd, dd, .c (.at (.int .i64 v3)), dd, dd, dd, dd, dd, dd, .c (.at (.int .i64 v3)), .c (.rd true 191 3 (m_PendingInterest a0)), .c (.at (.int .i64 (p_int (p_len (m_PendingInterest a0))))), .c (.at (.bool false)), dd, dd, dd, dd, dd, dd, dd, dd, dd, dd, dd], [], 2⟩ | .inr (r) => some [.v (.at (.int .i64 r))]) ?_ (p_arith .sub .i64 a1 (p_int (p_len (m_PendingInterest a0))), 0) _ (rfl)).trans (cL ?_)
    · rintro K1 hr1 ⟨v2, v3⟩ R1
      rw [s_laws_szPendingInterestS_l1, ← h_arith, ← h_cmp, ← h_int, ← h_len, ← hm_PendingInterest]
      conv => lhs; cbv
      refine cC (fun hb4 => ?_) (fun hb4 => ?_)
      · rw [hb4]
        conv => lhs; cbv
        rw [nth_PendingInterest]
        refine cO (fun hx6 => ?_) ?_
        · rw [hx6]
          first | done | rfl
        · rintro x5 hx6
          rw [hx6]
          conv => lhs; cbv
          rw [hF_s_laws_szPendingInterest x5 v2]
          refine cO (fun hx8 => ?_) ?_
          · rw [hx8]
            first | done | rfl
          · rintro r7 hx8
            rw [hx8]
            conv => lhs; cbv
            refine cC (fun hb9 => ?_) (fun hb9 => ?_)
            · rw [hb9]
              conv => lhs; cbv
              rw [hr1]
              conv => lhs; cbv
              first | done | rfl
            · rw [hb9]
              conv => lhs; cbv
              first | done | rfl
      · rw [hb4]
        conv => lhs; cbv
        first | done | rfl
    · rintro (⟨w10, w11⟩ | w12)
      · conv => lhs; cbv
        first | done | rfl
      · rfl
def s_laws_szSeenNonce (a0 : DSeenNonce) (a1 : Int) : Option (Int) := (s_laws_szName a0.name a1).bind fun r1 => bif prims.cmp .lss r1 0 then (some (-1)) else (some r1)
def Has_s_laws_szSeenNonce (F : Fns) : Prop := ∀ (a0 : DSeenNonce) (a1 : Int), F 119 [.a [.sl 9 1 (List.map eS a0.name), .at (.int .i64 a0.nonce)], .v (.at (.int .i64 a1))] = (s_laws_szSeenNonce a0 a1).bind fun r => some [.v (.at (.int .i64 r))]
set_option maxHeartbeats 40000000 in
theorem e_s_laws_szSeenNonce (F : Fns) (hF_s_laws_szName : Has_s_laws_szName F) (a0 : DSeenNonce) (a1 : Int) : evBody prims (fun F lv => aloop F lv fuel) TY F ⟨Tryd.f119, Tryd.f119.body.getD .skip, fun _ => []⟩ [.a [.sl 9 1 (List.map eS a0.name), .at (.int .i64 a0.nonce)], .v (.at (.int .i64 a1))] = (s_laws_szSeenNonce a0 a1).bind fun r => some [.v (.at (.int .i64 r))] := by
  obtain ⟨p, hp⟩ : ∃ p : Prims, p = prims := ⟨_, rfl⟩
  obtain ⟨m_string, hm_string⟩ : ∃ m, m = List.map eS := ⟨_, rfl⟩
  rw [← hp]
  rw [← hm_string]
  obtain ⟨p_arith, p_cmp, p_wrap, p_scmp, p_scat, p_catOk, p_ssize, p_sat, p_ssub, p_bytes, p_str, p_bnot, p_beq, p_min, p_max, p_len, p_int, p_nth, p_sub, p_rsub, p_ridx, p_rnth, p_rset, p_rapp, p_rlen, p_addN, p_full, p_fits, p_frz, p_own, p_opn, p_lend, p_rmov, p_rout, p_both, p_yI, p_ofB, p_byW, p_mkN, p_rep, p_copy⟩ := p
  have h_cmp : p_cmp = prims.cmp := congrArg Prims.cmp hp
  clear hp
  unfold Has_s_laws_szName at hF_s_laws_szName
  rw [← hm_string] at hF_s_laws_szName
  generalize hal : (fun (F : St → (Ex → St → Option (List Arg)) → Option (List Arg)) lv => aloop F lv fuel) = al
  rw [s_laws_szSeenNonce, ← h_cmp]
  conv => lhs; cbv
  rw [hF_s_laws_szName a0.name a1]
  refine cO (fun hx2 => ?_) ?_
  · rw [hx2]
    first | done | rfl
  · rintro r1 hx2
    rw [hx2]
    conv => lhs; cbv
    refine cC (fun hb3 => ?_) (fun hb3 => ?_)
    · rw [hb3]
      conv => lhs; cbv
      first | done | rfl
    · rw [hb3]
      conv => lhs; cbv
      first | done | rfl
def s_laws_szSeenNonceS_l1 (a0 : (List DSeenNonce)) : (Int × Int) → Option ((Int × Int) ⊕ ((Int × Int) ⊕ (Int)))
  | (v2, v3) => bif prims.cmp .lss v3 (prims.int (prims.len (List.map eSeenNonce a0))) then ((nthI a0 v3).bind fun x5 => (s_laws_szSeenNonce x5 v2).bind fun r7 => bif prims.cmp .lss r7 0 then (some (.inr (.inr ((-1))))) else (some (.inl (r7, prims.arith .add .i64 v3 1)))) else (some (.inr (.inl (v2, v3))))
def s_laws_szSeenNonceS (a0 : (List DSeenNonce)) (a1 : Int) : Option (Int) := bif prims.cmp .lss (prims.arith .sub .i64 a1 (prims.int (prims.len (List.map eSeenNonce a0)))) 0 then (some (-1)) else ((whileO (s_laws_szSeenNonceS_l1 a0) fuel (prims.arith .sub .i64 a1 (prims.int (prims.len (List.map eSeenNonce a0))), 0)).bind fun g => match g with | .inl (w10, w11) => (some w10) | .inr (w12) => (some w12))
def Has_s_laws_szSeenNonceS (F : Fns) : Prop := ∀ (a0 : (List DSeenNonce)) (a1 : Int), F 74 [.v (.sl 194 2 (List.map eSeenNonce a0)), .v (.at (.int .i64 a1))] = (s_laws_szSeenNonceS a0 a1).bind fun r => some [.v (.at (.int .i64 r))]
set_option maxHeartbeats 40000000 in
theorem e_s_laws_szSeenNonceS (F : Fns) (hF_s_laws_szSeenNonce : Has_s_laws_szSeenNonce F) (a0 : (List DSeenNonce)) (a1 : Int) : evBody prims (fun F lv => aloop F lv fuel) TY F ⟨Tryd.f74, Tryd.f74.body.getD .skip, fun id => if id = 5 then [0, 1, 5] else []⟩ [.v (.sl 194 2 (List.map eSeenNonce a0)), .v (.at (.int .i64 a1))] = (s_laws_szSeenNonceS a0 a1).bind fun r => some [.v (.at (.int .i64 r))] := by
  obtain ⟨p, hp⟩ : ∃ p : Prims, p = prims := ⟨_, rfl⟩
  obtain ⟨m_SeenNonce, hm_SeenNonce⟩ : ∃ m, m = List.map eSeenNonce := ⟨_, rfl⟩
  obtain ⟨m_string, hm_string⟩ : ∃ m, m = List.map eS := ⟨_, rfl⟩
  rw [← hp]
  rw [← hm_SeenNonce]
  obtain ⟨p_arith, p_cmp, p_wrap, p_scmp, p_scat, p_catOk, p_ssize, p_sat, p_ssub, p_bytes, p_str, p_bnot, p_beq, p_min, p_max, p_len, p_int, p_nth, p_sub, p_rsub, p_ridx, p_rnth, p_rset, p_rapp, p_rlen, p_addN, p_full, p_fits, p_frz, p_own, p_opn, p_lend, p_rmov, p_rout, p_both, p_yI, p_ofB, p_byW, p_mkN, p_rep, p_copy⟩ := p
  have h_arith : p_arith = prims.arith := congrArg Prims.arith hp
  have h_cmp : p_cmp = prims.cmp := congrArg Prims.cmp hp
  have h_int : p_int = prims.int := congrArg Prims.int hp
  have h_len : p_len = prims.len := congrArg Prims.len hp
  have h_nth : p_nth = prims.nth := congrArg Prims.nth hp
  clear hp
  have nth_SeenNonce := @nthF_SeenNonce
  rw [← h_nth, ← hm_SeenNonce, ← hm_string] at nth_SeenNonce
  unfold Has_s_laws_szSeenNonce at hF_s_laws_szSeenNonce
  rw [← hm_string] at hF_s_laws_szSeenNonce
  generalize hal : (fun (F : St → (Ex → St → Option (List Arg)) → Option (List Arg)) lv => aloop F lv fuel) = al
  rw [s_laws_szSeenNonceS, ← h_arith, ← h_cmp, ← h_int, ← h_len, ← hm_SeenNonce]
  conv => lhs; cbv
  refine cC (fun hb1 => ?_) (fun hb1 => ?_)
  · rw [hb1]
    conv => lhs; cbv
    first | done | rfl
  · rw [hb1]
    conv => lhs; cbv
    refine (loop_al hal (fun x => match x with | (v2, v3) => ⟨[.c (.rd true 194 2 (m_SeenNonce a0)), .c (.at (.int .i64 v2)), dd, dd, dd, .c (.at (.int .i64 v3)), dd, dd, dd, dd, dd, dd, dd, dd, dd, dd, dd, dd, dd, dd, dd, dd, dd, dd, dd, dd, dd], [], 1⟩) (s_laws_szSeenNonceS_l1 a0) (fun K g => match g with | .inl (v2, v3) => K (.exit 0) ⟨[.c (.rd true 194 2 (m_SeenNonce a0)), .c (.at (.int .i64 v2)), dd, dd, dd, .c (.at (.int .i64 v3)), dd, dd, dd, dd, dd, dd, .c (.at (.int .i64 v3)), .c (.rd true 194 2 (m_SeenNonce a0)), .c (.at (.int .i64 (p_int (p_len (m_SeenNonce a0))))), .c (.at (.bool false)), dd, dd, dd, dd, dd, dd, dd, dd, dd, dd, dd], [], 2⟩ | .inr (r) => some [.v (.at (.int .i64 r))]) ?_ (p_arith .sub .i64 a1 (p_int (p_len (m_SeenNonce a0))), 0) _ (rfl)).trans (cL ?_)
    · rintro K1 hr1 ⟨v2, v3⟩ R1
      rw [s_laws_szSeenNonceS_l1, ← h_arith, ← h_cmp, ← h_int, ← h_len, ← hm_SeenNonce]
      conv => lhs; cbv
      refine cC (fun hb4 => ?_) (fun hb4 => ?_)
      · rw [hb4]
        conv => lhs; cbv
        rw [nth_SeenNonce]
        refine cO (fun hx6 => ?_) ?_
        · rw [hx6]
          first | done | rfl
        · rintro x5 hx6
          rw [hx6]
          conv => lhs; cbv
          rw [hF_s_laws_szSeenNonce x5 v2]
          refine cO (fun hx8 => ?_) ?_
          · rw [hx8]
            first | done | rfl
          · rintro r7 hx8
            rw [hx8]
            conv => lhs; cbv
            refine cC (fun hb9 => ?_) (fun hb9 => ?_)
            · rw [hb9]
              conv => lhs; cbv
              rw [hr1]
              conv => lhs; cbv
              first | done | rfl
            · rw [hb9]
              conv => lhs; cbv
              first | done | rfl
      · rw [hb4]
        conv => lhs; cbv
        first | done | rfl
    · rintro (⟨w10, w11⟩ | w12)
      · conv => lhs; cbv
        first | done | rfl
      · rfl
def s_laws_szRoute (a0 : DRoute) (a1 : Int) : Option (Int) := (s_laws_szName a0.pfx a1).bind fun r1 => bif prims.cmp .lss r1 0 then (some (-1)) else (some r1)
def Has_s_laws_szRoute (F : Fns) : Prop := ∀ (a0 : DRoute) (a1 : Int), F 120 [.a [.sl 9 1 (List.map eS a0.pfx), .at (.int .i64 a0.face), .at (.int .i64 a0.cost)], .v (.at (.int .i64 a1))] = (s_laws_szRoute a0 a1).bind fun r => some [.v (.at (.int .i64 r))]
set_option maxHeartbeats 40000000 in
theorem e_s_laws_szRoute (F : Fns) (hF_s_laws_szName : Has_s_laws_szName F) (a0 : DRoute) (a1 : Int) : evBody prims (fun F lv => aloop F lv fuel) TY F ⟨Tryd.f120, Tryd.f120.body.getD .skip, fun _ => []⟩ [.a [.sl 9 1 (List.map eS a0.pfx), .at (.int .i64 a0.face), .at (.int .i64 a0.cost)], .v (.at (.int .i64 a1))] = (s_laws_szRoute a0 a1).bind fun r => some [.v (.at (.int .i64 r))] := by
  obtain ⟨p, hp⟩ : ∃ p : Prims, p = prims := ⟨_, rfl⟩
  obtain ⟨m_string, hm_string⟩ : ∃ m, m = List.map eS := ⟨_, rfl⟩
  rw [← hp]
  rw [← hm_string]
  obtain ⟨p_arith, p_cmp, p_wrap, p_scmp, p_scat, p_catOk, p_ssize, p_sat, p_ssub, p_bytes, p_str, p_bnot, p_beq, p_min, p_max, p_len, p_int, p_nth, p_sub, p_rsub, p_ridx, p_rnth, p_rset, p_rapp, p_rlen, p_addN, p_full, p_fits, p_frz, p_own, p_opn, p_lend, p_rmov, p_rout, p_both, p_yI, p_ofB, p_byW, p_mkN, p_rep, p_copy⟩ := p
  have h_cmp : p_cmp = prims.cmp := congrArg Prims.cmp hp
  clear hp
  unfold Has_s_laws_szName at hF_s_laws_szName
  rw [← hm_string] at hF_s_laws_szName
  generalize hal : (fun (F : St → (Ex → St → Option (List Arg)) → Option (List Arg)) lv => aloop F lv fuel) = al
  rw [s_laws_szRoute, ← h_cmp]
  conv => lhs; cbv
  rw [hF_s_laws_szName a0.pfx a1]
  refine cO (fun hx2 => ?_) ?_
  · rw [hx2]
    first | done | rfl
  · rintro r1 hx2
    rw [hx2]
    conv => lhs; cbv
    refine cC (fun hb3 => ?_) (fun hb3 => ?_)
    · rw [hb3]
      conv => lhs; cbv
      first | done | rfl
    · rw [hb3]
      conv => lhs; cbv
      first | done | rfl
def s_laws_szRouteS_l1 (a0 : (List DRoute)) : (Int × Int) → Option ((Int × Int) ⊕ ((Int × Int) ⊕ (Int)))
  | (v2, v3) => bif prims.cmp .lss v3 (prims.int (prims.len (List.map eRoute a0))) then ((nthI a0 v3).bind fun x5 => (s_laws_szRoute x5 v2).bind fun r7 => bif prims.cmp .lss r7 0 then (some (.inr (.inr ((-1))))) else (some (.inl (r7, prims.arith .add .i64 v3 1)))) else (some (.inr (.inl (v2, v3))))
def s_laws_szRouteS (a0 : (List DRoute)) (a1 : Int) : Option (Int) := bif prims.cmp .lss (prims.arith .sub .i64 a1 (prims.int (prims.len (List.map eRoute a0)))) 0 then (some (-1)) else ((whileO (s_laws_szRouteS_l1 a0) fuel (prims.arith .sub .i64 a1 (prims.int (prims.len (List.map eRoute a0))), 0)).bind fun g => match g with | .inl (w10, w11) => (some w10) | .inr (w12) => (some w12))
def Has_s_laws_szRouteS (F : Fns) : Prop := ∀ (a0 : (List DRoute)) (a1 : Int), F 75 [.v (.sl 197 3 (List.map eRoute a0)), .v (.at (.int .i64 a1))] = (s_laws_szRouteS a0 a1).bind fun r => some [.v (.at (.int .i64 r))]
set_option maxHeartbeats 40000000 in
theorem e_s_laws_szRouteS (F : Fns) (hF_s_laws_szRoute : Has_s_laws_szRoute F) (a0 : (List DRoute)) (a1 : Int) : evBody prims (fun F lv => aloop F lv fuel) TY F ⟨Tryd.f75, Tryd.f75.body.getD .skip, fun id => if id = 5 then [0, 1, 5] else []⟩ [.v (.sl 197 3 (List.map eRoute a0)), .v (.at (.int .i64 a1))] = (s_laws_szRouteS a0 a1).bind fun r => some [.v (.at (.int .i64 r))] := by
  obtain ⟨p, hp⟩ : ∃ p : Prims, p = prims := ⟨_, rfl⟩
  obtain ⟨m_Route, hm_Route⟩ : ∃ m, m = List.map eRoute := ⟨_, rfl⟩
  obtain ⟨m_string, hm_string⟩ : ∃ m, m = List.map eS := ⟨_, rfl⟩
  rw [← hp]
  rw [← hm_Route]
  obtain ⟨p_arith, p_cmp, p_wrap, p_scmp, p_scat, p_catOk, p_ssize, p_sat, p_ssub, p_bytes, p_str, p_bnot, p_beq, p_min, p_max, p_len, p_int, p_nth, p_sub, p_rsub, p_ridx, p_rnth, p_rset, p_rapp, p_rlen, p_addN, p_full, p_fits, p_frz, p_own, p_opn, p_lend, p_rmov, p_rout, p_both, p_yI, p_ofB, p_byW, p_mkN, p_rep, p_copy⟩ := p
  have h_arith : p_arith = prims.arith := congrArg Prims.arith hp
  have h_cmp : p_cmp = prims.cmp := congrArg Prims.cmp hp
  have h_int : p_int = prims.int := congrArg Prims.int hp
  have h_len : p_len = prims.len := congrArg Prims.len hp
  have h_nth : p_nth = prims.nth := congrArg Prims.nth hp
  clear hp
  have nth_Route := @nthF_Route
  rw [← h_nth, ← hm_Route, ← hm_string] at nth_Route
  unfold Has_s_laws_szRoute at hF_s_laws_szRoute
  rw [← hm_string] at hF_s_laws_szRoute
  generalize hal : (fun (F : St → (Ex → St → Option (List Arg)) → Option (List Arg)) lv => aloop F lv fuel) = al
  rw [s_laws_szRouteS, ← h_arith, ← h_cmp, ← h_int, ← h_len, ← hm_Route]
  conv => lhs; cbv
  refine cC (fun hb1 => ?_) (fun hb1 => ?_)
  · rw [hb1]
    conv => lhs; cbv
    first | done | rfl
  · rw [hb1]
    conv => lhs; cbv
    refine (loop_al hal (fun x => match x with | (v2, v3) => ⟨[.c (.rd true 197 3 (m_Route a0)), .c (.at (.int .i64 v2)), dd, dd, dd, .c (.at (.int .i64 v3)), dd, dd, dd, dd, dd, dd, dd, dd, dd, dd, dd, dd, dd, dd, dd, dd, dd, dd, dd, dd, dd], [], 1⟩) (s_laws_szRouteS_l1 a0) (fun K g => match g with | .inl (v2, v3) => K (.exit 0) ⟨[.c (.rd true 197 3 (m_Route a0)), .c (.at (.int .i64 v2)), dd, dd, dd, .c (.at (.int .i64 v3)), dd, dd, dd, dd, dd, dd, .c (.at (.int .i64 v3)), .c (.rd true 197 3 (m_Route a0)), .c (.at (.int .i64 (p_int (p_len (m_Route a0))))), .c (.at (.bool false)), dd, dd, dd, dd, dd, dd, dd, dd, dd, dd, dd], [], 2⟩ | .inr (r) => some [.v (.at (.int .i64 r))]) ?_ (p_arith .sub .i64 a1 (p_int (p_len (m_Route a0))), 0) _ (rfl)).trans (cL ?_)
    · rintro K1 hr1 ⟨v2, v3⟩ R1
      rw [s_laws_szRouteS_l1, ← h_arith, ← h_cmp, ← h_int, ← h_len, ← hm_Route]
      conv => lhs; cbv
      refine cC (fun hb4 => ?_) (fun hb4 => ?_)
      · rw [hb4]
        conv => lhs; cbv
        rw [nth_Route]
        refine cO (fun hx6 => ?_) ?_
        · rw [hx6]
          first | done | rfl
        · rintro x5 hx6
          rw [hx6]
          conv => lhs; cbv
          rw [hF_s_laws_szRoute x5 v2]
          refine cO (fun hx8 => ?_) ?_
          · rw [hx8]
            first | done | rfl
          · rintro r7 hx8
            rw [hx8]
            conv => lhs; cbv
            refine cC (fun hb9 => ?_) (fun hb9 => ?_)
            · rw [hb9]
              conv => lhs; cbv
              rw [hr1]
              conv => lhs; cbv
              first | done | rfl
            · rw [hb9]
              conv => lhs; cbv
              first | done | rfl
      · rw [hb4]
        conv => lhs; cbv
        first | done | rfl
    · rintro (⟨w10, w11⟩ | w12)
      · conv => lhs; cbv
        first | done | rfl
      · rfl
def s_laws_szMeasurement (a0 : DMeasurement) (a1 : Int) : Option (Int) := (s_laws_szName a0.pfx a1).bind fun r1 => bif prims.cmp .lss r1 0 then (some (-1)) else (some r1)
def Has_s_laws_szMeasurement (F : Fns) : Prop := ∀ (a0 : DMeasurement) (a1 : Int), F 121 [.a [.sl 9 1 (List.map eS a0.pfx), .at (.int .i64 a0.face), .at (.int .i64 a0.failures)], .v (.at (.int .i64 a1))] = (s_laws_szMeasurement a0 a1).bind fun r => some [.v (.at (.int .i64 r))]
set_option maxHeartbeats 40000000 in
theorem e_s_laws_szMeasurement (F : Fns) (hF_s_laws_szName : Has_s_laws_szName F) (a0 : DMeasurement) (a1 : Int) : evBody prims (fun F lv => aloop F lv fuel) TY F ⟨Tryd.f121, Tryd.f121.body.getD .skip, fun _ => []⟩ [.a [.sl 9 1 (List.map eS a0.pfx), .at (.int .i64 a0.face), .at (.int .i64 a0.failures)], .v (.at (.int .i64 a1))] = (s_laws_szMeasurement a0 a1).bind fun r => some [.v (.at (.int .i64 r))] := by
  obtain ⟨p, hp⟩ : ∃ p : Prims, p = prims := ⟨_, rfl⟩
  obtain ⟨m_string, hm_string⟩ : ∃ m, m = List.map eS := ⟨_, rfl⟩
  rw [← hp]
  rw [← hm_string]
  obtain ⟨p_arith, p_cmp, p_wrap, p_scmp, p_scat, p_catOk, p_ssize, p_sat, p_ssub, p_bytes, p_str, p_bnot, p_beq, p_min, p_max, p_len, p_int, p_nth, p_sub, p_rsub, p_ridx, p_rnth, p_rset, p_rapp, p_rlen, p_addN, p_full, p_fits, p_frz, p_own, p_opn, p_lend, p_rmov, p_rout, p_both, p_yI, p_ofB, p_byW, p_mkN, p_rep, p_copy⟩ := p
  have h_cmp : p_cmp = prims.cmp := congrArg Prims.cmp hp
  clear hp
  unfold Has_s_laws_szName at hF_s_laws_szName
  rw [← hm_string] at hF_s_laws_szName
  generalize hal : (fun (F : St → (Ex → St → Option (List Arg)) → Option (List Arg)) lv => aloop F lv fuel) = al
  rw [s_laws_szMeasurement, ← h_cmp]
  conv => lhs; cbv
  rw [hF_s_laws_szName a0.pfx a1]
  refine cO (fun hx2 => ?_) ?_
  · rw [hx2]
    first | done | rfl
  · rintro r1 hx2
    rw [hx2]
    conv => lhs; cbv
    refine cC (fun hb3 => ?_) (fun hb3 => ?_)
    · rw [hb3]
      conv => lhs; cbv
      first | done | rfl
    · rw [hb3]
      conv => lhs; cbv
      first | done | rfl
def s_laws_szMeasurementS_l1 (a0 : (List DMeasurement)) : (Int × Int) → Option ((Int × Int) ⊕ ((Int × Int) ⊕ (Int)))
  | (v2, v3) => bif prims.cmp .lss v3 (prims.int (prims.len (List.map eMeasurement a0))) then ((nthI a0 v3).bind fun x5 => (s_laws_szMeasurement x5 v2).bind fun r7 => bif prims.cmp .lss r7 0 then (some (.inr (.inr ((-1))))) else (some (.inl (r7, prims.arith .add .i64 v3 1)))) else (some (.inr (.inl (v2, v3))))
def s_laws_szMeasurementS (a0 : (List DMeasurement)) (a1 : Int) : Option (Int) := bif prims.cmp .lss (prims.arith .sub .i64 a1 (prims.int (prims.len (List.map eMeasurement a0)))) 0 then (some (-1)) else ((whileO (s_laws_szMeasurementS_l1 a0) fuel (prims.arith .sub .i64 a1 (prims.int (prims.len (List.map eMeasurement a0))), 0)).bind fun g => match g with | .inl (w10, w11) => (some w10) | .inr (w12) => (some w12))
def Has_s_laws_szMeasurementS (F : Fns) : Prop := ∀ (a0 : (List DMeasurement)) (a1 : Int), F 76 [.v (.sl 200 3 (List.map eMeasurement a0)), .v (.at (.int .i64 a1))] = (s_laws_szMeasurementS a0 a1).bind fun r => some [.v (.at (.int .i64 r))]
set_option maxHeartbeats 40000000 in
theorem e_s_laws_szMeasurementS (F : Fns) (hF_s_laws_szMeasurement : Has_s_laws_szMeasurement F) (a0 : (List DMeasurement)) (a1 : Int) : evBody prims (fun F lv => aloop F lv fuel) TY F ⟨Tryd.f76, Tryd.f76.body.getD .skip, fun id => if id = 5 then [0, 1, 5] else []⟩ [.v (.sl 200 3 (List.map eMeasurement a0)), .v (.at (.int .i64 a1))] = (s_laws_szMeasurementS a0 a1).bind fun r => some [.v (.at (.int .i64 r))] := by
  obtain ⟨p, hp⟩ : ∃ p : Prims, p = prims := ⟨_, rfl⟩
  obtain ⟨m_Measurement, hm_Measurement⟩ : ∃ m, m = List.map eMeasurement := ⟨_, rfl⟩
  obtain ⟨m_string, hm_string⟩ : ∃ m, m = List.map eS := ⟨_, rfl⟩
  rw [← hp]
  rw [← hm_Measurement]
  obtain ⟨p_arith, p_cmp, p_wrap, p_scmp, p_scat, p_catOk, p_ssize, p_sat, p_ssub, p_bytes, p_str, p_bnot, p_beq, p_min, p_max, p_len, p_int, p_nth, p_sub, p_rsub, p_ridx, p_rnth, p_rset, p_rapp, p_rlen, p_addN, p_full, p_fits, p_frz, p_own, p_opn, p_lend, p_rmov, p_rout, p_both, p_yI, p_ofB, p_byW, p_mkN, p_rep, p_copy⟩ := p
  have h_arith : p_arith = prims.arith := congrArg Prims.arith hp
  have h_cmp : p_cmp = prims.cmp := congrArg Prims.cmp hp
  have h_int : p_int = prims.int := congrArg Prims.int hp
  have h_len : p_len = prims.len := congrArg Prims.len hp
  have h_nth : p_nth = prims.nth := congrArg Prims.nth hp
  clear hp
  have nth_Measurement := @nthF_Measurement
  rw [← h_nth, ← hm_Measurement, ← hm_string] at nth_Measurement
  unfold Has_s_laws_szMeasurement at hF_s_laws_szMeasurement
  rw [← hm_string] at hF_s_laws_szMeasurement
  generalize hal : (fun (F : St → (Ex → St → Option (List Arg)) → Option (List Arg)) lv => aloop F lv fuel) = al
  rw [s_laws_szMeasurementS, ← h_arith, ← h_cmp, ← h_int, ← h_len, ← hm_Measurement]
  conv => lhs; cbv
  refine cC (fun hb1 => ?_) (fun hb1 => ?_)
  · rw [hb1]
    conv => lhs; cbv
    first | done | rfl
  · rw [hb1]
    conv => lhs; cbv
    refine (loop_al hal (fun x => match x with | (v2, v3) => ⟨[.c (.rd true 200 3 (m_Measurement a0)), .c (.at (.int .i64 v2)), dd, dd, dd, .c (.at (.int .i64 v3)), dd, dd, dd, dd, dd, dd, dd, dd, dd, dd, dd, dd, dd, dd, dd, dd, dd, dd, dd, dd, dd], [], 1⟩) (s_laws_szMeasurementS_l1 a0) (fun K g => match g with | .inl (v2, v3) => K (.exit 0) ⟨[.c (.rd true 200 3 (m_Measurement a0)), .c (.at (.int .i64 v2)), dd, dd, dd, .c (.at (.int .i64 v3)), dd, dd, dd, dd, dd, dd, .c (.at (.int .i64 v3)), .c (.rd true 200 3 (m_Measurement a0)), .c (.at (.int .i64 (p_int (p_len (m_Measurement a0))))), .c (.at (.bool false)), dd, dd, dd, dd, dd, dd, dd, dd, dd, dd, dd], [], 2⟩ | .inr (r) => some [.v (.at (.int .i64 r))]) ?_ (p_arith .sub .i64 a1 (p_int (p_len (m_Measurement a0))), 0) _ (rfl)).trans (cL ?_)
    · rintro K1 hr1 ⟨v2, v3⟩ R1
      rw [s_laws_szMeasurementS_l1, ← h_arith, ← h_cmp, ← h_int, ← h_len, ← hm_Measurement]
      conv => lhs; cbv
      refine cC (fun hb4 => ?_) (fun hb4 => ?_)
      · rw [hb4]
        conv => lhs; cbv
        rw [nth_Measurement]
        refine cO (fun hx6 => ?_) ?_
        · rw [hx6]
          first | done | rfl
        · rintro x5 hx6
          rw [hx6]
          conv => lhs; cbv
          rw [hF_s_laws_szMeasurement x5 v2]
          refine cO (fun hx8 => ?_) ?_
          · rw [hx8]
            first | done | rfl
          · rintro r7 hx8
            rw [hx8]
            conv => lhs; cbv
            refine cC (fun hb9 => ?_) (fun hb9 => ?_)
            · rw [hb9]
              conv => lhs; cbv
              rw [hr1]
              conv => lhs; cbv
              first | done | rfl
            · rw [hb9]
              conv => lhs; cbv
              first | done | rfl
      · rw [hb4]
        conv => lhs; cbv
        first | done | rfl
    · rintro (⟨w10, w11⟩ | w12)
      · conv => lhs; cbv
        first | done | rfl
      · rfl
def s_laws_szNode (a0 : DNode) (a1 : Int) : Option (Int) := (s_laws_szDataS a0.locals a1).bind fun r1 => bif prims.cmp .lss r1 0 then (some (-1)) else ((s_laws_szContentStore a0.cache r1).bind fun r4 => bif prims.cmp .lss r4 0 then (some (-1)) else ((s_laws_szPendingInterestS a0.pending r4).bind fun r7 => bif prims.cmp .lss r7 0 then (some (-1)) else ((s_laws_szSeenNonceS a0.seen r7).bind fun r10 => bif prims.cmp .lss r10 0 then (some (-1)) else ((s_laws_szRouteS a0.routes r10).bind fun r13 => bif prims.cmp .lss r13 0 then (some (-1)) else ((s_laws_szMeasurementS a0.measurements r13).bind fun r16 => bif prims.cmp .lss r16 0 then (some (-1)) else (some r16))))))
def Has_s_laws_szNode (F : Fns) : Prop := ∀ (a0 : DNode) (a1 : Int), F 32 [.a [.sl 32 5 (List.map eData a0.locals), .at (.int .i64 a0.cache.capacity), .sl 226 6 (List.map eCacheEntry a0.cache.entries), .sl 191 3 (List.map ePendingInterest a0.pending), .sl 194 2 (List.map eSeenNonce a0.seen), .sl 197 3 (List.map eRoute a0.routes), .sl 200 3 (List.map eMeasurement a0.measurements), .at (.int .i64 a0.dropped)], .v (.at (.int .i64 a1))] = (s_laws_szNode a0 a1).bind fun r => some [.v (.at (.int .i64 r))]
set_option maxHeartbeats 40000000 in
theorem e_s_laws_szNode (F : Fns) (hF_s_laws_szDataS : Has_s_laws_szDataS F) (hF_s_laws_szContentStore : Has_s_laws_szContentStore F) (hF_s_laws_szPendingInterestS : Has_s_laws_szPendingInterestS F) (hF_s_laws_szSeenNonceS : Has_s_laws_szSeenNonceS F) (hF_s_laws_szRouteS : Has_s_laws_szRouteS F) (hF_s_laws_szMeasurementS : Has_s_laws_szMeasurementS F) (a0 : DNode) (a1 : Int) : evBody prims (fun F lv => aloop F lv fuel) TY F ⟨Tryd.f32, Tryd.f32.body.getD .skip, fun _ => []⟩ [.a [.sl 32 5 (List.map eData a0.locals), .at (.int .i64 a0.cache.capacity), .sl 226 6 (List.map eCacheEntry a0.cache.entries), .sl 191 3 (List.map ePendingInterest a0.pending), .sl 194 2 (List.map eSeenNonce a0.seen), .sl 197 3 (List.map eRoute a0.routes), .sl 200 3 (List.map eMeasurement a0.measurements), .at (.int .i64 a0.dropped)], .v (.at (.int .i64 a1))] = (s_laws_szNode a0 a1).bind fun r => some [.v (.at (.int .i64 r))] := by
  obtain ⟨p, hp⟩ : ∃ p : Prims, p = prims := ⟨_, rfl⟩
  obtain ⟨m_CacheEntry, hm_CacheEntry⟩ : ∃ m, m = List.map eCacheEntry := ⟨_, rfl⟩
  obtain ⟨m_Data, hm_Data⟩ : ∃ m, m = List.map eData := ⟨_, rfl⟩
  obtain ⟨m_Measurement, hm_Measurement⟩ : ∃ m, m = List.map eMeasurement := ⟨_, rfl⟩
  obtain ⟨m_PendingInterest, hm_PendingInterest⟩ : ∃ m, m = List.map ePendingInterest := ⟨_, rfl⟩
  obtain ⟨m_Route, hm_Route⟩ : ∃ m, m = List.map eRoute := ⟨_, rfl⟩
  obtain ⟨m_SeenNonce, hm_SeenNonce⟩ : ∃ m, m = List.map eSeenNonce := ⟨_, rfl⟩
  rw [← hp]
  rw [← hm_CacheEntry, ← hm_Data, ← hm_Measurement, ← hm_PendingInterest, ← hm_Route, ← hm_SeenNonce]
  obtain ⟨p_arith, p_cmp, p_wrap, p_scmp, p_scat, p_catOk, p_ssize, p_sat, p_ssub, p_bytes, p_str, p_bnot, p_beq, p_min, p_max, p_len, p_int, p_nth, p_sub, p_rsub, p_ridx, p_rnth, p_rset, p_rapp, p_rlen, p_addN, p_full, p_fits, p_frz, p_own, p_opn, p_lend, p_rmov, p_rout, p_both, p_yI, p_ofB, p_byW, p_mkN, p_rep, p_copy⟩ := p
  have h_cmp : p_cmp = prims.cmp := congrArg Prims.cmp hp
  clear hp
  unfold Has_s_laws_szDataS at hF_s_laws_szDataS
  rw [← hm_Data] at hF_s_laws_szDataS
  unfold Has_s_laws_szContentStore at hF_s_laws_szContentStore
  rw [← hm_CacheEntry] at hF_s_laws_szContentStore
  unfold Has_s_laws_szPendingInterestS at hF_s_laws_szPendingInterestS
  rw [← hm_PendingInterest] at hF_s_laws_szPendingInterestS
  unfold Has_s_laws_szSeenNonceS at hF_s_laws_szSeenNonceS
  rw [← hm_SeenNonce] at hF_s_laws_szSeenNonceS
  unfold Has_s_laws_szRouteS at hF_s_laws_szRouteS
  rw [← hm_Route] at hF_s_laws_szRouteS
  unfold Has_s_laws_szMeasurementS at hF_s_laws_szMeasurementS
  rw [← hm_Measurement] at hF_s_laws_szMeasurementS
  generalize hal : (fun (F : St → (Ex → St → Option (List Arg)) → Option (List Arg)) lv => aloop F lv fuel) = al
  rw [s_laws_szNode, ← h_cmp]
  conv => lhs; cbv
  rw [hF_s_laws_szDataS a0.locals a1]
  refine cO (fun hx2 => ?_) ?_
  · rw [hx2]
    first | done | rfl
  · rintro r1 hx2
    rw [hx2]
    conv => lhs; cbv
    refine cC (fun hb3 => ?_) (fun hb3 => ?_)
    · rw [hb3]
      conv => lhs; cbv
      first | done | rfl
    · rw [hb3]
      conv => lhs; cbv
      rw [hF_s_laws_szContentStore a0.cache r1]
      refine cO (fun hx5 => ?_) ?_
      · rw [hx5]
        first | done | rfl
      · rintro r4 hx5
        rw [hx5]
        conv => lhs; cbv
        refine cC (fun hb6 => ?_) (fun hb6 => ?_)
        · rw [hb6]
          conv => lhs; cbv
          first | done | rfl
        · rw [hb6]
          conv => lhs; cbv
          rw [hF_s_laws_szPendingInterestS a0.pending r4]
          refine cO (fun hx8 => ?_) ?_
          · rw [hx8]
            first | done | rfl
          · rintro r7 hx8
            rw [hx8]
            conv => lhs; cbv
            refine cC (fun hb9 => ?_) (fun hb9 => ?_)
            · rw [hb9]
              conv => lhs; cbv
              first | done | rfl
            · rw [hb9]
              conv => lhs; cbv
              rw [hF_s_laws_szSeenNonceS a0.seen r7]
              refine cO (fun hx11 => ?_) ?_
              · rw [hx11]
                first | done | rfl
              · rintro r10 hx11
                rw [hx11]
                conv => lhs; cbv
                refine cC (fun hb12 => ?_) (fun hb12 => ?_)
                · rw [hb12]
                  conv => lhs; cbv
                  first | done | rfl
                · rw [hb12]
                  conv => lhs; cbv
                  rw [hF_s_laws_szRouteS a0.routes r10]
                  refine cO (fun hx14 => ?_) ?_
                  · rw [hx14]
                    first | done | rfl
                  · rintro r13 hx14
                    rw [hx14]
                    conv => lhs; cbv
                    refine cC (fun hb15 => ?_) (fun hb15 => ?_)
                    · rw [hb15]
                      conv => lhs; cbv
                      first | done | rfl
                    · rw [hb15]
                      conv => lhs; cbv
                      rw [hF_s_laws_szMeasurementS a0.measurements r13]
                      refine cO (fun hx17 => ?_) ?_
                      · rw [hx17]
                        first | done | rfl
                      · rintro r16 hx17
                        rw [hx17]
                        conv => lhs; cbv
                        refine cC (fun hb18 => ?_) (fun hb18 => ?_)
                        · rw [hb18]
                          conv => lhs; cbv
                          first | done | rfl
                        · rw [hb18]
                          conv => lhs; cbv
                          first | done | rfl
def s_laws_toDataS_l1 (a0 : (List DData)) : (Int × (List DData)) → Option ((Int × (List DData)) ⊕ ((Int × (List DData))))
  | (v3, v4) => bif prims.cmp .lss v3 (prims.int (prims.len (List.map eData a0))) then ((nthI a0 v3).bind fun x6 => (s_laws_toData x6).bind fun r8 => (prims.ridx 0 (prims.len (List.map eData v4)) v3).bind fun x10 => (v4[x10]?).bind fun x12 => some (.inl (prims.arith .add .i64 v3 1, v4.set x10 r8))) else (some (.inr (v3, v4)))
def s_laws_toDataS (a0 : (List DData)) : Option ((List DData)) := (mkSl ((⟨[], [], [], 0, 0⟩ : DData) : DData) (prims.int (prims.len (List.map eData a0))) (prims.int (prims.len (List.map eData a0))) 88).bind fun x1 => (whileO (s_laws_toDataS_l1 a0) fuel (0, x1)).bind fun ⟨w14, w15⟩ => some w15
def Has_s_laws_toDataS (F : Fns) : Prop := ∀ (a0 : (List DData)), F 78 [.v (.sl 32 5 (List.map eData a0))] = (s_laws_toDataS a0).bind fun r => some [.v (.sl 32 5 (List.map eData r))]
set_option maxHeartbeats 40000000 in
theorem e_s_laws_toDataS (F : Fns) (hF_s_laws_toData : Has_s_laws_toData F) (a0 : (List DData)) : evBody prims (fun F lv => aloop F lv fuel) TY F ⟨Tryd.f78, Tryd.f78.body.getD .skip, fun id => if id = 3 then [0, 3, 4] else []⟩ [.v (.sl 32 5 (List.map eData a0))] = (s_laws_toDataS a0).bind fun r => some [.v (.sl 32 5 (List.map eData r))] := by
  obtain ⟨p, hp⟩ : ∃ p : Prims, p = prims := ⟨_, rfl⟩
  obtain ⟨m_Data, hm_Data⟩ : ∃ m, m = List.map eData := ⟨_, rfl⟩
  obtain ⟨m_byte, hm_byte⟩ : ∃ m, m = List.map eY := ⟨_, rfl⟩
  obtain ⟨m_string, hm_string⟩ : ∃ m, m = List.map eS := ⟨_, rfl⟩
  rw [← hp]
  rw [← hm_Data]
  obtain ⟨p_arith, p_cmp, p_wrap, p_scmp, p_scat, p_catOk, p_ssize, p_sat, p_ssub, p_bytes, p_str, p_bnot, p_beq, p_min, p_max, p_len, p_int, p_nth, p_sub, p_rsub, p_ridx, p_rnth, p_rset, p_rapp, p_rlen, p_addN, p_full, p_fits, p_frz, p_own, p_opn, p_lend, p_rmov, p_rout, p_both, p_yI, p_ofB, p_byW, p_mkN, p_rep, p_copy⟩ := p
  have h_arith : p_arith = prims.arith := congrArg Prims.arith hp
  have h_cmp : p_cmp = prims.cmp := congrArg Prims.cmp hp
  have h_full : p_full = prims.full := congrArg Prims.full hp
  have h_int : p_int = prims.int := congrArg Prims.int hp
  have h_len : p_len = prims.len := congrArg Prims.len hp
  have h_mkN : p_mkN = prims.mkN := congrArg Prims.mkN hp
  have h_nth : p_nth = prims.nth := congrArg Prims.nth hp
  have h_opn : p_opn = prims.opn := congrArg Prims.opn hp
  have h_own : p_own = prims.own := congrArg Prims.own hp
  have h_rep : p_rep = prims.rep := congrArg Prims.rep hp
  have h_ridx : p_ridx = prims.ridx := congrArg Prims.ridx hp
  have h_rnth : p_rnth = prims.rnth := congrArg Prims.rnth hp
  have h_rset : p_rset = prims.rset := congrArg Prims.rset hp
  clear hp
  have full_Data := @fullF_Data
  rw [← h_full, ← h_len, ← h_opn, ← hm_Data] at full_Data
  have full_byte := @fullF_byte
  rw [← h_full, ← h_len, ← h_opn, ← hm_byte] at full_byte
  have full_string := @fullF_string
  rw [← h_full, ← h_len, ← h_opn, ← hm_string] at full_string
  have lset_Data := @lsetF_Data
  rw [← h_len, ← hm_Data] at lset_Data
  have mkn_Data := @mknF_Data
  rw [← h_len, ← h_mkN, ← hm_Data] at mkn_Data
  have nth_Data := @nthF_Data
  rw [← h_nth, ← hm_Data, ← hm_byte, ← hm_string] at nth_Data
  have own_Data := @ownF_Data
  rw [← h_opn, ← h_own, ← hm_Data] at own_Data
  have own_byte := @ownF_byte
  rw [← h_opn, ← h_own, ← hm_byte] at own_byte
  have own_string := @ownF_string
  rw [← h_opn, ← h_own, ← hm_string] at own_string
  have rep_Data := @repF_Data
  rw [← h_len, ← h_opn, ← h_rep, ← hm_Data] at rep_Data
  have rnth_Data := @rnthF_Data
  rw [← h_opn, ← h_rnth, ← hm_Data, ← hm_byte, ← hm_string] at rnth_Data
  have rset_Data := @rsetF_Data
  rw [← h_opn, ← h_rset, ← hm_Data, ← hm_byte, ← hm_string] at rset_Data
  unfold Has_s_laws_toData at hF_s_laws_toData
  rw [← hm_byte, ← hm_string] at hF_s_laws_toData
  generalize hal : (fun (F : St → (Ex → St → Option (List Arg)) → Option (List Arg)) lv => aloop F lv fuel) = al
  rw [s_laws_toDataS, ← h_int, ← h_len, ← hm_Data]
  conv => lhs; cbv
  rw [mkn_Data]
  refine cO (fun hx2 => ?_) ?_
  · rw [hx2]
    first | done | rfl
  · rintro x1 hx2
    rw [hx2]
    conv => lhs; cbv
    rw [rep_Data _ _ _ hx2]
    conv => lhs; cbv
    refine (loop_al hal (fun x => match x with | (v3, v4) => ⟨[.c (.rd true 32 5 (m_Data a0)), dd, dd, .c (.row (0, 0, 0) 32 5 0 (p_len (m_Data v4))), .c (.at (.int .i64 v3)), dd, dd, dd, dd, dd, dd, dd, dd, dd, dd, dd, dd, dd, dd, dd, dd, dd, dd], [((0, 0, 0), ⟨true, false, 32, 5, p_opn (m_Data v4)⟩)], 1⟩) (s_laws_toDataS_l1 a0) (fun K g => match g with | (v3, v4) => K (.exit 0) ⟨[.c (.rd true 32 5 (m_Data a0)), dd, dd, .c (.row (0, 0, 0) 32 5 0 (p_len (m_Data v4))), .c (.at (.int .i64 v3)), dd, dd, dd, .c (.at (.int .i64 v3)), .c (.rd true 32 5 (m_Data a0)), .c (.at (.int .i64 (p_int (p_len (m_Data a0))))), .c (.at (.bool false)), dd, dd, dd, dd, dd, dd, dd, dd, dd, dd, dd], [((0, 0, 0), ⟨true, false, 32, 5, p_opn (m_Data v4)⟩)], 2⟩) ?_ (0, x1) _ (rfl)).trans (cL ?_)
    · rintro K1 hr1 ⟨v3, v4⟩ R1
      rw [s_laws_toDataS_l1, ← h_arith, ← h_cmp, ← h_int, ← h_len, ← h_ridx, ← hm_Data]
      conv => lhs; cbv
      refine cC (fun hb5 => ?_) (fun hb5 => ?_)
      · rw [hb5]
        conv => lhs; cbv
        rw [nth_Data]
        refine cO (fun hx7 => ?_) ?_
        · rw [hx7]
          first | done | rfl
        · rintro x6 hx7
          rw [hx7]
          conv => lhs; cbv
          rw [hF_s_laws_toData x6]
          refine cO (fun hx9 => ?_) ?_
          · rw [hx9]
            first | done | rfl
          · rintro r8 hx9
            rw [hx9]
            conv => lhs; cbv
            refine cO (fun hx11 => ?_) ?_
            · rw [hx11]
              first | done | rfl
            · rintro x10 hx11
              rw [hx11]
              conv => lhs; cbv
              rw [rnth_Data]
              refine cO (fun hx13 => ?_) ?_
              · rw [hx13]
                first | done | rfl
              · rintro x12 hx13
                rw [hx13]
                conv => lhs; cbv
                rw [if_pos (full_string _)]
                conv => lhs; cbv
                rw [own_string]
                conv => lhs; cbv
                rw [if_pos (full_byte _)]
                conv => lhs; cbv
                rw [own_byte]
                conv => lhs; cbv
                rw [if_pos (full_string _)]
                conv => lhs; cbv
                rw [own_string]
                conv => lhs; cbv
                rw [rset_Data]
                try conv => lhs; rw [← lset_Data v4 x10 r8]
                conv => lhs; cbv
                first | done | rfl
      · rw [hb5]
        conv => lhs; cbv
        first | done | rfl
    · rintro ⟨w14, w15⟩
      conv => lhs; cbv
      rw [if_pos (full_Data _)]
      conv => lhs; cbv
      rw [own_Data]
      conv => lhs; cbv
      first | done | rfl
def s_laws_toCacheEntry (a0 : DCacheEntry) : Option (DCacheEntry) := (s_laws_toData a0.data).bind fun r1 => some (⟨r1, a0.lastUsed⟩ : DCacheEntry)
def Has_s_laws_toCacheEntry (F : Fns) : Prop := ∀ (a0 : DCacheEntry), F 145 [.a [.sl 9 1 (List.map eS a0.data.name), .sl 5 1 (List.map eY a0.data.content), .sl 9 1 (List.map eS a0.data.keyName), .at (.int .i64 a0.data.freshUntil), .at (.int .i64 a0.data.signature), .at (.int .i64 a0.lastUsed)]] = (s_laws_toCacheEntry a0).bind fun r => some [.a [.sl 9 1 (List.map eS r.data.name), .sl 5 1 (List.map eY r.data.content), .sl 9 1 (List.map eS r.data.keyName), .at (.int .i64 r.data.freshUntil), .at (.int .i64 r.data.signature), .at (.int .i64 r.lastUsed)]]
set_option maxHeartbeats 40000000 in
theorem e_s_laws_toCacheEntry (F : Fns) (hF_s_laws_toData : Has_s_laws_toData F) (a0 : DCacheEntry) : evBody prims (fun F lv => aloop F lv fuel) TY F ⟨Tryd.f145, Tryd.f145.body.getD .skip, fun _ => []⟩ [.a [.sl 9 1 (List.map eS a0.data.name), .sl 5 1 (List.map eY a0.data.content), .sl 9 1 (List.map eS a0.data.keyName), .at (.int .i64 a0.data.freshUntil), .at (.int .i64 a0.data.signature), .at (.int .i64 a0.lastUsed)]] = (s_laws_toCacheEntry a0).bind fun r => some [.a [.sl 9 1 (List.map eS r.data.name), .sl 5 1 (List.map eY r.data.content), .sl 9 1 (List.map eS r.data.keyName), .at (.int .i64 r.data.freshUntil), .at (.int .i64 r.data.signature), .at (.int .i64 r.lastUsed)]] := by
  obtain ⟨p, hp⟩ : ∃ p : Prims, p = prims := ⟨_, rfl⟩
  obtain ⟨m_byte, hm_byte⟩ : ∃ m, m = List.map eY := ⟨_, rfl⟩
  obtain ⟨m_string, hm_string⟩ : ∃ m, m = List.map eS := ⟨_, rfl⟩
  rw [← hp]
  rw [← hm_byte, ← hm_string]
  obtain ⟨p_arith, p_cmp, p_wrap, p_scmp, p_scat, p_catOk, p_ssize, p_sat, p_ssub, p_bytes, p_str, p_bnot, p_beq, p_min, p_max, p_len, p_int, p_nth, p_sub, p_rsub, p_ridx, p_rnth, p_rset, p_rapp, p_rlen, p_addN, p_full, p_fits, p_frz, p_own, p_opn, p_lend, p_rmov, p_rout, p_both, p_yI, p_ofB, p_byW, p_mkN, p_rep, p_copy⟩ := p
  have h_full : p_full = prims.full := congrArg Prims.full hp
  have h_len : p_len = prims.len := congrArg Prims.len hp
  have h_opn : p_opn = prims.opn := congrArg Prims.opn hp
  have h_own : p_own = prims.own := congrArg Prims.own hp
  clear hp
  have full_byte := @fullF_byte
  rw [← h_full, ← h_len, ← h_opn, ← hm_byte] at full_byte
  have full_string := @fullF_string
  rw [← h_full, ← h_len, ← h_opn, ← hm_string] at full_string
  have own_byte := @ownF_byte
  rw [← h_opn, ← h_own, ← hm_byte] at own_byte
  have own_string := @ownF_string
  rw [← h_opn, ← h_own, ← hm_string] at own_string
  unfold Has_s_laws_toData at hF_s_laws_toData
  rw [← hm_byte, ← hm_string] at hF_s_laws_toData
  generalize hal : (fun (F : St → (Ex → St → Option (List Arg)) → Option (List Arg)) lv => aloop F lv fuel) = al
  rw [s_laws_toCacheEntry]
  conv => lhs; cbv
  rw [hF_s_laws_toData a0.data]
  refine cO (fun hx2 => ?_) ?_
  · rw [hx2]
    first | done | rfl
  · rintro r1 hx2
    rw [hx2]
    conv => lhs; cbv
    rw [if_pos (full_string _)]
    conv => lhs; cbv
    rw [own_string]
    conv => lhs; cbv
    rw [if_pos (full_byte _)]
    conv => lhs; cbv
    rw [own_byte]
    conv => lhs; cbv
    rw [if_pos (full_string _)]
    conv => lhs; cbv
    rw [own_string]
    conv => lhs; cbv
    first | done | rfl
def s_laws_toCacheEntryS_l1 (a0 : (List DCacheEntry)) : (Int × (List DCacheEntry)) → Option ((Int × (List DCacheEntry)) ⊕ ((Int × (List DCacheEntry))))
  | (v3, v4) => bif prims.cmp .lss v3 (prims.int (prims.len (List.map eCacheEntry a0))) then ((nthI a0 v3).bind fun x6 => (s_laws_toCacheEntry x6).bind fun r8 => (prims.ridx 0 (prims.len (List.map eCacheEntry v4)) v3).bind fun x10 => (v4[x10]?).bind fun x12 => some (.inl (prims.arith .add .i64 v3 1, v4.set x10 r8))) else (some (.inr (v3, v4)))
def s_laws_toCacheEntryS (a0 : (List DCacheEntry)) : Option ((List DCacheEntry)) := (mkSl ((⟨(⟨[], [], [], 0, 0⟩ : DData), 0⟩ : DCacheEntry) : DCacheEntry) (prims.int (prims.len (List.map eCacheEntry a0))) (prims.int (prims.len (List.map eCacheEntry a0))) 96).bind fun x1 => (whileO (s_laws_toCacheEntryS_l1 a0) fuel (0, x1)).bind fun ⟨w14, w15⟩ => some w15
def Has_s_laws_toCacheEntryS (F : Fns) : Prop := ∀ (a0 : (List DCacheEntry)), F 122 [.v (.sl 226 6 (List.map eCacheEntry a0))] = (s_laws_toCacheEntryS a0).bind fun r => some [.v (.sl 226 6 (List.map eCacheEntry r))]
set_option maxHeartbeats 40000000 in
theorem e_s_laws_toCacheEntryS (F : Fns) (hF_s_laws_toCacheEntry : Has_s_laws_toCacheEntry F) (a0 : (List DCacheEntry)) : evBody prims (fun F lv => aloop F lv fuel) TY F ⟨Tryd.f122, Tryd.f122.body.getD .skip, fun id => if id = 3 then [0, 3, 4] else []⟩ [.v (.sl 226 6 (List.map eCacheEntry a0))] = (s_laws_toCacheEntryS a0).bind fun r => some [.v (.sl 226 6 (List.map eCacheEntry r))] := by
  obtain ⟨p, hp⟩ : ∃ p : Prims, p = prims := ⟨_, rfl⟩
  obtain ⟨m_CacheEntry, hm_CacheEntry⟩ : ∃ m, m = List.map eCacheEntry := ⟨_, rfl⟩
  obtain ⟨m_byte, hm_byte⟩ : ∃ m, m = List.map eY := ⟨_, rfl⟩
  obtain ⟨m_string, hm_string⟩ : ∃ m, m = List.map eS := ⟨_, rfl⟩
  rw [← hp]
  rw [← hm_CacheEntry]
  obtain ⟨p_arith, p_cmp, p_wrap, p_scmp, p_scat, p_catOk, p_ssize, p_sat, p_ssub, p_bytes, p_str, p_bnot, p_beq, p_min, p_max, p_len, p_int, p_nth, p_sub, p_rsub, p_ridx, p_rnth, p_rset, p_rapp, p_rlen, p_addN, p_full, p_fits, p_frz, p_own, p_opn, p_lend, p_rmov, p_rout, p_both, p_yI, p_ofB, p_byW, p_mkN, p_rep, p_copy⟩ := p
  have h_arith : p_arith = prims.arith := congrArg Prims.arith hp
  have h_cmp : p_cmp = prims.cmp := congrArg Prims.cmp hp
  have h_full : p_full = prims.full := congrArg Prims.full hp
  have h_int : p_int = prims.int := congrArg Prims.int hp
  have h_len : p_len = prims.len := congrArg Prims.len hp
  have h_mkN : p_mkN = prims.mkN := congrArg Prims.mkN hp
  have h_nth : p_nth = prims.nth := congrArg Prims.nth hp
  have h_opn : p_opn = prims.opn := congrArg Prims.opn hp
  have h_own : p_own = prims.own := congrArg Prims.own hp
  have h_rep : p_rep = prims.rep := congrArg Prims.rep hp
  have h_ridx : p_ridx = prims.ridx := congrArg Prims.ridx hp
  have h_rnth : p_rnth = prims.rnth := congrArg Prims.rnth hp
  have h_rset : p_rset = prims.rset := congrArg Prims.rset hp
  clear hp
  have full_CacheEntry := @fullF_CacheEntry
  rw [← h_full, ← h_len, ← h_opn, ← hm_CacheEntry] at full_CacheEntry
  have full_byte := @fullF_byte
  rw [← h_full, ← h_len, ← h_opn, ← hm_byte] at full_byte
  have full_string := @fullF_string
  rw [← h_full, ← h_len, ← h_opn, ← hm_string] at full_string
  have lset_CacheEntry := @lsetF_CacheEntry
  rw [← h_len, ← hm_CacheEntry] at lset_CacheEntry
  have mkn_CacheEntry := @mknF_CacheEntry
  rw [← h_len, ← h_mkN, ← hm_CacheEntry] at mkn_CacheEntry
  have nth_CacheEntry := @nthF_CacheEntry
  rw [← h_nth, ← hm_CacheEntry, ← hm_byte, ← hm_string] at nth_CacheEntry
  have own_CacheEntry := @ownF_CacheEntry
  rw [← h_opn, ← h_own, ← hm_CacheEntry] at own_CacheEntry
  have own_byte := @ownF_byte
  rw [← h_opn, ← h_own, ← hm_byte] at own_byte
  have own_string := @ownF_string
  rw [← h_opn, ← h_own, ← hm_string] at own_string
  have rep_CacheEntry := @repF_CacheEntry
  rw [← h_len, ← h_opn, ← h_rep, ← hm_CacheEntry] at rep_CacheEntry
  have rnth_CacheEntry := @rnthF_CacheEntry
  rw [← h_opn, ← h_rnth, ← hm_CacheEntry, ← hm_byte, ← hm_string] at rnth_CacheEntry
  have rset_CacheEntry := @rsetF_CacheEntry
  rw [← h_opn, ← h_rset, ← hm_CacheEntry, ← hm_byte, ← hm_string] at rset_CacheEntry
  unfold Has_s_laws_toCacheEntry at hF_s_laws_toCacheEntry
  rw [← hm_byte, ← hm_string] at hF_s_laws_toCacheEntry
  generalize hal : (fun (F : St → (Ex → St → Option (List Arg)) → Option (List Arg)) lv => aloop F lv fuel) = al
  rw [s_laws_toCacheEntryS, ← h_int, ← h_len, ← hm_CacheEntry]
  conv => lhs; cbv
  rw [mkn_CacheEntry]
  refine cO (fun hx2 => ?_) ?_
  · rw [hx2]
    first | done | rfl
  · rintro x1 hx2
    rw [hx2]
    conv => lhs; cbv
    rw [rep_CacheEntry _ _ _ hx2]
    conv => lhs; cbv
    refine (loop_al hal (fun x => match x with | (v3, v4) => ⟨[.c (.rd true 226 6 (m_CacheEntry a0)), dd, dd, .c (.row (0, 0, 0) 226 6 0 (p_len (m_CacheEntry v4))), .c (.at (.int .i64 v3)), dd, dd, dd, dd, dd, dd, dd, dd, dd, dd, dd, dd, dd, dd, dd, dd, dd, dd], [((0, 0, 0), ⟨true, false, 226, 6, p_opn (m_CacheEntry v4)⟩)], 1⟩) (s_laws_toCacheEntryS_l1 a0) (fun K g => match g with | (v3, v4) => K (.exit 0) ⟨[.c (.rd true 226 6 (m_CacheEntry a0)), dd, dd, .c (.row (0, 0, 0) 226 6 0 (p_len (m_CacheEntry v4))), .c (.at (.int .i64 v3)), dd, dd, dd, .c (.at (.int .i64 v3)), .c (.rd true 226 6 (m_CacheEntry a0)), .c (.at (.int .i64 (p_int (p_len (m_CacheEntry a0))))), .c (.at (.bool false)), dd, dd, dd, dd, dd, dd, dd, dd, dd, dd, dd], [((0, 0, 0), ⟨true, false, 226, 6, p_opn (m_CacheEntry v4)⟩)], 2⟩) ?_ (0, x1) _ (rfl)).trans (cL ?_)
    · rintro K1 hr1 ⟨v3, v4⟩ R1
      rw [s_laws_toCacheEntryS_l1, ← h_arith, ← h_cmp, ← h_int, ← h_len, ← h_ridx, ← hm_CacheEntry]
      conv => lhs; cbv
      refine cC (fun hb5 => ?_) (fun hb5 => ?_)
      · rw [hb5]
        conv => lhs; cbv
        rw [nth_CacheEntry]
        refine cO (fun hx7 => ?_) ?_
        · rw [hx7]
          first | done | rfl
        · rintro x6 hx7
          rw [hx7]
          conv => lhs; cbv
          rw [hF_s_laws_toCacheEntry x6]
          refine cO (fun hx9 => ?_) ?_
          · rw [hx9]
            first | done | rfl
          · rintro r8 hx9
            rw [hx9]
            conv => lhs; cbv
            refine cO (fun hx11 => ?_) ?_
            · rw [hx11]
              first | done | rfl
            · rintro x10 hx11
              rw [hx11]
              conv => lhs; cbv
              rw [rnth_CacheEntry]
              refine cO (fun hx13 => ?_) ?_
              · rw [hx13]
                first | done | rfl
              · rintro x12 hx13
                rw [hx13]
                conv => lhs; cbv
                rw [if_pos (full_string _)]
                conv => lhs; cbv
                rw [own_string]
                conv => lhs; cbv
                rw [if_pos (full_byte _)]
                conv => lhs; cbv
                rw [own_byte]
                conv => lhs; cbv
                rw [if_pos (full_string _)]
                conv => lhs; cbv
                rw [own_string]
                conv => lhs; cbv
                rw [rset_CacheEntry]
                try conv => lhs; rw [← lset_CacheEntry v4 x10 r8]
                conv => lhs; cbv
                first | done | rfl
      · rw [hb5]
        conv => lhs; cbv
        first | done | rfl
    · rintro ⟨w14, w15⟩
      conv => lhs; cbv
      rw [if_pos (full_CacheEntry _)]
      conv => lhs; cbv
      rw [own_CacheEntry]
      conv => lhs; cbv
      first | done | rfl
end
end Go.Proofs.YtofieohogenojaaDoor
