/- laws.FnExactEpochName returns true: out of its plain function. Printed by genlw.py. -/
import Derived.Test.YtfianjolmcoadaaDoorLw
import Derived.Test.YtfianjolmcoadaaDoorFp
import Derived.Test.YtfianjolmcoadaaDoorFh
import Derived.Test.YtfianjolmcoadaaDoorPe
namespace Go.Proofs.YtfianjolmcoadaaDoor
open Go.RowKit
set_option linter.unusedVariables false
set_option linter.unusedSimpArgs false
set_option maxRecDepth 100000

theorem cntL_szL {α : Type} (c f : α → Nat) : ∀ (l : List α), (∀ x ∈ l, c x ≤ f x + 1) → cntL c l ≤ szL f l
  | [], _ => by simp [cntL, szL]
  | x :: l, h => by
    have h1 := h x (by simp)
    have h2 := cntL_szL c f l fun y hy => h y (by simp [hy])
    simp only [cntL, szL] at h2 ⊢
    omega
theorem appL_sz (n : List ByteArray) (s : ByteArray) : szL ByteArray.size (appL n s) ≤ szL ByteArray.size n + s.size + 1 := by
  unfold appL
  split
  · have : ∀ l : List ByteArray, szL ByteArray.size (l ++ [s]) = szL ByteArray.size l + s.size + 1 := by
      intro l
      induction l with
      | nil => simp [szL]
      | cons x l ih => simp only [szL, List.cons_append] at ih ⊢; omega
    rw [this]
    exact Nat.le_refl _
  · omega
theorem p_lawFnExactEpochName (x0 : DAccessController) (x1 : (List ByteArray)) (k0 : okAccessController x0) (k1 : LimL OkStr x1) : s_laws_FnExactEpochName x0 x1 = some true := by
  unfold s_laws_FnExactEpochName
  rw [p_szAccessController x0 1048576 k0 (by decide) (by decide), Option.bind_some, pl_lss]
  by_cases hs : ((szAccessController x0 : Nat) : Int) ≤ 1048576
  · rw [not_lt_remain hs, cond_false, remain_le hs, p_szName x1 (1048576 - ((szAccessController x0 : Nat) : Int)) k1 (by omega) (by omega), Option.bind_some, pl_lss]
    by_cases hs1 : ((szL ByteArray.size x1 : Nat) : Int) ≤ 1048576 - ((szAccessController x0 : Nat) : Int)
    · rw [not_lt_remain hs1, cond_false]
      have hz : szAccessController x0 = szL szKey x0.keys + szL szReader x0.readers := rfl
      have hA : szAccessController x0 ≤ 1048576 := by omega
      have hB : szL ByteArray.size x1 ≤ 1048576 := by omega
      have hk : I64 x0.epoch := k0.2.2.1
      have hl := szL_len ByteArray.size x1
      have he := epT_size _ hk
      have hn : NameOk (x1 ++ [epT x0.epoch]) := by
        refine ⟨by simp only [List.length_append, List.length_cons, List.length_nil]; omega, fun s hs => ?_⟩
        rcases List.mem_append.1 hs with hs | hs
        · have := szL_mem ByteArray.size hs; omega
        · simp only [List.mem_cons, List.not_mem_nil, or_false] at hs; subst hs; exact he
      have hE := appL_sz x1 (epT x0.epoch)
      have hi := itoa_len _ hk
      have he2 : (epT x0.epoch).size ≤ 30 := by show (101 :: Go.Lib.itoa x0.epoch).length ≤ _; simp only [List.length_cons]; omega
      have hEl := szL_len ByteArray.size (appL x1 (epT x0.epoch))
      have hc1 : cntL cKey x0.keys ≤ szL szKey x0.keys := cntL_szL _ _ _ fun x _ => by
        have e : szKey x = szL ByteArray.size x.name := rfl
        have := szL_len ByteArray.size x.name
        unfold cKey
        omega
      have hc2 : cntL cReader x0.readers ≤ 2 * szL szReader x0.readers := by
        have : ∀ l : List DReader, cntL cReader l ≤ 2 * szL szReader l := by
          intro l
          induction l with
          | nil => simp [cntL]
          | cons x l ih =>
            have e : szReader x = szL ByteArray.size x.name := rfl
            have := szL_len ByteArray.size x.name
            simp only [cntL, szL, cReader] at ih ⊢
            omega
        exact this _
      have hm : s_laws_markAccessController x0 1 = some (mtAccessController x0 1, 1 + ((cntL cKey x0.keys + cntL cReader x0.readers : Nat) : Int)) := if_pos ⟨by decide, by omega⟩
      simp only [p_toAccessController x0 hA, p_toName x1 hB, p_spec_EpochName x0 x1 (by omega) hk hn, p_impl_EpochName x0 x1 (by omega) hk hn, Option.bind_some, p_eqName (appL x1 (epT x0.epoch)) (by omega), eq_self_b2, pl_bnot, Bool.not_true, cond_false, p_eqAccessController x0 (by omega), p_eqName x1 (by omega)]
      simp only [hm, p_markName x1 (1 + ((cntL cKey x0.keys + cntL cReader x0.readers : Nat) : Int)) (by omega) (by omega), p_markName (appL x1 (epT x0.epoch)) 1 (by decide) (by omega), Option.bind_some, lss_no (show (0 : Int) ≤ 1 + ((cntL cKey x0.keys + cntL cReader x0.readers : Nat) : Int) + ((x1.length : Nat) : Int) by omega), cond_false, p_heldName (appL x1 (epT x0.epoch)) 1 (by decide) (by omega), lss_no (show (0 : Int) ≤ 1 + (((appL x1 (epT x0.epoch)).length : Nat) : Int) by omega), eq_self_i]
    · rw [lt_remain hs1]; rfl
  · rw [lt_remain hs]; rfl

theorem lawFnExactEpochName (cs0 : List Value) (x0 : DAccessController) (cs1 : List Value) (x1 : (List ByteArray)) (w : World) (h0 : sAccessController.rd w cs0 x0) (h1 : strs.rd w cs1 x1) (htab : TabW w) :
    Calls Tryd.prog 4 #[.agg cs0.toArray, .agg cs1.toArray] w fun e w' => e = .returned (.bool true) ∧ Ext w w' := by
  have hh := h_s_laws_FnExactEpochName 0 x0 x1
  rw [p_lawFnExactEpochName x0 x1 (okSAccessController w cs0 x0 h0) ((OkS.sl _ OkS.str) w cs1 x1 h1)] at hh
  exact (((FT_ok w (XT_ok w htab) _ _ _ _ hh).1 (by decide)).2 w [.agg cs0.toArray, .agg cs1.toArray] (Ext.refl w) ⟨argRd_agg (encAccessController w cs0 x0 h0), argRd_agg ((Enc.sl 9 Enc.str (by decide)) w cs1 x1 h1), trivial⟩).mono fun e w' he => gave_at he
end Go.Proofs.YtfianjolmcoadaaDoor
