/- laws.FnExactNewSyncGroup returns true: out of its plain function. Printed by genlw.py. -/
import Derived.Test.YtfianjolmcoadaaDoorLw
import Derived.Test.YtfianjolmcoadaaDoorFp
import Derived.Test.YtfianjolmcoadaaDoorFh
import Derived.Test.YtfianjolmcoadaaDoorPn
namespace Go.Proofs.YtfianjolmcoadaaDoor
open Go.RowKit
set_option linter.unusedVariables false
set_option linter.unusedSimpArgs false
set_option maxRecDepth 100000

theorem cnt_mems (n : Nat) : cntL cMember (memsT n) ≤ n * 2 := by
  have h := cntL_le cMember 2 (memsT n) (fun x hx => by
    obtain ⟨i, _, rfl⟩ := List.mem_map.1 hx
    show 2 + 0 + 0 ≤ 2
    omega)
  rw [memsT_len] at h
  exact h
theorem mems_sz (n : Nat) (hn : n ≤ 6) : szL szMember (memsT n) ≤ 6 * 30 := by
  have : ∀ l : List DMember, (∀ x ∈ l, szMember x ≤ 29) → szL szMember l ≤ l.length * 30 := by
    intro l
    induction l with
    | nil => intro _; simp [szL]
    | cons x l ih =>
      intro h
      have h1 := h x (by simp)
      have h2 := ih fun y hy => h y (by simp [hy])
      simp only [szL, List.length_cons, Nat.succ_mul]
      omega
  have h := this (memsT n) (fun x hx => by
    obtain ⟨i, hi, rfl⟩ := List.mem_map.1 hx
    have hi' := List.mem_range.1 hi
    have hl := itoa_len (i : Int) (i64_nat (by omega))
    show ((1 + 1 + ((bs (Go.Lib.itoa (i : Int))).size + 1 + 0)) + 0) + 0 ≤ 29
    rw [bs_size]
    omega)
  rw [memsT_len] at h
  omega
theorem grp_sz (g : DTopology) (h : szTopology g ≤ 1048576) : szSyncGroup (grpT g) ≤ 1099511627776 ∧ (grpT g).members.length < 2 ^ 61 ∧ cntL cLink (grpT g).topology.links + cntL cMember (grpT g).members ≤ 1099511627775 := by
  have hz : szTopology g = g.links.length := szL_zero _
  unfold grpT
  split
  · rename_i hv
    have hs := validT_size hv
    have h1 := mems_sz g.size.toNat (by omega)
    have h2 := cnt_mems g.size.toNat
    have h3 := cntL_le cLink 2 g.links (fun x _ => Nat.le_refl _)
    refine ⟨?_, ?_, ?_⟩
    · show szTopology g + szL szMember (memsT g.size.toNat) ≤ _
      omega
    · show (memsT g.size.toNat).length < 2 ^ 61
      rw [memsT_len]
      omega
    · show cntL cLink g.links + cntL cMember (memsT g.size.toNat) ≤ _
      omega
  · exact ⟨by decide, by decide, by decide⟩
theorem p_lawFnExactNewSyncGroup (x0 : DTopology) (k0 : okTopology x0) : s_laws_FnExactNewSyncGroup x0 = some true := by
  unfold s_laws_FnExactNewSyncGroup
  rw [p_szTopology x0 1048576 k0 (by decide) (by decide), Option.bind_some, pl_lss]
  by_cases hs : ((szTopology x0 : Nat) : Int) ≤ 1048576
  · rw [not_lt_remain hs, cond_false]
    have hs' : szTopology x0 ≤ 1048576 := by omega
    have hz : szTopology x0 = x0.links.length := szL_zero _
    obtain ⟨h1, h2, h3⟩ := grp_sz x0 hs'
    have h4 := cntL_le cLink 2 x0.links (fun x _ => Nat.le_refl _)
    have e : (⟨(⟨(grpT x0).topology.size, (mtSyncGroup (grpT x0) 1).topology.links⟩ : DTopology), (mtSyncGroup (grpT x0) 1).members⟩ : DSyncGroup) = mtSyncGroup (grpT x0) 1 := rfl
    simp only [p_toTopology x0 hs', p_spec_NewSyncGroup x0 (by omega), p_impl_NewSyncGroup x0 (by omega), p_eqSyncGroup (grpT x0) h1, p_eqTopology x0 (by omega), Option.bind_some, pl_bnot, Bool.not_true, cond_false]
    simp only [p_markTopology x0 1 (by decide) (by omega), p_markSyncGroup (grpT x0) 1 (by decide) (by omega), Option.bind_some, lss_no (show (0 : Int) ≤ 1 + ((cntL cLink x0.links : Nat) : Int) by omega), cond_false, e, p_heldSyncGroup (grpT x0) 1 (by decide) (by omega) h2, lss_no (show (0 : Int) ≤ 1 + ((cntL cLink (grpT x0).topology.links + cntL cMember (grpT x0).members : Nat) : Int) by omega), eq_self_i]
  · rw [lt_remain hs]; rfl

theorem lawFnExactNewSyncGroup (cs0 : List Value) (x0 : DTopology) (w : World) (h0 : sTopology.rd w cs0 x0) (htab : TabW w) :
    Calls Tryd.prog 3 #[.agg cs0.toArray] w fun e w' => e = .returned (.bool true) ∧ Ext w w' := by
  have hh := h_s_laws_FnExactNewSyncGroup 0 x0
  rw [p_lawFnExactNewSyncGroup x0 (okSTopology w cs0 x0 h0)] at hh
  exact (((FT_ok w (XT_ok w htab) _ _ _ _ hh).1 (by decide)).2 w [.agg cs0.toArray] (Ext.refl w) ⟨argRd_agg (encTopology w cs0 x0 h0), trivial⟩).mono fun e w' he => gave_at he
end Go.Proofs.YtfianjolmcoadaaDoor
