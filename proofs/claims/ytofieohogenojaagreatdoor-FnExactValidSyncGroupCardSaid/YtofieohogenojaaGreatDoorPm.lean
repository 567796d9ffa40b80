/- Valid members and groups: both ways. -/
import Derived.Test.YtofieohogenojaaGreatDoorPs
namespace Go.Proofs.YtofieohogenojaaGreatDoor
open Go.RowKit
set_option linter.unusedVariables false
set_option linter.unusedSimpArgs false
noncomputable section
/-! members -/
theorem PubOk.take {l : List DPublication} (h : PubOk l) (i : Nat) : PubOk (l.take i) := ⟨by rw [List.length_take]; have := h.1; omega, fun x hx => h.2 x (List.mem_of_mem_take hx)⟩
theorem subI_take {α : Type} {l : List α} {i : Nat} (hi : i < l.length) : subI l none (some (i : Int)) = some (l.take i) := by
  have e : boundI (some (i : Int)) l.length = some i := by simp [boundI]
  have e0 : boundI none 0 = some 0 := rfl
  unfold subI
  rw [e, e0]
  simp only
  rw [if_pos ⟨by omega, by omega⟩]
  rfl
structure MemOk (m : DMember) : Prop where
  name : NameOk m.name
  vec : TabOk m.vector
  pub : PubOk m.publications
def badP (m : DMember) (i : Nat) (x : DPublication) : Bool := !decide (1 ≤ x.seq ∧ x.seq ≤ seqV m.vector x.publisher) || (decide (60 < (x.content.length : Int)) || decide (0 ≤ idxI (pubP x.publisher x.seq) (m.publications.take i)))
def vMem (m : DMember) : Bool := vName m.name && (!decide ((m.name.length : Int) = 0) && (vVec m.vector && (!decide (16 < (m.publications.length : Int)) && (decide ((m.publications.length : Int) = sumV 0 m.vector) && (match scan (badP m) (fun _ _ => false) 0 m.publications with | some b => b | none => true)))))
theorem p_spec_ValidMember (m : DMember) (h : MemOk m) : s_spec_ValidMember m = some (vMem m) := by
  unfold s_spec_ValidMember vMem
  have hl := h.pub.1
  rw [p_spec_ValidName _ h.name, p_spec_ValidVector _ h.vec, p_spec_VectorSum _ h.vec.1]
  rw [while_scan m.publications (badP m) (fun _ _ => false) .inr (.inl (m.publications.length : Int)) (by omega) (fun i hi => by
    have hlt : prims.cmp .lss (i : Int) (m.publications.length : Int) = true := decide_eq_true (by omega)
    simp only [s_spec_ValidMember_l1, hlt, nthI_at hi, cond_true, Option.bind_some, p_spec_SeqOf _ _ h.vec, p_l1In, pl_bnot, pl_gtr, pl_geq, pl_int, pl_len, subI_take hi, p_l28Find _ _ _ (h.pub.take i), badP]
    cases decide (1 ≤ m.publications[i].seq ∧ m.publications[i].seq ≤ seqV m.vector m.publications[i].publisher) <;> cases decide (60 < (m.publications[i].content.length : Int)) <;> cases decide (0 ≤ idxI (pubP m.publications[i].publisher m.publications[i].seq) (m.publications.take i)) <;> rfl) (by simp only [s_spec_ValidMember_l1, lt_end]; rfl)]
  simp only [Option.bind_some, pl_bnot, pl_eql, pl_neq, pl_gtr, pl_int, pl_len]
  cases vName m.name <;> cases decide ((m.name.length : Int) = 0) <;> cases vVec m.vector <;> cases decide (16 < (m.publications.length : Int)) <;> cases decide ((m.publications.length : Int) = sumV 0 m.vector) <;> first | rfl | skip
  cases scan (badP m) (fun _ _ => false) 0 m.publications <;> rfl
theorem p_impl_ValidMember (m : DMember) (h : MemOk m) : s_impl_ValidMember m = some (vMem m) := by
  unfold s_impl_ValidMember vMem
  have hl := h.pub.1
  have hf : ∀ b, scan (badP m) (fun _ _ => false) 0 m.publications = some b → b = false := by
    intro b hb
    obtain ⟨j, x, _, _, h3⟩ := scan_some _ _ _ _ _ hb
    exact h3
  rw [p_impl_ValidName _ h.name, p_impl_ValidVector _ h.vec, p_impl_VectorSum _ h.vec.1]
  rw [while_scan m.publications (badP m) (fun _ _ => false) .inr (.inl (m.publications.length : Int)) (by omega) (fun i hi => by
    have hlt : prims.cmp .lss (i : Int) (m.publications.length : Int) = true := decide_eq_true (by omega)
    simp only [s_impl_ValidMember_l1, hlt, nthI_at hi, cond_true, Option.bind_some, p_impl_SeqOf _ _ h.vec, p_InRange, pl_bnot, pl_gtr, pl_geq, pl_int, pl_len, subI_take hi, p_publishedAt _ _ _ (h.pub.take i), badP]
    cases decide (1 ≤ m.publications[i].seq ∧ m.publications[i].seq ≤ seqV m.vector m.publications[i].publisher) <;> cases decide (60 < (m.publications[i].content.length : Int)) <;> cases decide (0 ≤ idxI (pubP m.publications[i].publisher m.publications[i].seq) (m.publications.take i)) <;> rfl) (by simp only [s_impl_ValidMember_l1, lt_end]; rfl)]
  have es : decide (sumV 0 m.vector = (m.publications.length : Int)) = decide ((m.publications.length : Int) = sumV 0 m.vector) := decide_eq_decide.2 eq_comm
  simp only [Option.bind_some, pl_bnot, pl_eql, pl_neq, pl_gtr, pl_int, pl_len]
  cases hc : scan (badP m) (fun _ _ => false) 0 m.publications with
  | none =>
    simp only [Option.bind_some, es]
    cases vName m.name <;> cases decide ((m.name.length : Int) = 0) <;> cases vVec m.vector <;> cases decide (16 < (m.publications.length : Int)) <;> cases decide ((m.publications.length : Int) = sumV 0 m.vector) <;> rfl
  | some b =>
    rw [hf b hc]
    cases vName m.name <;> cases decide ((m.name.length : Int) = 0) <;> cases vVec m.vector <;> cases decide (16 < (m.publications.length : Int)) <;> cases decide ((m.publications.length : Int) = sumV 0 m.vector) <;> rfl
/-! groups -/
def mName (k : Int) : List ByteArray := [bs [109], bs (Go.Lib.itoa k)]
theorem p_l37Name (k : Int) (h : I64 k) : s_spec_l37Name k = some (mName k) := by
  unfold s_spec_l37Name
  simp only [p_spec_FormatInt k h, Option.bind_some]
  rfl
theorem p_memberName (k : Int) (h : I64 k) : s_impl_memberName k = some (mName k) := by
  unfold s_impl_memberName
  simp only [p_impl_FormatInt k h, Option.bind_some]
  rfl
structure GrpOk (g : DSyncGroup) : Prop where
  links : g.topology.links.length ≤ 2 ^ 40
  len : g.members.length ≤ 2 ^ 40
  mem : ∀ m ∈ g.members, MemOk m
def badM (i : Nat) (m : DMember) : Bool := !vMem m || !decide (m.name = mName i)
def vGrp (g : DSyncGroup) : Bool := validT g.topology && (decide ((g.members.length : Int) = g.topology.size) && (match scan badM (fun _ _ => false) 0 g.members with | some b => b | none => true))
theorem p_spec_ValidSyncGroup (g : DSyncGroup) (h : GrpOk g) : s_spec_ValidSyncGroup g = some (vGrp g) := by
  unfold s_spec_ValidSyncGroup vGrp
  have hl := h.len
  rw [p_spec_ValidTopology _ h.links]
  rw [while_scan g.members badM (fun _ _ => false) .inr (.inl (g.members.length : Int)) (by omega) (fun i hi => by
    have hm := h.mem _ (List.getElem_mem hi)
    simp only [s_spec_ValidSyncGroup_l1, lt_len _ hi, nthI_at hi, cond_true, Option.bind_some, p_spec_ValidMember _ hm, p_l37Name (i : Int) (i64_nat (by omega)), p_spec_EqualNames _ _ hm.name.1, pl_bnot, badM]
    cases vMem g.members[i] <;> cases decide (g.members[i].name = mName i) <;> rfl) (by simp only [s_spec_ValidSyncGroup_l1, lt_end]; rfl)]
  simp only [Option.bind_some, pl_bnot, pl_neq, pl_int, pl_len]
  cases validT g.topology <;> cases decide ((g.members.length : Int) = g.topology.size) <;> first | rfl | skip
  cases scan badM (fun _ _ => false) 0 g.members <;> rfl
theorem p_impl_ValidSyncGroup (g : DSyncGroup) (h : GrpOk g) : s_impl_ValidSyncGroup g = some (vGrp g) := by
  unfold s_impl_ValidSyncGroup vGrp
  have hl := h.len
  rw [p_impl_ValidTopology _ h.links]
  rw [while_scan g.members badM (fun _ _ => false) .inr (.inl (g.members.length : Int)) (by omega) (fun i hi => by
    have hm := h.mem _ (List.getElem_mem hi)
    simp only [s_impl_ValidSyncGroup_l1, lt_len _ hi, nthI_at hi, cond_true, Option.bind_some, p_impl_ValidMember _ hm, p_memberName (i : Int) (i64_nat (by omega)), p_impl_EqualNames _ _ hm.name.1, pl_bnot, badM]
    cases vMem g.members[i] <;> cases decide (g.members[i].name = mName i) <;> rfl) (by simp only [s_impl_ValidSyncGroup_l1, lt_end]; rfl)]
  simp only [Option.bind_some, pl_bnot, pl_neq, pl_int, pl_len]
  cases validT g.topology <;> cases decide ((g.members.length : Int) = g.topology.size) <;> first | rfl | skip
  cases scan badM (fun _ _ => false) 0 g.members <;> rfl
end
end Go.Proofs.YtofieohogenojaaGreatDoor
