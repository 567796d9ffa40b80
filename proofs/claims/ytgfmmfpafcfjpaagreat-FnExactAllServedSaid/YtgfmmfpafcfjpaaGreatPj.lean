import Derived.Test.YtgfmmfpafcfjpaaGreatPn
import Derived.Test.YtgfmmfpafcfjpaaGreatTd
namespace Go.Proofs.YtgfmmfpafcfjpaaGreat
open Go.RowKit
set_option linter.unusedVariables false
set_option linter.unusedSimpArgs false
noncomputable section
def bst (l : List DTableEntry) (n : List ByteArray) (i : Nat) (x : DTableEntry) (b : Int) : Int := if hasN n x.name then (match nthI l b with | some y => if y.name.length < x.name.length then (i : Int) else b | none => (i : Int)) else b
def lpx (l : List DTableEntry) (n : List ByteArray) : Int := gath (bst l n) 0 l (-1)
theorem bst_rng {l : List DTableEntry} {n : List ByteArray} {i : Nat} {x : DTableEntry} {b : Int} (h : -1 ≤ b ∧ b < (i : Int)) : -1 ≤ bst l n i x b ∧ bst l n i x b < ((i + 1 : Nat) : Int) := by
 unfold bst
 split
 ·split
  ·split <;> omega
  ·omega
 ·omega
theorem p_spec_LongestPrefix (l : List DTableEntry) (n : List ByteArray) (h : l.length ≤ 2 ^ 40) (hn : n.length ≤ 2 ^ 30) : sSLongestPrefix l n = some (lpx l n) := by
 have e : whileO (sSLongestPrefix_l1 l n) fuel (-1, 0) = some (lpx l n, (l.length : Int)) := by
  refine while_list0 (σ := Int) l (fun i b => (b, (i : Int))) (fun i rest b => (gath (bst l n) i rest b, (l.length : Int))) (fun i b => -1 ≤ b ∧ b < (i : Int)) (-1) (by unfold fuel; omega) ⟨by omega, by omega⟩ (fun b hb => ?_) (fun i x rest b hd hi hx hI => ?_)
  ·simp only [sSLongestPrefix_l1, lt_end]; rfl
  ·refine .inl ⟨bst l n i x b, ?_, bst_rng hI, rfl⟩
   simp only [sSLongestPrefix_l1, lt_len _ hi, cond_true, hx, Option.bind_some, p_spec_HasPrefix n x.name hn, pl_inc i l.length hi (by omega), bst, pl_lss, pl_gtr, pl_int, pl_len, decide_eq_true (show ((i : Nat) : Int) < (l.length : Int) by omega)]
   cases hasN n x.name
   ·rfl
   ·by_cases hb : b < 0
    ·simp only [decide_eq_true hb, cond_true, nthI_neg l b hb, if_true]
    ·obtain ⟨k, rfl⟩ : ∃ k : Nat, b = k := ⟨b.toNat, by omega⟩
     have hk : k < l.length := by omega
     simp only [decide_eq_false hb, cond_false, nthI_at hk, Option.bind_some, if_true, cond_true]
     by_cases hc : l[k].name.length < x.name.length
     ·rw [if_pos hc, decide_eq_true (show (l[k].name.length : Int) < (x.name.length : Int) by omega)]; rfl
     ·rw [if_neg hc, decide_eq_false (show ¬ (l[k].name.length : Int) < (x.name.length : Int) by omega)]; rfl
 unfold sSLongestPrefix
 rw [e]; rfl
def prodOf (w : DNetwork) (n : List ByteArray) : Int := match nthI w.producers (lpx w.producers n) with
 | some e => e.value
 | none => -1
theorem gath_rng (l : List DTableEntry) (n : List ByteArray) : ∀ (r : List DTableEntry) (i : Nat) (b : Int), -1 ≤ b ∧ b < (i : Int) → -1 ≤ gath (bst l n) i r b ∧ gath (bst l n) i r b < ((i + r.length : Nat) : Int)
 | [], i, b, h => h
 | x :: r, i, b, h => by
  have := gath_rng l n r (i + 1) _ (bst_rng (l := l) (n := n) (x := x) h)
  rw [List.length_cons, show i + (r.length + 1) = i + 1 + r.length by omega]
  exact this
theorem lpx_rng (l : List DTableEntry) (n : List ByteArray) : -1 ≤ lpx l n ∧ lpx l n < (l.length : Int) := by
 have := gath_rng l n l 0 (-1) ⟨by omega, by omega⟩
 rw [Nat.zero_add] at this
 exact this
theorem p_spec_ProducerOf (w : DNetwork) (n : List ByteArray) (h : w.producers.length ≤ 2 ^ 40) (hn : n.length ≤ 2 ^ 30) : sSProducerOf w n = some (prodOf w n) := by
 unfold sSProducerOf prodOf
 rw [p_spec_LongestPrefix _ _ h hn, Option.bind_some, pl_lss]
 have hr := lpx_rng w.producers n
 by_cases hb : lpx w.producers n < 0
 ·rw [decide_eq_true hb, cond_true, nthI_neg _ _ hb]
 ·obtain ⟨k, hk⟩ : ∃ k : Nat, lpx w.producers n = k := ⟨(lpx w.producers n).toNat, by omega⟩
  rw [decide_eq_false hb, cond_false, hk, nthI_at (show k < w.producers.length by omega)]
  rfl
def isUp (w : DNetwork) (k : Int) : Bool := decide (0 ≤ k ∧ k ≤ (w.nodes.length : Int) - 1) && !Tp.inSet w.downNodes k
theorem p_spec_IsUp (w : DNetwork) (k : Int) (h : w.nodes.length ≤ 2 ^ 40) : sSIsUp w k = some (isUp w k) := by
 unfold sSIsUp isUp
 simp only [p_l1In, Option.bind_some, pl_int, pl_len, pl_sub (w.nodes.length : Int) 1 (by omega) (by omega), Tp.p_l19In, pl_bnot]
 cases decide (0 ≤ k ∧ k ≤ (w.nodes.length : Int) - 1) <;> rfl
def datP (n : List ByteArray) (x : DData) : Bool := decide (x.name = n)
theorem p_spec_l16Find (l : List DData) (n : List ByteArray) (h : l.length ≤ 2 ^ 40) (hx : ∀ x ∈ l, x.name.length ≤ 2 ^ 40) : sSl16Find l n = some (idxI (datP n) l) := by
 unfold sSl16Find
 rw [while_scan l (fun _ x => datP n x) (fun i _ => (i : Int)) .inr (.inl (l.length : Int)) (by omega) (fun i hi => by
  simp only [sSl16Find_l1, lt_len _ hi, nthI_at hi, cond_true, Option.bind_some, p_spec_EqualNames _ _ (hx _ (List.getElem_mem hi)), datP]) (by simp only [sSl16Find_l1, lt_end]; rfl)]
 unfold idxI
 cases scan (fun _ (x : DData) => datP n x) (fun i _ => (i : Int)) 0 l <;> rfl
end
end Go.Proofs.YtgfmmfpafcfjpaaGreat
namespace Go.Proofs.YtgfmmfpafcfjpaaGreat
open Go.RowKit
set_option linter.unusedVariables false
set_option linter.unusedSimpArgs false
noncomputable section
def keyD (l : List DKey) (n : List ByteArray) : List UInt8 := if secOf l n = 0 then [] else varint (dig [secOf l n]).toNat
theorem p_spec_KeyDigest (l : List DKey) (n : List ByteArray) (h : KeysOk l) : sSKeyDigest l n = some (keyD l n) := by
 have hr := dig_rng [secOf l n]
 have hv := p_spec_AppendVarint [] (dig [secOf l n]).toNat (by omega) (by simp)
 rw [Int.toNat_of_nonneg hr.1, List.nil_append] at hv
 unfold sSKeyDigest keyD
 simp only [p_spec_SecretOf l n h, Option.bind_some, pl_eql, p_spec_Digest [secOf l n] (by simp), hv]
 by_cases h0 : secOf l n = 0
 ·rw [decide_eq_true h0, if_pos h0]; rfl
 ·rw [decide_eq_false h0, if_neg h0]; rfl
theorem p_impl_KeyDigest (l : List DKey) (n : List ByteArray) (h : KeysOk l) : sIKeyDigest l n = some (keyD l n) := by
 have hr := dig_rng [secOf l n]
 have hv := p_impl_AppendVarint [] (dig [secOf l n]).toNat (by omega) (by simp)
 rw [Int.toNat_of_nonneg hr.1, List.nil_append] at hv
 unfold sIKeyDigest keyD
 simp only [p_impl_SecretOf l n h, Option.bind_some, pl_eql, p_impl_Digest [secOf l n] (by simp), hv]
 by_cases h0 : secOf l n = 0
 ·rw [decide_eq_true h0, if_pos h0]; rfl
 ·rw [decide_eq_false h0, if_neg h0]; rfl
def CertOk (t : DTrustPolicy) : Prop := TrustOk t ∧ (t.anchors.length ≤ 2 ^ 40 ∧ ∀ a ∈ t.anchors, a.length ≤ 2 ^ 40) ∧ t.certificates.length ≤ 2 ^ 40 ∧ ∀ x ∈ t.certificates, DatOk x
def certP (t : DTrustPolicy) (n : List ByteArray) (now : Int) (x : DData) : Bool := decide (x.name = n) && (decide (now ≤ x.freshUntil) && (verP t.keys x && decide (x.content = keyD t.keys n)))
def fcert (t : DTrustPolicy) (n : List ByteArray) (now : Int) : Int := if secOf t.keys n = 0 then -1 else idxI (certP t n now) t.certificates
theorem p_spec_FreshAt (x : DData) (now : Int) : sSFreshAt x now = some (decide (now ≤ x.freshUntil)) := by
 unfold sSFreshAt
 rw [pl_leq]
theorem p_impl_FreshAt (x : DData) (now : Int) : sIFreshAt x now = some (decide (now ≤ x.freshUntil)) := by
 unfold sIFreshAt
 rw [pl_leq]
theorem p_spec_FindCertificate (t : DTrustPolicy) (n : List ByteArray) (now : Int) (h : CertOk t) : sSFindCertificate t n now = some (fcert t n now) := by
 obtain ⟨⟨hk, _⟩, _, hc, hd⟩ := h
 unfold sSFindCertificate fcert
 rw [p_spec_SecretOf _ _ hk, Option.bind_some, pl_eql]
 by_cases h0 : secOf t.keys n = 0
 ·rw [decide_eq_true h0, if_pos h0]; rfl
 ·rw [decide_eq_false h0, if_neg h0, cond_false]
  rw [while_scan t.certificates (fun _ x => certP t n now x) (fun i _ => (i : Int)) .inr (.inl (t.certificates.length : Int)) (by omega) (fun i hi => by
   have hx := hd _ (List.getElem_mem hi)
   simp only [sSFindCertificate_l1, lt_len _ hi, nthI_at hi, cond_true, Option.bind_some, p_spec_EqualNames _ _ hx.1.1, p_spec_FreshAt, p_spec_VerifySignature _ _ hk hx, p_spec_KeyDigest _ _ hk, p_EqualBytes, certP]
   cases decide (t.certificates[i].name = n) <;> cases decide (now ≤ t.certificates[i].freshUntil) <;> cases verP t.keys t.certificates[i] <;> cases decide (t.certificates[i].content = keyD t.keys n) <;> rfl) (by simp only [sSFindCertificate_l1, lt_end]; rfl)]
  unfold idxI
  cases scan (fun _ (x : DData) => certP t n now x) (fun i _ => (i : Int)) 0 t.certificates <;> rfl
theorem p_impl_FindCertificate (t : DTrustPolicy) (n : List ByteArray) (now : Int) (h : CertOk t) : sIFindCertificate t n now = some (fcert t n now) := by
 obtain ⟨⟨hk, _⟩, _, hc, hd⟩ := h
 unfold sIFindCertificate sCIndexFunc_Data__FindCertificate_1 fcert
 rw [p_impl_SecretOf _ _ hk, Option.bind_some, pl_eql]
 by_cases h0 : secOf t.keys n = 0
 ·rw [decide_eq_true h0, if_pos h0]; rfl
 ·rw [decide_eq_false h0, if_neg h0, cond_false]
  rw [while_scan t.certificates (fun _ x => certP t n now x) (fun i _ => (i : Int)) .inr (.inl (t.certificates.length : Int)) (by omega) (fun i hi => by
   have hx := hd _ (List.getElem_mem hi)
   simp only [sCIndexFunc_Data__FindCertificate_1_l1, sIFindCertificate_1, lt_len _ hi, nthI_at hi, cond_true, Option.bind_some, p_impl_EqualNames _ _ hx.1.1, p_impl_FreshAt, p_impl_VerifySignature _ _ hk hx, p_impl_KeyDigest _ _ hk, p_Equal_byte _ _ (show t.certificates[i].content.length ≤ 2 ^ 40 from Nat.le_trans hx.2.2 (by decide)), certP]
   cases decide (t.certificates[i].name = n) <;> cases decide (now ≤ t.certificates[i].freshUntil) <;> cases verP t.keys t.certificates[i] <;> cases decide (t.certificates[i].content = keyD t.keys n) <;> rfl) (by simp only [sCIndexFunc_Data__FindCertificate_1_l1, lt_end]; rfl)]
  unfold idxI
  cases scan (fun _ (x : DData) => certP t n now x) (fun i _ => (i : Int)) 0 t.certificates <;> rfl
def anchP (t : DTrustPolicy) (n : List ByteArray) : Bool := t.anchors.any fun a => decide (a = n)
theorem p_spec_IsAnchor (t : DTrustPolicy) (n : List ByteArray) (h : CertOk t) : sSIsAnchor t n = some (anchP t n) := by
 obtain ⟨_, ⟨hc, hd⟩, _⟩ := h
 unfold sSIsAnchor anchP
 rw [while_scan t.anchors (fun _ x => decide (x = n)) (fun _ _ => true) .inr (.inl (t.anchors.length : Int)) (by omega) (fun i hi => by
  simp only [sSIsAnchor_l1, lt_len _ hi, nthI_at hi, cond_true, Option.bind_some, p_spec_EqualNames _ _ (hd _ (List.getElem_mem hi))]) (by simp only [sSIsAnchor_l1, lt_end]; rfl), scan_const]
 cases t.anchors.any fun a => decide (a = n) <;> rfl
theorem p_impl_IsAnchor (t : DTrustPolicy) (n : List ByteArray) (h : CertOk t) : sIIsAnchor t n = some (anchP t n) := by
 obtain ⟨_, ⟨hc, hd⟩, _⟩ := h
 unfold sIIsAnchor sCContainsFunc_Name__IsAnchor_1 sCIndexFunc_Name__IsAnchor_1 anchP
 rw [while_scan t.anchors (fun _ x => decide (x = n)) (fun i _ => (i : Int)) .inr (.inl (t.anchors.length : Int)) (by omega) (fun i hi => by
  simp only [sCIndexFunc_Name__IsAnchor_1_l1, sIIsAnchor_1, lt_len _ hi, nthI_at hi, cond_true, Option.bind_some, p_impl_EqualNames _ _ (hd _ (List.getElem_mem hi))]) (by simp only [sCIndexFunc_Name__IsAnchor_1_l1, lt_end]; rfl)]
 have e := idxI_nonneg (fun a => decide (a = n)) t.anchors
 unfold idxI at e
 rw [← e]
 cases scan (fun _ (y : List ByteArray) => decide (y = n)) (fun i _ => (i : Int)) 0 t.anchors <;> rfl
def chain (t : DTrustPolicy) (now : Int) : Nat → DData → Bool
 | 0, _ => false
 | k + 1, x => authP t x && (anchP t x.keyName || match nthI t.certificates (fcert t x.keyName now) with
  | some y => chain t now k y
  | none => false)
end
end Go.Proofs.YtgfmmfpafcfjpaaGreat
namespace Go.Proofs.YtgfmmfpafcfjpaaGreat
open Go.RowKit
set_option linter.unusedVariables false
set_option linter.unusedSimpArgs false
noncomputable section
theorem p_impl_LongestPrefix (l : List DTableEntry) (n : List ByteArray) (h : l.length ≤ 2 ^ 40) (hn : n.length ≤ 2 ^ 30) : sILongestPrefix l n = some (lpx l n) := by
 have e : sILongestPrefix_l1 l n = sSLongestPrefix_l1 l n := by
  funext ⟨a, b⟩
  simp only [sILongestPrefix_l1, sSLongestPrefix_l1, p_impl_HasPrefix n _ hn, p_spec_HasPrefix n _ hn]
 rw [← p_spec_LongestPrefix l n h hn]
 unfold sILongestPrefix sSLongestPrefix
 rw [e]
theorem p_impl_ProducerOf (w : DNetwork) (n : List ByteArray) (h : w.producers.length ≤ 2 ^ 40) (hn : n.length ≤ 2 ^ 30) : sIProducerOf w n = some (prodOf w n) := by
 have := p_spec_ProducerOf w n h hn
 unfold sSProducerOf at this
 rw [p_spec_LongestPrefix _ _ h hn] at this
 unfold sIProducerOf
 rw [p_impl_LongestPrefix _ _ h hn]
 exact this
theorem p_impl_IsUp (w : DNetwork) (k : Int) (h : w.nodes.length ≤ 2 ^ 40) : sIIsUp w k = some (isUp w k) := by
 unfold sIIsUp isUp
 simp only [p_InRange, Option.bind_some, pl_int, pl_len, pl_sub (w.nodes.length : Int) 1 (by omega) (by omega), Tp.p_inSet, pl_bnot]
 cases decide (0 ≤ k ∧ k ≤ (w.nodes.length : Int) - 1) <;> rfl
theorem p_impl_localAt (l : List DData) (n : List ByteArray) (h : l.length ≤ 2 ^ 40) (hx : ∀ x ∈ l, x.name.length ≤ 2 ^ 40) : sIlocalAt l n = some (idxI (datP n) l) := by
 unfold sIlocalAt sCIndexFunc_Data__localAt_1
 rw [while_scan l (fun _ x => datP n x) (fun i _ => (i : Int)) .inr (.inl (l.length : Int)) (by omega) (fun i hi => by
  simp only [sCIndexFunc_Data__localAt_1_l1, sIlocalAt_1, lt_len _ hi, nthI_at hi, cond_true, Option.bind_some, p_impl_EqualNames _ _ (hx _ (List.getElem_mem hi)), datP]) (by simp only [sCIndexFunc_Data__localAt_1_l1, lt_end]; rfl)]
 unfold idxI
 cases scan (fun _ (x : DData) => datP n x) (fun i _ => (i : Int)) 0 l <;> rfl
def fP (a : Int) (_ : Nat) (e : DTableEntry) (acc : List (List ByteArray)) : List (List ByteArray) := if e.value = a ∧ acc.length < 4 then acc ++ [e.name] else acc
def pfx (l : List DTableEntry) (a : Int) : List (List ByteArray) := gath (fP a) 0 l []
theorem fP_full (a : Int) : ∀ (l : List DTableEntry) (i : Nat) (acc : List (List ByteArray)), ¬ acc.length < 4 → gath (fP a) i l acc = acc
 | [], i, acc, h => rfl
 | x :: l, i, acc, h => by
  show gath (fP a) (i + 1) l (fP a i x acc) = acc
  rw [show fP a i x acc = acc from if_neg (fun q => h q.2)]
  exact fP_full a l (i + 1) acc h
theorem fP_len (a : Int) (i : Nat) (x : DTableEntry) (acc : List (List ByteArray)) (h : acc.length ≤ 4) : (fP a i x acc).length ≤ 4 := by
 unfold fP
 split
 ·rename_i q; simp; omega
 ·exact h
theorem fit24 (acc : List (List ByteArray)) (y : List ByteArray) (h : acc.length ≤ 4) : prims.fits (prims.len (List.map eName acc)) (prims.rlen (prims.opn (List.map eName [y]))) 24 = true := by
 rw [pl_len, pl_rlen, pl_fits]
 exact decide_eq_true (by simp; omega)
theorem drop_at {α : Type} {l : List α} {i : Nat} (h : i < l.length) : l.drop i = l[i] :: l.drop (i + 1) := List.drop_eq_getElem_cons h
def out2 {α : Type} (g : (Int × α) ⊕ (Int × α)) : α := match g with
 | .inl x => x.2
 | .inr x => x.2
theorem spec_pfx (l : List DTableEntry) (a : Int) (hl : l.length ≤ 2 ^ 40) (hx : ∀ e ∈ l, e.name.length ≤ 2 ^ 30) : ∃ g, whileO (sSAdvertisementsOf_l2 l a) fuel (0, []) = some g ∧ out2 g = pfx l a := by
 refine while_inv (fun s => ∃ i : Nat, s.1 = (i : Int) ∧ i ≤ l.length ∧ s.2.length ≤ 4 ∧ gath (fP a) i (l.drop i) s.2 = pfx l a) (fun s => l.length - s.1.toNat) (fun g => out2 g = pfx l a) ?_ fuel (0, []) ⟨0, rfl, by omega, by simp, rfl⟩ (by unfold fuel; omega)
 rintro ⟨j, acc⟩ ⟨i, hj, hi, h4, hg⟩
 dsimp only at hj h4 hg
 subst hj
 by_cases he : i = l.length
 ·subst he
  rw [List.drop_length] at hg
  exact .inr ⟨.inr ((l.length : Int), acc), by simp only [sSAdvertisementsOf_l2, lt_end, cond_false], hg⟩
 ·have hlt : i < l.length := by omega
  rw [drop_at hlt] at hg
  by_cases hc : acc.length < 4
  ·refine .inl ⟨(((i + 1 : Nat) : Int), fP a i l[i] acc), ?_, ⟨i + 1, rfl, by omega, fP_len a i _ acc h4, hg⟩, by dsimp only; omega⟩
   simp only [sSAdvertisementsOf_l2, lt_len _ hlt, cond_true, nthI_at hlt, Option.bind_some, pl_lss, pl_int, pl_len, decide_eq_true (show ((acc.length : Nat) : Int) < 4 by omega), pl_eql, p_l4Copy _ (hx _ (List.getElem_mem hlt)), pl_inc i l.length hlt (by omega), decide_eq_true (show ((i : Nat) : Int) < (l.length : Int) by omega)]
   unfold fP
   by_cases hv : l[i].value = a
   ·have hf := fit24 acc l[i].name h4
    rw [pl_len] at hf
    rw [decide_eq_true hv, if_pos ⟨hv, hc⟩, cond_true, hf, cond_true]
   ·rw [decide_eq_false hv, if_neg (fun q => hv q.1), cond_false]
  ·refine .inr ⟨.inl ((i : Int), acc), ?_, ?_⟩
   ·simp only [sSAdvertisementsOf_l2, cond_true, pl_lss, pl_int, pl_len, decide_eq_true (show ((i : Nat) : Int) < (l.length : Int) by omega), decide_eq_false (show ¬ ((acc.length : Nat) : Int) < 4 by omega), cond_false]
   ·rw [← drop_at hlt, fP_full a _ _ _ hc] at hg
    exact hg
theorem impl_pfx (l : List DTableEntry) (a : Int) (hl : l.length ≤ 2 ^ 40) (hx : ∀ e ∈ l, e.name.length ≤ 2 ^ 30) : whileO (sIAdvertisementsOf_l2 l a) fuel (0, []) = some ((l.length : Int), pfx l a) := by
 refine while_gath l (fP a) (fun s => ((l.length : Int), s)) (fun i acc => acc.length ≤ 4) [] (by omega) (by simp) (fun i acc hi hI => ⟨?_, fP_len a i _ acc hI⟩) (fun acc hI => by simp only [sIAdvertisementsOf_l2, lt_end, cond_false])
 simp only [sIAdvertisementsOf_l2, lt_len _ hi, cond_true, nthI_at hi, Option.bind_some, pl_lss, pl_int, pl_len, pl_eql, p_copyName _ (hx _ (List.getElem_mem hi)), decide_eq_true (show ((i : Nat) : Int) < (l.length : Int) by omega)]
 have hf := fit24 acc l[i].name hI
 rw [pl_len] at hf
 unfold fP
 by_cases hv : l[i].value = a
 ·by_cases hc : acc.length < 4
  ·rw [decide_eq_true hv, decide_eq_true (show ((acc.length : Nat) : Int) < 4 by omega), if_pos ⟨hv, hc⟩, cond_true, cond_true, hf, cond_true]
  ·rw [decide_eq_true hv, decide_eq_false (show ¬ ((acc.length : Nat) : Int) < 4 by omega), if_neg (fun q => hc q.2), cond_true, cond_false]
 ·rw [decide_eq_false hv, if_neg (fun q => hv q.1), cond_false]
def adv (t : DTopology) (l : List DTableEntry) (i : Nat) : DAdvertisement := ⟨(i : Int), 1, Tp.nbrs t (i : Int), pfx l (i : Int)⟩
def advs (t : DTopology) (l : List DTableEntry) : List DAdvertisement := if Tp.validT t then gath (fun i _ acc => acc ++ [adv t l i]) 0 (List.range t.size.toNat) [] else []
theorem fit64 (acc : List DAdvertisement) (y : DAdvertisement) (h : acc.length ≤ 6) : prims.fits (prims.len (List.map eAdvertisement acc)) (prims.rlen (prims.opn (List.map eAdvertisement [y]))) 64 = true := by
 rw [pl_len, pl_rlen, pl_fits]
 exact decide_eq_true (by simp; omega)
theorem p_spec_AdvertisementsOf (t : DTopology) (l : List DTableEntry) (h : t.links.length ≤ 2 ^ 40) (hl : l.length ≤ 2 ^ 40) (hx : ∀ e ∈ l, e.name.length ≤ 2 ^ 30) : sSAdvertisementsOf t l 1 = some (advs t l) := by
 unfold sSAdvertisementsOf advs
 rw [Tp.p_spec_ValidTopology t h, Option.bind_some, pl_bnot]
 cases hv : Tp.validT t
 ·rfl
 ·have hs := Tp.validT_size hv
  simp only [Bool.not_true, cond_false, p_l1In, Option.bind_some, pl_bnot, decide_eq_true (show (1 : Int) ≤ 1 ∧ (1 : Int) ≤ 1000 by omega), if_true]
  rw [while_gath (List.range t.size.toNat) (fun i _ acc => acc ++ [adv t l i]) (fun s => (((t.size.toNat : Nat) : Int), s)) (fun i acc => acc.length ≤ i) [] (by simp; omega) (Nat.le_refl _) (fun i acc hi hI => ?_) (fun acc hI => ?_)]
  ·rfl
  ·simp only [List.length_range] at hi
   have h1 : (i : Int) < t.size := by omega
   obtain ⟨g, hg, hp⟩ := spec_pfx l (i : Int) hl hx
   have hf := fit64 acc (adv t l i) (by omega)
   refine ⟨?_, by simp; omega⟩
   simp only [sSAdvertisementsOf_l1, pl_lss, decide_eq_true h1, cond_true, Tp.p_spec_NeighborsOf t _ h, Option.bind_some, hg]
   cases g with
   | inl x =>
    obtain ⟨x1, x2⟩ := x
    dsimp only at hp ⊢
    subst hp
    unfold adv at hf
    rw [hf]; rfl
   | inr x =>
    obtain ⟨x1, x2⟩ := x
    dsimp only at hp ⊢
    subst hp
    unfold adv at hf
    rw [hf]; rfl
  ·have h1 : ¬ ((t.size.toNat : Nat) : Int) < t.size := by omega
   simp only [List.length_range, sSAdvertisementsOf_l1, pl_lss, decide_eq_false h1, cond_false]
theorem p_impl_AdvertisementsOf (t : DTopology) (l : List DTableEntry) (h : t.links.length ≤ 2 ^ 40) (hl : l.length ≤ 2 ^ 40) (hx : ∀ e ∈ l, e.name.length ≤ 2 ^ 30) : sIAdvertisementsOf t l 1 = some (advs t l) := by
 unfold sIAdvertisementsOf advs
 rw [Tp.p_impl_ValidTopology t h, Option.bind_some, pl_bnot]
 cases hv : Tp.validT t
 ·rfl
 ·have hs := Tp.validT_size hv
  simp only [Bool.not_true, cond_false, p_InRange, Option.bind_some, pl_bnot, decide_eq_true (show (1 : Int) ≤ 1 ∧ (1 : Int) ≤ 1000 by omega), if_true]
  rw [while_gath (List.range t.size.toNat) (fun i _ acc => acc ++ [adv t l i]) (fun s => (((t.size.toNat : Nat) : Int), s)) (fun i acc => acc.length ≤ i) [] (by simp; omega) (Nat.le_refl _) (fun i acc hi hI => ?_) (fun acc hI => ?_)]
  ·rfl
  ·simp only [List.length_range] at hi
   have h1 : (i : Int) < t.size := by omega
   have hf := fit64 acc (adv t l i) (by omega)
   refine ⟨?_, by simp; omega⟩
   simp only [sIAdvertisementsOf_l1, pl_lss, decide_eq_true h1, cond_true, Tp.p_impl_NeighborsOf t _ h, Option.bind_some, impl_pfx l (i : Int) hl hx]
   unfold adv at hf
   rw [hf]; rfl
  ·have h1 : ¬ ((t.size.toNat : Nat) : Int) < t.size := by omega
   simp only [List.length_range, sIAdvertisementsOf_l1, pl_lss, decide_eq_false h1, cond_false]
theorem advs_ok (t : DTopology) (l : List DTableEntry) : Tp.AdvOk (advs t l) := by
 unfold advs
 split
 ·rename_i hv
  have hs := Tp.validT_size hv
  have : ∀ (r : List Nat) (i : Nat) (acc : List DAdvertisement), (∀ x ∈ acc, x.neighbors.length < 2 ^ 61) → acc.length + r.length ≤ 6 → Tp.AdvOk (gath (fun i _ acc => acc ++ [adv t l i]) i r acc) := by
   intro r
   induction r with
   | nil => intro i acc h h'; exact ⟨by simp only [gath]; simp at h'; omega, h⟩
   | cons y r ih =>
    intro i acc h h'
    simp only [gath]
    refine ih _ _ (fun x hx => ?_) (by simp at h' ⊢; omega)
    rcases List.mem_append.1 hx with h1 | h1
    ·exact h x h1
    ·rw [List.mem_singleton] at h1
     subst h1
     have := Tp.nbrs_len t (i : Int)
     show (Tp.nbrs t (i : Int)).length < 2 ^ 61
     omega
  exact this _ 0 [] (fun x hx => nomatch hx) (by simp; omega)
 ·exact ⟨by simp, fun x hx => nomatch hx⟩
end
end Go.Proofs.YtgfmmfpafcfjpaaGreat
namespace Go.Proofs.YtgfmmfpafcfjpaaGreat
open Go.RowKit
set_option linter.unusedVariables false
set_option linter.unusedSimpArgs false
noncomputable section
def Dat2 (x : DData) : Prop := DatOk x ∧ x.keyName.length ≤ 2 ^ 30
def Crt2 (t : DTrustPolicy) : Prop := CertOk t ∧ ∀ x ∈ t.certificates, Dat2 x
theorem fcert_at (t : DTrustPolicy) (n : List ByteArray) (now : Int) : fcert t n now < 0 ∧ nthI t.certificates (fcert t n now) = none ∨ ¬ fcert t n now < 0 ∧ ∃ y, nthI t.certificates (fcert t n now) = some y ∧ y ∈ t.certificates := by
 unfold fcert
 split
 ·exact .inl ⟨by decide, nthI_neg _ _ (by decide)⟩
 ·rcases idxI_cases (certP t n now) t.certificates with ⟨h1, _⟩ | ⟨j, x, h1, h2, _⟩
  ·rw [h1]; exact .inl ⟨by decide, nthI_neg _ _ (by decide)⟩
  ·rw [h1]; exact .inr ⟨by omega, x, by rw [nthI_nat]; exact h2, List.mem_of_getElem? h2⟩
theorem fitC (acc : List (List ByteArray)) (y : List ByteArray) (h : acc.length ≤ 4) : prims.fits acc.length (prims.rlen (prims.opn (List.map eName [y]))) 24 = true := by
 have := fit24 acc y h
 rw [pl_len] at this
 exact this
theorem p_spec_TrustChain (t : DTrustPolicy) (x : DData) (now : Int) (h : Crt2 t) (hx : Dat2 x) : ∃ c, sSTrustChain t x now = some (c, chain t now 4 x) := by
 obtain ⟨g, hg, hq⟩ := while_inv (step := sSTrustChain_l1 t now) (fun s => s.2.2.2.2.2.length ≤ 4 ∧ Dat2 ⟨s.1, s.2.1, s.2.2.1, s.2.2.2.1, s.2.2.2.2.1⟩ ∧ chain t now (4 - s.2.2.2.2.2.length) ⟨s.1, s.2.1, s.2.2.1, s.2.2.2.1, s.2.2.2.2.1⟩ = chain t now 4 x) (fun s => 4 - s.2.2.2.2.2.length) (fun g => (match g with | .inl _ => false | .inr r => r.2) = chain t now 4 x) (by
  rintro ⟨v1, v2, v3, v4, v5, v6⟩ ⟨h4, hd, hc⟩
  dsimp only at h4 hd hc ⊢
  by_cases h5 : v6.length < 4
  ·obtain ⟨k, hk⟩ : ∃ k, 4 - v6.length = k + 1 := ⟨3 - v6.length, by omega⟩
   rw [hk] at hc
   have hk' : 4 - (v6 ++ [v3]).length = k := by simp; omega
   simp only [chain, authP] at hc
   simp only [sSTrustChain_l1, pl_lss, pl_int, pl_len, decide_eq_true (show ((v6.length : Nat) : Int) < 4 by omega), cond_true, p_spec_VerifySignature _ _ h.1.1.1 hd.1, p_spec_Allowed _ _ _ h.1.1.2 hd.1.1 hd.1.2.1, Option.bind_some, pl_bnot, p_l4Copy _ hd.2, fitC v6 v3 h4, p_spec_IsAnchor _ _ h.1, p_spec_FindCertificate _ _ _ h.1]
   cases h1 : verP t.keys ⟨v1, v2, v3, v4, v5⟩
   ·rw [h1] at hc
    exact .inr ⟨_, rfl, hc⟩
   ·cases h2 : allowP t.rules v1 v3
    ·rw [h1, h2] at hc
     exact .inr ⟨_, rfl, hc⟩
    ·rw [h1, h2] at hc
     simp only [Bool.and_self, Bool.true_and, Bool.not_true, cond_false] at hc ⊢
     cases h3 : anchP t v3
     ·rw [h3] at hc
      simp only [Bool.false_or, cond_false] at hc ⊢
      rcases fcert_at t v3 now with ⟨a1, a2⟩ | ⟨a1, y, a2, a3⟩
      ·rw [a2] at hc
       rw [decide_eq_true a1]
       exact .inr ⟨_, rfl, hc⟩
      ·rw [a2] at hc
       rw [decide_eq_false a1, a2]
       refine .inl ⟨_, rfl, ⟨by simp; omega, h.2 y a3, ?_⟩, by simp; omega⟩
       dsimp only
       rw [hk']
       exact hc
     ·rw [h3] at hc
      exact .inr ⟨_, rfl, hc⟩
  ·have h6 : 4 - v6.length = 0 := by omega
   rw [h6] at hc
   exact .inr ⟨.inl (v1, v2, v3, v4, v5, v6), by simp only [sSTrustChain_l1, pl_lss, pl_int, pl_len, decide_eq_false (show ¬ ((v6.length : Nat) : Int) < 4 by omega), cond_false], hc⟩) fuel (x.name, x.content, x.keyName, x.freshUntil, x.signature, []) ⟨by simp, hx, rfl⟩ (by unfold fuel; simp)
 unfold sSTrustChain
 rw [hg]
 cases g with
 | inl w =>
  obtain ⟨w1, w2, w3, w4, w5, w6⟩ := w
  exact ⟨[], by rw [← hq]; rfl⟩
 | inr r =>
  obtain ⟨r1, r2⟩ := r
  exact ⟨r1, by rw [← hq]; rfl⟩
theorem p_impl_TrustChain (t : DTrustPolicy) (x : DData) (now : Int) (h : Crt2 t) (hx : Dat2 x) : ∃ c, sITrustChain t x now = some (c, chain t now 4 x) := by
 obtain ⟨g, hg, hq⟩ := while_inv (step := sITrustChain_l1 t now) (fun s => s.2.2.2.2.2.length ≤ 4 ∧ Dat2 ⟨s.1, s.2.1, s.2.2.1, s.2.2.2.1, s.2.2.2.2.1⟩ ∧ chain t now (4 - s.2.2.2.2.2.length) ⟨s.1, s.2.1, s.2.2.1, s.2.2.2.1, s.2.2.2.2.1⟩ = chain t now 4 x) (fun s => 4 - s.2.2.2.2.2.length) (fun g => g.2 = chain t now 4 x) (by
  rintro ⟨v1, v2, v3, v4, v5, v6⟩ ⟨h4, hd, hc⟩
  dsimp only at h4 hd hc ⊢
  simp only [sITrustChain_l1, pl_lss, pl_int, pl_len, pl_eql, p_impl_VerifySignature _ _ h.1.1.1 hd.1, p_impl_Allowed _ _ _ h.1.1.2 hd.1.1 hd.1.2.1, Option.bind_some, pl_bnot, p_copyName _ hd.2, fitC v6 v3 h4, p_impl_IsAnchor _ _ h.1, p_impl_FindCertificate _ _ _ h.1]
  by_cases h5 : v6.length < 4
  ·obtain ⟨k, hk⟩ : ∃ k, 4 - v6.length = k + 1 := ⟨3 - v6.length, by omega⟩
   rw [hk] at hc
   have hk' : 4 - (v6 ++ [v3]).length = k := by simp; omega
   simp only [chain, authP] at hc
   rw [decide_eq_false (show ¬ ((v6.length : Nat) : Int) = 4 by omega)]
   cases h1 : verP t.keys ⟨v1, v2, v3, v4, v5⟩
   ·rw [h1] at hc
    exact .inr ⟨_, rfl, hc⟩
   ·cases h2 : allowP t.rules v1 v3
    ·rw [h1, h2] at hc
     exact .inr ⟨_, rfl, hc⟩
    ·rw [h1, h2] at hc
     simp only [Bool.and_self, Bool.true_and, Bool.not_true, cond_false, cond_true] at hc ⊢
     cases h3 : anchP t v3
     ·rw [h3] at hc
      simp only [Bool.false_or, cond_false] at hc ⊢
      rcases fcert_at t v3 now with ⟨a1, a2⟩ | ⟨a1, y, a2, a3⟩
      ·rw [a2] at hc
       rw [decide_eq_true a1]
       exact .inr ⟨_, rfl, hc⟩
      ·rw [a2] at hc
       rw [decide_eq_false a1, a2]
       refine .inl ⟨_, rfl, ⟨by simp; omega, h.2 y a3, ?_⟩, by simp; omega⟩
       dsimp only
       rw [hk']
       exact hc
     ·rw [h3] at hc
      exact .inr ⟨_, rfl, hc⟩
  ·have h6 : 4 - v6.length = 0 := by omega
   rw [h6] at hc
   rw [decide_eq_true (show ((v6.length : Nat) : Int) = 4 by omega)]
   cases verP t.keys ⟨v1, v2, v3, v4, v5⟩
   ·exact .inr ⟨_, rfl, hc⟩
   ·cases allowP t.rules v1 v3
    ·exact .inr ⟨_, rfl, hc⟩
    ·exact .inr ⟨_, rfl, hc⟩) fuel (x.name, x.content, x.keyName, x.freshUntil, x.signature, []) ⟨by simp, hx, rfl⟩ (by unfold fuel; simp)
 unfold sITrustChain
 rw [hg]
 obtain ⟨r1, r2⟩ := g
 exact ⟨r1, by rw [← hq]; rfl⟩
def trust (t : DTrustPolicy) (x : DData) (now : Int) : Bool := vData x && chain t now 4 x
theorem p_spec_IsTrusted (t : DTrustPolicy) (x : DData) (now : Int) (h : Crt2 t) (hx : Dat2 x) : sSIsTrusted t x now = some (trust t x now) := by
 obtain ⟨c, hc⟩ := p_spec_TrustChain t x now h hx
 unfold sSIsTrusted trust
 rw [hc]
 simp only [Option.bind_some, p_spec_ValidData x hx.1.1 hx.1.2.1]
 cases vData x <;> rfl
theorem p_impl_IsTrusted (t : DTrustPolicy) (x : DData) (now : Int) (h : Crt2 t) (hx : Dat2 x) : sIIsTrusted t x now = some (trust t x now) := by
 obtain ⟨c, hc⟩ := p_impl_TrustChain t x now h hx
 unfold sIIsTrusted trust
 rw [hc]
 simp only [Option.bind_some, p_impl_ValidData x hx.1.1 hx.1.2.1]
 cases chain t now 4 x <;> cases vData x <;> rfl
theorem places_any (s : Int) : ∀ (d : List Int) (i : Nat), (Tp.places i d).any (fun y => decide (y = s)) = decide (∃ j : Nat, j < d.length ∧ s = ((i + j : Nat) : Int) ∧ 0 ≤ Tp.gt d j)
 | [], i => by
  rw [decide_eq_false (fun ⟨j, h, _⟩ => by simp at h)]; rfl
 | x :: d, i => by
  have ih := places_any s d (i + 1)
  have e : (∃ j : Nat, j < (x :: d).length ∧ s = ((i + j : Nat) : Int) ∧ 0 ≤ Tp.gt (x :: d) j) ↔ (0 ≤ x ∧ (i : Int) = s) ∨ ∃ j : Nat, j < d.length ∧ s = ((i + 1 + j : Nat) : Int) ∧ 0 ≤ Tp.gt d j := by
   constructor
   ·rintro ⟨j, h1, h2, h3⟩
    cases j with
    | zero => exact .inl ⟨h3, by omega⟩
    | succ j => exact .inr ⟨j, by simpa using h1, by omega, h3⟩
   ·rintro (⟨h1, h2⟩ | ⟨j, h1, h2, h3⟩)
    ·exact ⟨0, by simp, by omega, h1⟩
    ·exact ⟨j + 1, by simpa using h1, by omega, h3⟩
  rw [decide_eq_decide.2 e]
  simp only [Tp.places]
  by_cases hx : 0 ≤ x
  ·rw [if_pos hx, List.any_cons, ih]
   by_cases hs : (i : Int) = s
   ·rw [decide_eq_true hs, decide_eq_true (Or.inl ⟨hx, hs⟩)]; rfl
   ·rw [decide_eq_false hs, Bool.false_or]
    exact decide_eq_decide.2 ⟨.inr, fun h => h.resolve_left fun q => hs q.2⟩
  ·rw [if_neg hx, ih]
   exact decide_eq_decide.2 ⟨.inr, fun h => h.resolve_left fun q => hx q.1⟩
def reachB (l : List DAdvertisement) (a s : Int) : Bool := match sSDistances l a with
 | some d => decide (∃ j : Nat, j < 6 ∧ s = ((0 + j : Nat) : Int) ∧ 0 ≤ Tp.gt d j)
 | none => false
theorem p_spec_reach (l : List DAdvertisement) (hl : Tp.AdvOk l) (a s : Int) : ((sSReachableFrom l a).bind fun r => (sSl19Has r s).bind fun q => some q) = some (reachB l a s) := by
 obtain ⟨d, hd, hD⟩ := Tp.spec_Distances l hl a
 rw [Tp.p_spec_Reach l hl hd hD.1, Option.bind_some]
 rw [Tp.p_spec_l19Has _ _ (by have := Tp.places_len d 0; have := hD.1; omega), Option.bind_some, places_any, hD.1]
 unfold reachB
 rw [hd]
theorem p_impl_reach (l : List DAdvertisement) (hl : Tp.AdvOk l) (a s : Int) : ((sIDistance l a s).bind fun r => some (prims.cmp .geq r 0)) = some (reachB l a s) := by
 obtain ⟨d, hd, hD⟩ := Tp.spec_Distances l hl a
 obtain ⟨d', hd', hD'⟩ := Tp.impl_Distances l hl a
 unfold sIDistance reachB
 rw [p_InRange, hd, Option.bind_some, pl_bnot]
 by_cases hs : 0 ≤ s ∧ s ≤ 5
 ·rw [decide_eq_true hs]
  obtain ⟨k, rfl⟩ : ∃ k : Nat, s = k := ⟨s.toNat, by omega⟩
  have hk : k < d'.length := by rw [hD'.1]; omega
  simp only [Bool.not_true, cond_false, hd', Option.bind_some, ridx_at eI hk, Tp.gt_at hk, pl_geq]
  congr 1
  refine decide_eq_decide.2 ((hD'.2 k (by omega)).trans ((hD.2 k (by omega)).symm.trans ⟨fun h => ⟨k, by omega, by omega, h⟩, fun ⟨j, h1, h2, h3⟩ => ?_⟩))
  obtain rfl : k = j := by omega
  exact h3
 ·rw [decide_eq_false hs]
  simp only [Bool.not_false, cond_true, Option.bind_some, pl_geq]
  rw [decide_eq_false (show ¬ (0 : Int) ≤ -1 by decide), decide_eq_false]
  rintro ⟨j, h1, h2, _⟩
  omega
def NetS (w : DNetwork) : Prop := Crt2 w.trust ∧ (w.producers.length ≤ 2 ^ 40 ∧ ∀ e ∈ w.producers, e.name.length ≤ 2 ^ 30) ∧ (w.nodes.length ≤ 2 ^ 40 ∧ ∀ n ∈ w.nodes, n.locals.length ≤ 2 ^ 40 ∧ ∀ x ∈ n.locals, Dat2 x) ∧ w.topology.links.length ≤ 2 ^ 40 ∧ w.failedLinks.length < 2 ^ 61
def live (w : DNetwork) : DTopology := ⟨w.topology.size, Tp.leftL w.failedLinks w.downNodes w.topology.links⟩
def servB (w : DNetwork) (c : DConsumer) (now : Int) : Bool := isUp w c.node && (isUp w (prodOf w c.name) && match nthI w.nodes (prodOf w c.name) with
 | none => false
 | some n => match nthI n.locals (idxI (datP c.name) n.locals) with
  | none => false
  | some x => trust w.trust x now && reachB (advs (live w) w.producers) c.node (prodOf w c.name))
theorem up_at {w : DNetwork} {k : Int} (h : isUp w k = true) : ∃ n, nthI w.nodes k = some n ∧ n ∈ w.nodes := by
 unfold isUp at h
 simp only [Bool.and_eq_true, decide_eq_true_eq] at h
 obtain ⟨j, rfl⟩ : ∃ j : Nat, k = j := ⟨k.toNat, by omega⟩
 have hj : j < w.nodes.length := by omega
 exact ⟨_, nthI_at hj, List.getElem_mem hj⟩
theorem p_spec_IsServable (w : DNetwork) (c : DConsumer) (now : Int) (h : NetS w) (hc : c.name.length ≤ 2 ^ 30) : sSIsServable w c now = some (servB w c now) := by
 obtain ⟨ht, ⟨hp1, hp2⟩, ⟨hn1, hn2⟩, hk, hf⟩ := h
 unfold sSIsServable servB
 simp only [p_spec_ProducerOf w _ hp1 hc, p_spec_IsUp w _ hn1, Option.bind_some, pl_bnot]
 cases h1 : isUp w c.node
 ·rfl
 ·cases h2 : isUp w (prodOf w c.name)
  ·rfl
  ·obtain ⟨n, h3, h4⟩ := up_at h2
   have hq := hn2 n h4
   simp only [Bool.not_true, cond_false, h3, Option.bind_some, Bool.true_and, p_spec_l16Find _ _ hq.1 (fun x hx => (hq.2 x hx).1.1.1), pl_geq]
   rcases idxI_cases (datP c.name) n.locals with ⟨a1, _⟩ | ⟨j, x, a1, a2, _⟩
   ·rw [a1, nthI_neg _ _ (by decide)]; rfl
   ·have hx := hq.2 x (List.mem_of_getElem? a2)
    rw [a1, decide_eq_true (show (0 : Int) ≤ (j : Int) by omega), cond_true, nthI_nat, a2]
    simp only [Option.bind_some, p_spec_IsTrusted _ _ _ ht hx]
    cases trust w.trust x now
    ·rfl
    ·unfold sSLiveTopology
     rw [Tp.p_spec_RemoveFailed _ _ _ hk hf]
     simp only [cond_true, Option.bind_some]
     have := Tp.leftL_len w.failedLinks w.downNodes w.topology.links
     change (sSAdvertisementsOf (live w) w.producers 1).bind _ = some (reachB (advs (live w) w.producers) c.node (prodOf w c.name))
     rw [p_spec_AdvertisementsOf _ _ (show (live w).links.length ≤ 2 ^ 40 by unfold live; dsimp only; omega) hp1 hp2, Option.bind_some]
     exact p_spec_reach _ (advs_ok _ _) _ _
theorem p_impl_IsServable (w : DNetwork) (c : DConsumer) (now : Int) (h : NetS w) (hc : c.name.length ≤ 2 ^ 30) : sIIsServable w c now = some (servB w c now) := by
 obtain ⟨ht, ⟨hp1, hp2⟩, ⟨hn1, hn2⟩, hk, hf⟩ := h
 unfold sIIsServable servB
 simp only [p_impl_ProducerOf w _ hp1 hc, p_impl_IsUp w _ hn1, Option.bind_some, pl_bnot]
 cases h1 : isUp w c.node
 ·rfl
 ·cases h2 : isUp w (prodOf w c.name)
  ·rfl
  ·obtain ⟨n, h3, h4⟩ := up_at h2
   have hq := hn2 n h4
   simp only [Bool.not_true, cond_false, h3, Option.bind_some, Bool.true_and, p_impl_localAt _ _ hq.1 (fun x hx => (hq.2 x hx).1.1.1), pl_lss]
   rcases idxI_cases (datP c.name) n.locals with ⟨a1, _⟩ | ⟨j, x, a1, a2, _⟩
   ·rw [a1, nthI_neg _ _ (by decide)]; rfl
   ·have hx := hq.2 x (List.mem_of_getElem? a2)
    rw [a1, decide_eq_false (show ¬ (j : Int) < 0 by omega), cond_false, nthI_nat, a2]
    simp only [Option.bind_some, p_impl_IsTrusted _ _ _ ht hx]
    cases trust w.trust x now
    ·rfl
    ·unfold sILiveTopology
     rw [Tp.p_impl_RemoveFailed _ _ _ hk hf]
     simp only [Bool.not_true, cond_false, Option.bind_some]
     have := Tp.leftL_len w.failedLinks w.downNodes w.topology.links
     change (sIAdvertisementsOf (live w) w.producers 1).bind _ = some (reachB (advs (live w) w.producers) c.node (prodOf w c.name))
     rw [p_impl_AdvertisementsOf _ _ (show (live w).links.length ≤ 2 ^ 40 by unfold live; dsimp only; omega) hp1 hp2, Option.bind_some]
     exact p_impl_reach _ (advs_ok _ _) _ _
def badS (w : DNetwork) (c : DConsumer) : Bool := !c.satisfied && servB w c w.now
theorem p_spec_AllServed (w : DNetwork) (h : NetS w) (hc : w.consumers.length ≤ 2 ^ 40 ∧ ∀ c ∈ w.consumers, c.name.length ≤ 2 ^ 30) : sSAllServed w = some (!w.consumers.any (badS w)) := by
 unfold sSAllServed
 rw [while_scan w.consumers (fun _ c => badS w c) (fun _ _ => false) .inr (.inl (w.consumers.length : Int)) (by omega) (fun i hi => by
  simp only [sSAllServed_l1, lt_len _ hi, nthI_at hi, cond_true, Option.bind_some, p_spec_IsServable _ _ _ h (hc.2 _ (List.getElem_mem hi)), pl_bnot, badS]
  cases w.consumers[i].satisfied <;> cases servB w w.consumers[i] w.now <;> rfl) (by simp only [sSAllServed_l1, lt_end]; rfl), scan_const]
 cases w.consumers.any (badS w) <;> rfl
theorem p_impl_AllServed (w : DNetwork) (h : NetS w) (hc : w.consumers.length ≤ 2 ^ 40 ∧ ∀ c ∈ w.consumers, c.name.length ≤ 2 ^ 30) : sIAllServed w = some (!w.consumers.any (badS w)) := by
 unfold sIAllServed
 rw [while_scan w.consumers (fun _ c => badS w c) (fun _ _ => false) .inr (.inl (w.consumers.length : Int)) (by omega) (fun i hi => by
  simp only [sIAllServed_l1, lt_len _ hi, nthI_at hi, cond_true, Option.bind_some, p_impl_IsServable _ _ _ h (hc.2 _ (List.getElem_mem hi)), pl_bnot, badS]
  cases w.consumers[i].satisfied <;> cases servB w w.consumers[i] w.now <;> rfl) (by simp only [sIAllServed_l1, lt_end]; rfl), scan_const]
 cases w.consumers.any (badS w) <;> rfl
theorem dat2_sz (x : DData) (h : szData x ≤ 1048576) : Dat2 x := by
 have e : szData x = szL ByteArray.size x.name + szL (fun _ => 0) x.content + szL ByteArray.size x.keyName := rfl
 have := szL_len ByteArray.size x.keyName
 exact ⟨datOk_sz x h, by omega⟩
theorem netS_sz (w : DNetwork) (h : szNetwork w ≤ 1048576) : NetS w := by
 have e : szNetwork w = szTopology w.topology + szTrustPolicy w.trust + szL szTableEntry w.producers + szL szNode w.nodes + szL (fun _ => 0) w.failedLinks + szL szPacketInFlight w.inFlight + szL szConsumer w.consumers := rfl
 have e2 : szTrustPolicy w.trust = szL szKey w.trust.keys + szL szRule w.trust.rules + szL (szL ByteArray.size) w.trust.anchors + szL szData w.trust.certificates := rfl
 have e3 : szTopology w.topology = szL (fun _ => 0) w.topology.links := rfl
 have l1 := szL_len szKey w.trust.keys
 have l2 := szL_len szRule w.trust.rules
 have l3 := szL_len (szL ByteArray.size) w.trust.anchors
 have l4 := szL_len szNode w.nodes
 have l5 := szL_len szData w.trust.certificates
 have l6 := szL_len szTableEntry w.producers
 have l7 := szL_len (fun _ => 0) w.failedLinks
 have l8 := szL_len (fun _ => 0) w.topology.links
 have hcert : ∀ x ∈ w.trust.certificates, Dat2 x := fun x hx => dat2_sz x (by have := szL_mem szData hx; omega)
 refine ⟨⟨⟨⟨⟨by omega, fun x hx => ?_⟩, by omega, fun r hr => ?_⟩, ⟨by omega, fun a ha => ?_⟩, by omega, fun x hx => (hcert x hx).1⟩, hcert⟩, ⟨by omega, fun x hx => ?_⟩, ⟨by omega, fun n hn => ?_⟩, by omega, by omega⟩
 ·have := szL_mem szKey hx
  have e : szKey x = szL ByteArray.size x.name := rfl
  exact (nameOk_sz _ (by omega)).1
 ·have := szL_mem szRule hr
  have e : szRule r = szL ByteArray.size r.dataPattern + szL ByteArray.size r.keyPattern := rfl
  exact ⟨nameOk_sz _ (by omega), nameOk_sz _ (by omega)⟩
 ·have := szL_mem (szL ByteArray.size) ha
  have := szL_len ByteArray.size a
  omega
 ·have := szL_mem szTableEntry hx
  have e : szTableEntry x = szL ByteArray.size x.name := rfl
  have := szL_len ByteArray.size x.name
  omega
 ·have := szL_mem szNode hn
  have e : szNode n = szL szData n.locals + szL szCacheEntry n.cache.entries + szL szPendingInterest n.pending + szL szSeenNonce n.seen + szL szRoute n.routes + szL szMeasurement n.measurements := rfl
  have l5 := szL_len szData n.locals
  exact ⟨by omega, fun x hx => dat2_sz x (by have := szL_mem szData hx; omega)⟩
theorem cons_sz (w : DNetwork) (h : szNetwork w ≤ 1048576) : w.consumers.length ≤ 2 ^ 40 ∧ ∀ c ∈ w.consumers, c.name.length ≤ 2 ^ 30 := by
 have e : szNetwork w = szTopology w.topology + szTrustPolicy w.trust + szL szTableEntry w.producers + szL szNode w.nodes + szL (fun _ => 0) w.failedLinks + szL szPacketInFlight w.inFlight + szL szConsumer w.consumers := rfl
 have l1 := szL_len szConsumer w.consumers
 refine ⟨by omega, fun c hc => ?_⟩
 have := szL_mem szConsumer hc
 have e : szConsumer c = szL ByteArray.size c.name + szData c.data := rfl
 have := szL_len ByteArray.size c.name
 omega
end
end Go.Proofs.YtgfmmfpafcfjpaaGreat
