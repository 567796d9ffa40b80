import Derived.Test.YtnomkohiiadkjaaGreatMkr
import Derived.Test.YtnomkohiiadkjaaGreatFamRaw
import Derived.Test.YtnomkohiiadkjaaGreatFl
import Derived.Test.YtnomkohiiadkjaaGreatPl
import Derived.Test.YtnomkohiiadkjaaGreatSd
import Derived.Test.YtnomkohiiadkjaaGreatFp
namespace Go.Proofs.YtnomkohiiadkjaaGreat
open Go.RowKit
set_option linter.unusedVariables false
set_option linter.unusedSimpArgs false
set_option maxRecDepth 100000
theorem mkZ_at {α : Type} (f : α → Int → α) (c : α → Nat) : ∀ (l : List α) (k : Int) (i : Nat) (h : i < l.length) (h' : i < (mkZ f c l k).length), (mkZ f c l k)[i] = f l[i] (k + (cntL c (l.take i) : Nat))
 | [], k, i, h, _ => by simp at h
 | x :: l, k, 0, _, _ => by simp [mkZ, cntL]
 | x :: l, k, i + 1, h, h' => by
  have := mkZ_at f c l (k + (c x : Nat)) i (by simpa using h) (by simpa [mkZ] using h')
  simp only [mkZ, List.getElem_cons_succ, List.take_succ_cons, cntL, this]
  rw [show k + (c x : Nat) + (cntL c (l.take i) : Nat) = k + ((c x + cntL c (l.take i) : Nat) : Int) by omega]
theorem lss_no {r : Int} (h : 0 ≤ r) : prims.cmp .lss r 0 = false := by rw [pl_lss]; simpa using h
theorem byW_mk (k : Int) (h : 0 ≤ k) : prims.byW k = mkByte k := by
 show UInt8.ofNat (IntKind.u8.wrap k).toNat = UInt8.ofNat k.toNat
 have e : IntKind.u8.wrap k = k % 256 := by simp [IntKind.wrap, IntKind.signed, IntKind.bits]
 rw [e]
 apply UInt8.toNat.inj
 rw [UInt8.toNat_ofNat', UInt8.toNat_ofNat']
 omega
theorem cntL_len {α : Type} (c : α → Nat) (h : ∀ x, 1 ≤ c x) : ∀ l : List α, l.length ≤ cntL c l
 | [] => Nat.le_refl _
 | x :: l => by have := cntL_len c h l; have := h x; simp only [cntL, List.length_cons]; omega
theorem p_markText (k : Int) (h0 : 0 ≤ k) (hb : k ≤ 1099511627776) : sLmarkText k = some (mkText k) := by
 unfold sLmarkText mkText
 by_cases hz : k ≤ 0
 ·rw [pl_leq, decide_eq_true hz, if_pos hz]; rfl
 ·rw [pl_leq, decide_eq_false hz, if_neg hz, cond_false]
  have hd : dg0 k.toNat = Go.Lib.decDigits k.toNat := if_neg (by omega)
  have hlen : (dg0 k.toNat).length ≤ 13 := by
   rw [hd, decDigits_len]
   exact nDigits_le 13 k.toNat (by omega) (by omega)
  have H := while_meas (step := sLmarkText_l1) (fun x => ((0 : Int), bs (dg0 x.1.toNat ++ bl x.2))) (fun x => (dg0 x.1.toNat).length) (fun x => 0 ≤ x.1 ∧ x.1 ≤ 1099511627776 ∧ x.2.size + (dg0 x.1.toNat).length ≤ 20) (fun x hI => by
   obtain ⟨v2, v3⟩ := x
   obtain ⟨hm, hu, hsz⟩ := hI
   simp only at hm hu hsz
   by_cases hp : 0 < v2
   ·left
    have hst := dg0_step v2.toNat (by omega)
    have hlst : (dg0 v2.toNat).length = (dg0 (v2.toNat / 10)).length + 1 := by rw [hst]; simp
    obtain ⟨m, rfl⟩ := Int.eq_ofNat_of_zero_le hm
    simp only [Int.toNat_natCast] at hst hlst hsz
    have hrem : prims.arith .rem .i64 (m : Int) 10 = ((m % 10 : Nat) : Int) := rfl
    have hquo : prims.arith .quo .i64 (m : Int) 10 = ((m / 10 : Nat) : Int) := by
     show IntKind.i64.wrap ((m / 10 : Nat) : Int) = _
     rw [IntKind.wrap_i64]
     omega
    have hadd : prims.arith .add .i64 48 ((m % 10 : Nat) : Int) = 48 + ((m % 10 : Nat) : Int) := pl_add _ _ (by omega) (by omega)
    have hby : prims.byW (48 + ((m % 10 : Nat) : Int)) = UInt8.ofNat (48 + m % 10) := by
     rw [byW_mk _ (by omega)]
     unfold mkByte
     congr 1
     try omega
    have hcat : prims.catOk (prims.ofB [UInt8.ofNat (48 + m % 10)]) v3 = true := by
     rw [← bs_bl v3]
     exact catOk_bs [_] _ (by rw [bl_len]; simp; omega)
    have hsc : prims.scat (prims.ofB [UInt8.ofNat (48 + m % 10)]) v3 = bs ([UInt8.ofNat (48 + m % 10)] ++ bl v3) := by
     conv => lhs; rw [← bs_bl v3]
     exact scat_bs [_] _
    refine ⟨(((m / 10 : Nat) : Int), bs ([UInt8.ofNat (48 + m % 10)] ++ bl v3)), ?_, ⟨?_, ?_, ?_⟩, ?_, ?_⟩
    ·simp only [sLmarkText_l1, pl_gtr, pl_eql, decide_eq_true hp, cond_true, show decide ((10 : Int) = 0) = false from rfl, cond_false, hrem, hadd, hby, hcat, hsc, hquo]
    ·show (0 : Int) ≤ ((m / 10 : Nat) : Int); omega
    ·show ((m / 10 : Nat) : Int) ≤ 1099511627776; omega
    ·show ([UInt8.ofNat (48 + m % 10)] ++ bl v3).length + (dg0 (((m / 10 : Nat) : Int)).toNat).length ≤ 20
     rw [List.length_append, bl_len, Int.toNat_natCast]
     simp only [List.length_cons, List.length_nil]
     omega
    ·show (dg0 (((m / 10 : Nat) : Int)).toNat).length < (dg0 ((m : Int)).toNat).length
     rw [Int.toNat_natCast, Int.toNat_natCast]
     omega
    ·show ((0 : Int), bs (dg0 ((m : Int)).toNat ++ bl v3)) = (0, bs (dg0 (((m / 10 : Nat) : Int)).toNat ++ ([UInt8.ofNat (48 + m % 10)] ++ bl v3)))
     rw [Int.toNat_natCast, Int.toNat_natCast, hst, List.append_assoc]
   ·right
    have h00 : v2 = 0 := by omega
    subst h00
    simp only [sLmarkText_l1, pl_gtr, decide_eq_false hp, cond_false]
    show some (Sum.inr ((0 : Int), v3)) = some (Sum.inr (0, bs (dg0 0 ++ bl v3)))
    rw [show dg0 0 = [] from rfl, List.nil_append, bs_bl]) fuel (k, bs []) ⟨h0, hb, by show 0 + (dg0 k.toNat).length ≤ 20; omega⟩ (by unfold fuel; simp only; omega)
  have e : (k, (ByteArray.mk (Array.mk []))) = (k, bs []) := rfl
  rw [e, H]
  simp only [Option.bind_some, bl_bs, List.append_nil, hd, bs_mk, catOk_bs [109] (Go.Lib.decDigits k.toNat) (by rw [← hd]; simp; omega), cond_true, scat_bs]
  rfl
theorem p_heldStringS (l : (List ByteArray)) (k : Int) (h0 : 0 ≤ k) (hb : k + (l.length : Nat) ≤ 1099511627776) : sLheldStringS (mkZ (fun _ k => mkText k) (fun _ => 1) l k) k = some (k + (l.length : Nat)) := by
 have hlen : l.length < 2 ^ 61 := by omega
 have H := while_seq (step := sLheldStringS_l1 (mkZ (fun _ k => mkText k) (fun _ => 1) l k)) (fun i => (k + (cntL (fun _ => 1) (l.take i) : Nat), (i : Int))) (.inl (k + (cntL (fun _ => 1) l : Nat), (l.length : Int))) l.length hlen (fun i hi => by
  have hm : i < (mkZ (fun _ k => mkText k) (fun _ => 1) l k).length := by rw [mkZ_length]; exact hi
  have hx := mkZ_at (fun _ k => mkText k) (fun _ => 1) l k i hi hm
  have hct := cntL_take (fun _ => 1) l i hi
  have hle := cntL_take_le (fun _ => 1) l (i + 1)
  have hcl := cntL_one l
  obtain ⟨K, hK⟩ : ∃ K : Int, K = k + (cntL (fun _ => 1) (l.take i) : Nat) := ⟨_, rfl⟩
  obtain ⟨x0, hx0⟩ : ∃ x, x = l[i] := ⟨_, rfl⟩
  rw [← hK] at hx
  try rw [← hx0] at hx
  try rw [← hx0] at hct
  simp only [sLheldStringS_l1, lt_len _ hm, cond_true, nthI_at hm, Option.bind_some, hx, ← hK, cond_false, p_markText K (by omega) (by omega), eq_self_s, pl_add K 1 (by omega) (by omega), pl_inc i l.length hi (by omega)]
  rw [show K + 1 = k + ((cntL (fun _ => 1) (l.take (i + 1)) : Nat) : Int) by omega]) (by
  have hend := lt_end eS (mkZ (fun _ k => mkText k) (fun _ => 1) l k)
  rw [mkZ_length] at hend
  simp only [sLheldStringS_l1, List.take_length, hend, cond_false])
 rw [cntL_one l] at H
 have e0 : (k, (0 : Int)) = (k + ((cntL (fun _ => 1) (l.take 0) : Nat) : Int), ((0 : Nat) : Int)) := by simp [cntL]
 unfold sLheldStringS
 rw [e0, H]
 rfl
theorem p_heldByteS (l : (List UInt8)) (k : Int) (h0 : 0 ≤ k) (hb : k + (l.length : Nat) ≤ 1099511627776) : sLheldByteS (mkZ (fun _ k => mkByte k) (fun _ => 1) l k) k = some (k + (l.length : Nat)) := by
 have hlen : l.length < 2 ^ 61 := by omega
 have H := while_seq (step := sLheldByteS_l1 (mkZ (fun _ k => mkByte k) (fun _ => 1) l k)) (fun i => (k + (cntL (fun _ => 1) (l.take i) : Nat), (i : Int))) (.inl (k + (cntL (fun _ => 1) l : Nat), (l.length : Int))) l.length hlen (fun i hi => by
  have hm : i < (mkZ (fun _ k => mkByte k) (fun _ => 1) l k).length := by rw [mkZ_length]; exact hi
  have hx := mkZ_at (fun _ k => mkByte k) (fun _ => 1) l k i hi hm
  have hct := cntL_take (fun _ => 1) l i hi
  have hle := cntL_take_le (fun _ => 1) l (i + 1)
  have hcl := cntL_one l
  obtain ⟨K, hK⟩ : ∃ K : Int, K = k + (cntL (fun _ => 1) (l.take i) : Nat) := ⟨_, rfl⟩
  obtain ⟨x0, hx0⟩ : ∃ x, x = l[i] := ⟨_, rfl⟩
  rw [← hK] at hx
  try rw [← hx0] at hx
  try rw [← hx0] at hct
  simp only [sLheldByteS_l1, lt_len _ hm, cond_true, nthI_at hm, Option.bind_some, hx, ← hK, cond_false, byW_mk K (by omega), eq_self_i, pl_add K 1 (by omega) (by omega), pl_inc i l.length hi (by omega)]
  rw [show K + 1 = k + ((cntL (fun _ => 1) (l.take (i + 1)) : Nat) : Int) by omega]) (by
  have hend := lt_end eY (mkZ (fun _ k => mkByte k) (fun _ => 1) l k)
  rw [mkZ_length] at hend
  simp only [sLheldByteS_l1, List.take_length, hend, cond_false])
 rw [cntL_one l] at H
 have e0 : (k, (0 : Int)) = (k + ((cntL (fun _ => 1) (l.take 0) : Nat) : Int), ((0 : Nat) : Int)) := by simp [cntL]
 unfold sLheldByteS
 rw [e0, H]
 rfl
theorem p_heldDataS (l : (List DData)) (k : Int) (h0 : 0 ≤ k) (hb : k + (cntL cData l : Nat) ≤ 1099511627776) : sLheldDataS (mkZ mData cData l k) k = some (k + (cntL cData l : Nat)) := by
 have hlen : l.length < 2 ^ 61 := by have := cntL_len cData (fun x => by unfold cData; omega) l; omega
 have H := while_seq (step := sLheldDataS_l1 (mkZ mData cData l k)) (fun i => (k + (cntL cData (l.take i) : Nat), (i : Int))) (.inl (k + (cntL cData l : Nat), (l.length : Int))) l.length hlen (fun i hi => by
  have hm : i < (mkZ mData cData l k).length := by rw [mkZ_length]; exact hi
  have hx := mkZ_at mData cData l k i hi hm
  have hct := cntL_take cData l i hi
  have hle := cntL_take_le cData l (i + 1)
  obtain ⟨K, hK⟩ : ∃ K : Int, K = k + (cntL cData (l.take i) : Nat) := ⟨_, rfl⟩
  obtain ⟨x0, hx0⟩ : ∃ x, x = l[i] := ⟨_, rfl⟩
  rw [← hK] at hx
  try rw [← hx0] at hx
  try rw [← hx0] at hct
  have hcx : cData x0 = x0.name.length + x0.content.length + x0.keyName.length + 1 + 1 := rfl
  simp only [sLheldDataS_l1, lt_len _ hm, cond_true, nthI_at hm, Option.bind_some, hx, ← hK, cond_false, mData, p_heldStringS x0.name (K) (by omega) (by omega), lss_no (show 0 ≤ K + (x0.name.length : Nat) by omega), p_heldByteS x0.content (K + (x0.name.length : Nat)) (by omega) (by omega), lss_no (show 0 ≤ K + (x0.name.length : Nat) + (x0.content.length : Nat) by omega), p_heldStringS x0.keyName (K + (x0.name.length : Nat) + (x0.content.length : Nat)) (by omega) (by omega), lss_no (show 0 ≤ K + (x0.name.length : Nat) + (x0.content.length : Nat) + (x0.keyName.length : Nat) by omega), pl_add (K + (x0.name.length : Nat) + (x0.content.length : Nat) + (x0.keyName.length : Nat)) 1 (by omega) (by omega), pl_add (K + (x0.name.length : Nat) + (x0.content.length : Nat) + (x0.keyName.length : Nat) + 1) 1 (by omega) (by omega), eq_self_i, eq_self_b, eq_self_b2, pl_bnot, Bool.not_true, pl_inc i l.length hi (by omega)]
  rw [show K + (x0.name.length : Nat) + (x0.content.length : Nat) + (x0.keyName.length : Nat) + 1 + 1 = k + ((cntL cData (l.take (i + 1)) : Nat) : Int) by omega]) (by
  have hend := lt_end eData (mkZ mData cData l k)
  rw [mkZ_length] at hend
  simp only [sLheldDataS_l1, List.take_length, hend, cond_false])
 have e0 : (k, (0 : Int)) = (k + ((cntL cData (l.take 0) : Nat) : Int), ((0 : Nat) : Int)) := by simp [cntL]
 unfold sLheldDataS
 rw [e0, H]
 rfl
theorem p_markDataS (x : (List DData)) (k : Int) (h0 : 0 ≤ k) (hb : k + (cntL cData x : Nat) ≤ 1099511627776) : sLmarkDataS x k = some ((mkZ mData cData x (k)), k + (cntL cData x : Nat)) := if_pos ⟨h0, hb⟩
end Go.Proofs.YtnomkohiiadkjaaGreat
namespace Go.Proofs.YtnomkohiiadkjaaGreat
open Go.RowKit
set_option linter.unusedVariables false
set_option linter.unusedSimpArgs false
noncomputable section
theorem fits_small (n b : Nat) (h : n ≤ 2 ^ 30) (hb : b ≤ 2 ^ 10) : prims.fits 0 n b = true := by
 rw [pl_fits, decide_eq_true_eq]
 have : (0 + n) * b ≤ 2 ^ 30 * 2 ^ 10 := Nat.mul_le_mul (by omega) hb
 omega
theorem p_l4Copy (l : List ByteArray) (h : l.length ≤ 2 ^ 30) : sSl4Copy l = some l := by
 unfold sSl4Copy
 rw [pl_rlen, fits_small _ _ h (by decide)]
 rfl
theorem p_copyName (l : List ByteArray) (h : l.length ≤ 2 ^ 30) : sIcopyName l = some l := by
 unfold sIcopyName sCClone_string
 rw [pl_rlen, fits_small _ _ h (by decide)]
 rfl
theorem fits_add (a b c : Nat) (h : (a + b) * c ≤ 2 ^ 46) : prims.fits a b c = true := by rw [pl_fits, decide_eq_true_eq]; exact h
theorem while_push {α β : Type} {step : (Int × List β) → Option ((Int × List β) ⊕ (Int × List β))} (l : List α) (g : α → List β) (hl : l.length < 2 ^ 61) (hg : ∀ x, (g x).length ≤ 1)
  (hs : ∀ (i : Nat) x out, x ∈ l → nthI l (i : Int) = some x → i < l.length → out.length ≤ i → step ((i : Int), out) = some (.inl (((i + 1 : Nat) : Int), out ++ g x)))
  (he : ∀ out, step ((l.length : Int), out) = some (.inr ((l.length : Int), out))) : whileO step fuel (0, []) = some ((l.length : Int), l.flatMap g) := by
 refine while_list0 (σ := List β) l (fun i s => ((i : Int), s)) (fun i rest s => ((l.length : Int), s ++ rest.flatMap g)) (fun i s => s.length ≤ i) [] (by unfold fuel; omega) (Nat.le_refl _) (fun s _ => by simpa using he s) fun i x rest s hd hi hx hI => ?_
 have hxl : x ∈ l := by
  have : x ∈ l.drop i := by rw [hd]; simp
  exact List.mem_of_mem_drop this
 refine .inl ⟨s ++ g x, hs i x s hxl hx hi hI, ?_, ?_⟩
 ·have := hg x
  rw [List.length_append]
  omega
 ·rw [List.flatMap_cons, List.append_assoc]
theorem cntL_64 {α : Type} (c f : α → Nat) (h : ∀ x, c x ≤ 64 * (f x + 1)) : ∀ l : List α, cntL c l ≤ 64 * szL f l
 | [] => Nat.le_refl _
 | x :: l => by
  have ih := cntL_64 c f h l
  have := h x
  simp only [szL, cntL]
  omega
theorem c64_Link (x : DLink) : cLink x ≤ 64 * ((fun _ => 0) x + 1) := by
 unfold cLink
 omega
theorem c64_Key (x : DKey) : cKey x ≤ 64 * (szKey x + 1) := by
 have e : szKey x = ((szL ByteArray.size) x.name) := rfl
 have := szL_len ByteArray.size x.name
 unfold cKey
 omega
theorem c64_Rule (x : DRule) : cRule x ≤ 64 * (szRule x + 1) := by
 have e : szRule x = ((szL ByteArray.size) x.dataPattern + (szL ByteArray.size) x.keyPattern) := rfl
 have := szL_len ByteArray.size x.dataPattern
 have := szL_len ByteArray.size x.keyPattern
 unfold cRule
 omega
theorem c64_Name (x : (List ByteArray)) : cName x ≤ 64 * ((szL ByteArray.size) x + 1) := by
 have e : (szL ByteArray.size) x = (szL ByteArray.size) x := rfl
 have := szL_len ByteArray.size x
 unfold cName
 omega
theorem c64_Data (x : DData) : cData x ≤ 64 * (szData x + 1) := by
 have e : szData x = ((szL ByteArray.size) x.name + (szL (fun _ => 0)) x.content + (szL ByteArray.size) x.keyName) := rfl
 have := szL_len ByteArray.size x.name
 have := szL_len (fun _ => 0) x.content
 have := szL_len ByteArray.size x.keyName
 unfold cData
 omega
theorem c64_TableEntry (x : DTableEntry) : cTableEntry x ≤ 64 * (szTableEntry x + 1) := by
 have e : szTableEntry x = ((szL ByteArray.size) x.name) := rfl
 have := szL_len ByteArray.size x.name
 unfold cTableEntry
 omega
theorem c64_CacheEntry (x : DCacheEntry) : cCacheEntry x ≤ 64 * (szCacheEntry x + 1) := by
 have e : szCacheEntry x = (((szL ByteArray.size) x.data.name + (szL (fun _ => 0)) x.data.content + (szL ByteArray.size) x.data.keyName)) := rfl
 have := szL_len ByteArray.size x.data.name
 have := szL_len (fun _ => 0) x.data.content
 have := szL_len ByteArray.size x.data.keyName
 unfold cCacheEntry
 omega
theorem c64_Requester (x : DRequester) : cRequester x ≤ 64 * ((fun _ => 0) x + 1) := by
 unfold cRequester
 omega
theorem c64_PendingInterest (x : DPendingInterest) : cPendingInterest x ≤ 64 * (szPendingInterest x + 1) := by
 have e : szPendingInterest x = ((szL ByteArray.size) x.name + (szL (fun _ => 0)) x.requesters) := rfl
 have := szL_len ByteArray.size x.name
 have := cntL_64 cRequester (fun _ => 0) c64_Requester x.requesters
 unfold cPendingInterest
 omega
theorem c64_SeenNonce (x : DSeenNonce) : cSeenNonce x ≤ 64 * (szSeenNonce x + 1) := by
 have e : szSeenNonce x = ((szL ByteArray.size) x.name) := rfl
 have := szL_len ByteArray.size x.name
 unfold cSeenNonce
 omega
theorem c64_Route (x : DRoute) : cRoute x ≤ 64 * (szRoute x + 1) := by
 have e : szRoute x = ((szL ByteArray.size) x.pfx) := rfl
 have := szL_len ByteArray.size x.pfx
 unfold cRoute
 omega
theorem c64_Measurement (x : DMeasurement) : cMeasurement x ≤ 64 * (szMeasurement x + 1) := by
 have e : szMeasurement x = ((szL ByteArray.size) x.pfx) := rfl
 have := szL_len ByteArray.size x.pfx
 unfold cMeasurement
 omega
theorem c64_Node (x : DNode) : cNode x ≤ 64 * (szNode x + 1) := by
 have e : szNode x = ((szL szData) x.locals + ((szL szCacheEntry) x.cache.entries) + (szL szPendingInterest) x.pending + (szL szSeenNonce) x.seen + (szL szRoute) x.routes + (szL szMeasurement) x.measurements) := rfl
 have := cntL_64 cData szData c64_Data x.locals
 have := cntL_64 cCacheEntry szCacheEntry c64_CacheEntry x.cache.entries
 have := cntL_64 cPendingInterest szPendingInterest c64_PendingInterest x.pending
 have := cntL_64 cSeenNonce szSeenNonce c64_SeenNonce x.seen
 have := cntL_64 cRoute szRoute c64_Route x.routes
 have := cntL_64 cMeasurement szMeasurement c64_Measurement x.measurements
 unfold cNode
 omega
theorem c64_PacketInFlight (x : DPacketInFlight) : cPacketInFlight x ≤ 64 * (szPacketInFlight x + 1) := by
 have e : szPacketInFlight x = (((szL ByteArray.size) x.interest.name) + ((szL ByteArray.size) x.data.name + (szL (fun _ => 0)) x.data.content + (szL ByteArray.size) x.data.keyName)) := rfl
 have := szL_len ByteArray.size x.interest.name
 have := szL_len ByteArray.size x.data.name
 have := szL_len (fun _ => 0) x.data.content
 have := szL_len ByteArray.size x.data.keyName
 unfold cPacketInFlight
 omega
theorem c64_Consumer (x : DConsumer) : cConsumer x ≤ 64 * (szConsumer x + 1) := by
 have e : szConsumer x = ((szL ByteArray.size) x.name + ((szL ByteArray.size) x.data.name + (szL (fun _ => 0)) x.data.content + (szL ByteArray.size) x.data.keyName)) := rfl
 have := szL_len ByteArray.size x.name
 have := szL_len ByteArray.size x.data.name
 have := szL_len (fun _ => 0) x.data.content
 have := szL_len ByteArray.size x.data.keyName
 unfold cConsumer
 omega
def cntNet (x : DNetwork) : Nat := cntL cLink x.topology.links + cntL cKey x.trust.keys + cntL cRule x.trust.rules + cntL cName x.trust.anchors + cntL cData x.trust.certificates + cntL cTableEntry x.producers + cntL cNode x.nodes + x.failedLinks.length + cntL cPacketInFlight x.inFlight + cntL cConsumer x.consumers
theorem net_cnt (x : DNetwork) (h : szNetwork x ≤ 1048576) : cntNet x ≤ 134217728 := by
 have e : szNetwork x = (((szL (fun _ => 0)) x.topology.links) + ((szL szKey) x.trust.keys + (szL szRule) x.trust.rules + (szL (szL ByteArray.size)) x.trust.anchors + (szL szData) x.trust.certificates) + (szL szTableEntry) x.producers + (szL szNode) x.nodes + (szL (fun _ => 0)) x.failedLinks + (szL szPacketInFlight) x.inFlight + (szL szConsumer) x.consumers) := rfl
 have := cntL_64 cLink (fun _ => 0) c64_Link x.topology.links
 have := cntL_64 cKey szKey c64_Key x.trust.keys
 have := cntL_64 cRule szRule c64_Rule x.trust.rules
 have := cntL_64 cName (szL ByteArray.size) c64_Name x.trust.anchors
 have := cntL_64 cData szData c64_Data x.trust.certificates
 have := cntL_64 cTableEntry szTableEntry c64_TableEntry x.producers
 have := cntL_64 cNode szNode c64_Node x.nodes
 have := szL_len (fun _ => 0) x.failedLinks
 have := cntL_64 cPacketInFlight szPacketInFlight c64_PacketInFlight x.inFlight
 have := cntL_64 cConsumer szConsumer c64_Consumer x.consumers
 unfold cntNet
 omega
def DatS (x : DData) : Prop := x.name.length ≤ 2 ^ 22 ∧ x.content.length ≤ 2 ^ 22 ∧ x.keyName.length ≤ 2 ^ 22
theorem p_l8Copy (x : DData) (h : DatS x) : sSl8Copy x = some x := by
 obtain ⟨h1, h2, h3⟩ := h
 unfold sSl8Copy
 rw [p_l4Copy _ (by omega), Option.bind_some, pl_rlen, fits_small _ _ (by omega) (by decide), cond_true, p_l4Copy _ (by omega)]
 rfl
theorem p_copyData (x : DData) (h : DatS x) : sIcopyData x = some x := by
 obtain ⟨h1, h2, h3⟩ := h
 unfold sIcopyData sCClone_byte
 rw [p_copyName _ (by omega), Option.bind_some, pl_rlen, fits_small _ _ (by omega) (by decide), cond_true, Option.bind_some, p_copyName _ (by omega)]
 rfl
def recv (l : List DConsumer) : List DData := l.flatMap fun x => bif x.satisfied then [x.data] else []
theorem p_spec_ReceivedData (w : DNetwork) (hl : w.consumers.length ≤ 2 ^ 22) (h : ∀ x ∈ w.consumers, DatS x.data) : sSReceivedData w = some (recv w.consumers) := by
 unfold sSReceivedData
 rw [while_push w.consumers (fun x => bif x.satisfied then [x.data] else []) (by omega) (fun x => by cases x.satisfied <;> simp) (fun i x out hm hx hi ho => by
  simp only [sSReceivedData_l1, lt_len _ hi, cond_true, hx, Option.bind_some, p_l8Copy _ (h x hm)]
  simp only [pl_len, pl_rlen, pl_inc i w.consumers.length hi (by omega)]
  rw [fits_add _ _ _ (by simp only [List.length_singleton]; omega)]
  cases x.satisfied <;> simp) (fun out => by simp only [sSReceivedData_l1, lt_end]; rfl)]
 rfl
theorem p_impl_ReceivedData (w : DNetwork) (hl : w.consumers.length ≤ 2 ^ 22) (h : ∀ x ∈ w.consumers, DatS x.data) : sIReceivedData w = some (recv w.consumers) := by
 unfold sIReceivedData
 rw [while_push w.consumers (fun x => bif x.satisfied then [x.data] else []) (by omega) (fun x => by cases x.satisfied <;> simp) (fun i x out hm hx hi ho => by
  simp only [sIReceivedData_l1, lt_len _ hi, cond_true, hx, Option.bind_some, p_copyData _ (h x hm)]
  simp only [pl_len, pl_rlen, pl_inc i w.consumers.length hi (by omega)]
  rw [fits_add _ _ _ (by simp only [List.length_singleton]; omega)]
  cases x.satisfied <;> simp) (fun out => by simp only [sIReceivedData_l1, lt_end]; rfl)]
 rfl
theorem recv_sz : ∀ l : List DConsumer, szL szData (recv l) ≤ szL szConsumer l
 | [] => Nat.le_refl _
 | x :: l => by
  have ih := recv_sz l
  have e : szConsumer x = szL ByteArray.size x.name + szData x.data := rfl
  unfold recv at ih ⊢
  rw [List.flatMap_cons]
  cases x.satisfied
  ·simp only [cond_false, List.nil_append, szL]; omega
  ·simp only [cond_true, List.singleton_append, szL]; omega
theorem szBytes : ∀ l : List UInt8, szL (fun _ => 0) l = l.length
 | [] => rfl
 | x :: l => by simp only [szL, szBytes l, List.length_cons]; omega
theorem p_lawFnExactReceivedData (x0 : DNetwork) (k0 : okNetwork x0) : sLFnExactReceivedData x0 = some true := by
 unfold sLFnExactReceivedData
 rw [p_szNetwork x0 1048576 k0 (by decide) (by decide), Option.bind_some, pl_lss]
 by_cases hs : ((szNetwork x0 : Nat) : Int) ≤ 1048576
 rotate_left
 ·rw [lt_remain hs]; rfl
 rw [not_lt_remain hs, cond_false]
 have hA : szNetwork x0 ≤ 1048576 := by omega
 have e0 : szNetwork x0 = (((szL (fun _ => 0)) x0.topology.links) + ((szL szKey) x0.trust.keys + (szL szRule) x0.trust.rules + (szL (szL ByteArray.size)) x0.trust.anchors + (szL szData) x0.trust.certificates) + (szL szTableEntry) x0.producers + (szL szNode) x0.nodes + (szL (fun _ => 0)) x0.failedLinks + (szL szPacketInFlight) x0.inFlight + (szL szConsumer) x0.consumers) := rfl
 have hc := net_cnt x0 hA
 have hC : szL szConsumer x0.consumers ≤ 1048576 := by omega
 have hl := szL_len szConsumer x0.consumers
 have hd : ∀ x ∈ x0.consumers, DatS x.data := fun x hx => by
  have h1 := szL_mem szConsumer hx
  have e : szConsumer x = szL ByteArray.size x.name + (szL ByteArray.size x.data.name + szL (fun _ => 0) x.data.content + szL ByteArray.size x.data.keyName) := rfl
  have h2 := szL_len ByteArray.size x.data.name
  have h3 := szBytes x.data.content
  have h4 := szL_len ByteArray.size x.data.keyName
  exact ⟨by omega, by omega, by omega⟩
 have hz := recv_sz x0.consumers
 have hcd := cntL_64 cData szData c64_Data (recv x0.consumers)
 have hmk : sLmarkNetwork x0 1 = some (mtNetwork x0 1, 1 + ((cntNet x0 : Nat) : Int)) := if_pos ⟨by decide, by unfold cntNet at hc; omega⟩
 have hs2 := p_spec_ReceivedData x0 (by omega) hd
 have hi2 := p_impl_ReceivedData x0 (by omega) hd
 generalize recv x0.consumers = D at hz hcd hs2 hi2
 have hb : (1 : Int) + ((cntL cData D : Nat) : Int) ≤ 1099511627776 := by omega
 have hd1 := p_markDataS D 1 (by decide) hb
 have hd2 := p_heldDataS D 1 (by decide) hb
 have hq := p_eqDataS D (by omega)
 have hb2 : (0 : Int) ≤ 1 + ((cntL cData D : Nat) : Int) := by omega
 simp only [p_toNetwork x0 hA, hs2, hi2, Option.bind_some, hq, p_eqNetwork x0 (by omega), pl_bnot, Bool.not_true, cond_false]
 simp only [hmk, Option.bind_some, lss_no (show (0 : Int) ≤ 1 + ((cntNet x0 : Nat) : Int) by omega), cond_false, hd1, hd2, lss_no hb2, eq_self_i]
end
end Go.Proofs.YtnomkohiiadkjaaGreat
