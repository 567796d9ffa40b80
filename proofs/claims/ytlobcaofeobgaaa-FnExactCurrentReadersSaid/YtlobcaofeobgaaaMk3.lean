/- Marking names, numbers and a controller. -/
import Derived.Test.YtlobcaofeobgaaaMk2
namespace Go.Proofs.Ytlobcaofeobgaaa
open Go.RowKit
set_option linter.unusedVariables false
set_option linter.unusedSimpArgs false
attribute [local go_sem ↓] Go.wp_at_zero Go.wp_at_succ
def ramp (k : Int) (n : Nat) : List Int := (List.range n).map fun i : Nat => k + (i : Int)
theorem ramp_length (k : Int) (n : Nat) : (ramp k n).length = n := by simp [ramp]
theorem ramp_succ (k : Int) (n : Nat) : ramp k (n + 1) = ramp k n ++ [k + (n : Int)] := by simp [ramp, List.range_succ]
theorem ramp_set (k : Int) (l : List Int) (j : Nat) (h : j < l.length) : (ramp k j ++ l.drop j).set j (k + (j : Int)) = ramp k (j + 1) ++ l.drop (j + 1) := by
  rw [List.set_append_right _ _ (by rw [ramp_length]; exact Nat.le_refl _), ramp_length, Nat.sub_self, List.drop_eq_getElem_cons h, List.set_cons_zero, ramp_succ, List.append_assoc]
  rfl
set_option maxRecDepth 100000 in
set_option maxHeartbeats 2000000 in
theorem markIntS_c (v : Value) (l : List Int) (fp : List Nat) (k : Int) (w : World) (h : sInts.ow w [v] l fp) (h0 : 0 ≤ k) (hb : k + l.length ≤ 1099511627776) :
    Calls Try.prog 17 #[v, .int .i64 k] w fun e w' => e = .returned (.int .i64 (k + l.length)) ∧ sInts.ow w' [v] (ramp k l.length) fp ∧ Only fp w w' := by
  obtain ⟨A, c, rfl, hl, hm⟩ := Shape.sl_form (sInts.read h)
  unfold maxLen at hm
  have H := Lib.hid h
  clear h
  go_enter Try.func17, Try.ntmps17
  go_wp2
  go_loopw [1, 5] (fun n i wr => ∃ j : Nat, j ≤ l.length ∧ i = .int .i64 j ∧ n = .int .i64 (k + j) ∧ Hid (sInts.ow wr [.slice A l.length c] (ramp k j ++ l.drop j) fp) ∧ Only fp w wr) (fun _ i _ => l.length - (intOf i).toNat)
  case atStart => exact ⟨0, Nat.zero_le _, rfl, by simp, Lib.hid (by simpa [ramp] using H.out), Only.refl _ _⟩
  case round =>
    obtain ⟨j, hj, rfl, rfl, HL, hx⟩ := hrel
    by_cases hlt : j < l.length
    · have HT := Lib.hid (show (ramp k j ++ l.drop j).length = l.length by rw [List.length_append, ramp_length, List.length_drop]; omega)
      have HR := Lib.hid (ramp_set k l j hlt)
      obtain ⟨g, cap, cs, f, hv, O, os⟩ := Shape.open_at HL.out (i := j) (by rw [HT.out]; exact hlt)
      injection hv with hA hn hc
      subst hA
      subst hc
      obtain ⟨x0, hx0⟩ : ∃ x0 : Int, cs = [.int .i64 x0] ∧ f = [] := ⟨_, os.1.1, os.2⟩
      obtain ⟨rfl, rfl⟩ := hx0
      have f0 := O.cell 0 _ rfl
      have fz := O.frozen (j * 1 + 0)
      have hgl := O.lt
      simp only [show sInts.k = 1 from rfl, show Shape.int.k = 1 from rfl, Nat.mul_one, Nat.add_zero] at f0 fz
      have HO := Lib.hid O
      clear O os hn
      go_wp2
      go_roundw
      case rel =>
        have O2 := HO.out.put (j := 0) (by simp) (.int .i64 (k + (j : Int)))
        simp only [show sInts.k = 1 from rfl, show Shape.int.k = 1 from rfl, Nat.mul_one, Nat.add_zero, List.set_cons_zero] at O2
        refine ⟨j + 1, by omega, by go_num, by first | go_num | (congr 1; omega), Lib.hid ?_, hx.setCell HO.out.memg.1 _⟩
        have := O2.close (x := k + (j : Int)) ⟨⟨rfl, by unfold I64; omega⟩, rfl⟩
        rw [HT.out, HR.out] at this
        exact this
      case measure => simp [intOf]; omega
    · have : j = l.length := by omega
      subst this
      go_wp2
      go_ret
      exact ⟨rfl, by have := HL.out; rwa [List.drop_length, List.append_nil] at this, hx⟩
set_option maxHeartbeats 2000000 in
theorem markName_w (cs : List Value) (n : List ByteArray) (fp : List Nat) (k : Int) (w : World) (h : strs.ow w cs n fp) (h0 : 0 ≤ k) (hb : k + n.length ≤ 1099511627776) :
    Calls Try.prog 16 #[.agg cs.toArray, .int .i64 k] w fun e w' => e = .returned (.int .i64 (k + n.length)) ∧ Only fp w w' := by
  obtain ⟨c0, rfl⟩ := one_cell (strs.len (strs.read h))
  have X0 : Only fp w (w.alloc (.cells #[c0] 38)) := Only.ext ((Ext.refl w).alloc _)
  have H := Lib.hid (strs.keep (fun b hb => Below.heap_alloc _ _ _ (strs.lt h b hb)) h : strs.ow (w.alloc (.cells #[c0] 38)) [c0] n fp)
  clear h
  go_enter Try.func16, Try.ntmps16
  go_wp2_with fail
  refine (markStringS_w _ n fp _ _ H.out (by omega) (by omega)).mono ?_
  rintro e w1 ⟨rfl, _, ho1⟩
  go_wp2
  go_ret
  exact ⟨rfl, X0.trans ho1⟩
theorem cnt_le {α : Type} {c f : α → Nat} (h : ∀ x, c x ≤ 2 * (f x + 1)) : ∀ l : List α, cntL c l ≤ 2 * szL f l
  | [] => by simp [cntL, szL]
  | x :: l => by
    have := cnt_le h l
    have := h x
    simp only [cntL, szL]
    omega
def cController (x : DAccessController) : Nat := cntL cKey x.keys + cntL cReader x.readers
theorem cController_le (x : DAccessController) : cController x ≤ 2 * szAccessController x := by
  have h1 := cnt_le (c := cKey) (f := szKey) (fun x => by unfold cKey szKey; have := szL_len ByteArray.size x.name; omega) x.keys
  have h2 := cnt_le (c := cReader) (f := szReader) (fun x => by unfold cReader szReader; have := szL_len ByteArray.size x.name; omega) x.readers
  unfold cController szAccessController
  omega
theorem Controller_open {w : World} {cs : List Value} {x : DAccessController} {fp : List Nat} (h : sAccessController.ow w cs x fp) : ∃ a0 b0 f1 i2, cs = [a0, .int .i64 x.master, .int .i64 x.epoch, b0] ∧ sKeyL.ow w [a0] x.keys f1 ∧ sReaderL.ow w [b0] x.readers i2 ∧ fp = f1 ++ i2 ∧ (f1 ++ i2).Nodup := by
  obtain ⟨c1, c2, f1, f2, hcs, hk, ⟨d1, d2, g1, g2, hc2, ⟨⟨hd1, _⟩, hg1⟩, ⟨e1, e2, i1, i2, hd2, ⟨⟨he1, _⟩, hi1⟩, hr, hg2, _⟩, hf2, _⟩, hfp, hnd⟩ := h
  obtain ⟨a0, rfl⟩ := one_cell (sKeyL.len (sKeyL.read hk))
  obtain ⟨b0, rfl⟩ := one_cell (sReaderL.len (sReaderL.read hr))
  subst hd1 he1 hi1 hg1 hg2 hd2 hc2 hcs
  simp only [List.nil_append] at hf2
  subst hf2
  exact ⟨a0, b0, f1, f2, rfl, hk, hr, hfp, by rw [← hfp]; exact hnd⟩
set_option maxHeartbeats 2000000 in
theorem markAccessController_w (cs : List Value) (x : DAccessController) (fp : List Nat) (k : Int) (w : World) (h : sAccessController.ow w cs x fp) (h0 : 0 ≤ k) (hb : k + cController x ≤ 1099511627776) :
    Calls Try.prog 15 #[.agg cs.toArray, .int .i64 k] w fun e w' => e = .returned (.int .i64 (k + cController x)) ∧ Only fp w w' := by
  obtain ⟨a0, b0, f1, i2, rfl, hk, hr, rfl, hnd⟩ := Controller_open h
  clear h
  have hdis : ∀ b ∈ i2, b ∉ f1 := fun b hb hb' => (List.nodup_append.1 hnd).2.2 b hb' b hb rfl
  have E0 : Ext w (w.alloc (.cells #[a0, .int .i64 x.master, .int .i64 x.epoch, b0] 36)) := (Ext.refl w).alloc _
  have X0 : Only (f1 ++ i2) w _ := Only.ext E0
  have HK := Lib.hid (sKeyL.keep (fun b hb => E0.block b (sKeyL.lt hk b hb)) hk)
  have HR := Lib.hid (sReaderL.keep (fun b hb => E0.block b (sReaderL.lt hr b hb)) hr)
  have hltf := sKeyL.lt hk
  clear hk hr E0
  unfold cController at hb ⊢
  go_enter Try.func15, Try.ntmps15
  go_wp2_with fail
  refine (markKeyS_w _ x.keys f1 _ _ HK.out (by omega) (by omega)).mono ?_
  rintro e w1 ⟨rfl, _, ho1⟩
  have HR1 := Lib.hid (sReaderL.keepOnly HR.out ho1 hdis)
  have hb1 : w1.cell? ⟨w.heap.size, 3, none⟩ = some b0 := by
    have hlt : w.heap.size < (w.alloc (.cells #[a0, .int .i64 x.master, .int .i64 x.epoch, b0] 36)).heap.size := by simp
    have hni : w.heap.size ∉ f1 := fun hm => by have := hltf _ hm; omega
    have := ho1.block _ hlt hni
    have hc : (w.alloc (.cells #[a0, .int .i64 x.master, .int .i64 x.epoch, b0] 36)).cell? ⟨w.heap.size, 3, none⟩ = some b0 := by simp
    unfold World.cell? at hc ⊢
    rw [this]
    exact hc
  go_wp2_with fail
  refine (markReaderS_w _ x.readers i2 _ _ HR1.out (by omega) (by omega)).mono ?_
  rintro e w2 ⟨rfl, _, ho2⟩
  go_wp2
  go_ret
  refine ⟨ret_int (by omega), (X0.trans (ho1.mono (fun b hb => List.mem_append_left _ hb))).trans (ho2.mono (fun b hb => List.mem_append_right _ hb))⟩
end Go.Proofs.Ytlobcaofeobgaaa
