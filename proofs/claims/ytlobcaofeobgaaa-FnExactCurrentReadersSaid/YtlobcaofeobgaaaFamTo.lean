/- What the families laws.to.. give: a copy in memory of its own. Printed by gen.py. -/
import Derived.Test.YtlobcaofeobgaaaProg
import Derived.Test.YtlobcaofeobgaaaTypes
namespace Go.Proofs.Ytlobcaofeobgaaa
open Go.RowKit
set_option linter.unusedVariables false
set_option linter.unusedSimpArgs false
set_option linter.unusedSectionVars false

set_option maxHeartbeats 400000 in
theorem toStringS_c (v : Value) (l : (List ByteArray)) (w : World) (h : strs.rd w [v] l) (hs : (szL ByteArray.size) l ≤ 1048576) :
    Calls Try.prog 35 #[v] w (Gives strs w l) := by
  obtain ⟨A, c, rfl, hl, hm⟩ := Shape.sl_form h
  unfold maxLen at hm
  have hlen := szL_len ByteArray.size l
  have H := Lib.hid h; clear h
  obtain ⟨i0, hi, hz0, hz1, hz2⟩ := info_parts info_string
  go_enter Try.func35, Try.ntmps35
  go_wp2_with (refine wpList_make_full _ rfl _ _ 26 rfl w.heap.size 9 i0 _ 1 Try.underlying26 hi hz0 hz1 .i64 .i64 _ _ l.length rfl rfl rfl rfl (by rw [hz2]; omega) (by unfold maxLen; omega) (Nat.le_refl _) ?_; intro w1 hown hgr)
  have hF : Shape.Fill Shape.str 9 w.heap.size l.length w1 [] := Shape.Fill.start (v := .bool true) hown
  have hX : Ext w w1 := (Ext.refl w).grown hgr (by simp)
  clear hown hgr hi hz0 hz1 hz2
  go_loopw [4] (fun i wr => ∃ k : Nat, k ≤ l.length ∧ i = .int .i64 k ∧ Shape.Fill Shape.str 9 w.heap.size l.length wr (l.take k) ∧ Ext w wr) (fun i _ => l.length - (intOf i).toNat)
  case atStart => exact ⟨0, Nat.zero_le _, rfl, hF, hX⟩
  case round =>
    clear hF hX w1
    obtain ⟨k, hk, rfl, hF, hx⟩ := hrel
    by_cases hlt : k < l.length
    · have hkl : (l.take k).length = k := by rw [List.length_take]; omega
      have hroom := fun j hj => hF.room (by rw [hkl]; exact hlt) j hj
      rw [hkl] at hroom
      have hsz := szL_at ByteArray.size l k hlt
      obtain ⟨b, off, rfl, hcell, hok⟩ := Shape.str_at (strs.ext hx H.out) hlt
      obtain ⟨⟨u0, hu0⟩, hz0⟩ := hroom 0 (by decide)
      simp only [Nat.add_zero, show Shape.str.k = 1 from rfl, Nat.mul_one] at hu0 hz0
      have HK := Lib.hid hkl; clear hkl hroom
      go_wp2
      have hkl := HK.out
      have hst := hF.step (Ext.refl _) (x := l[k]) (Shape.own_str hok) (by rw [hkl]; exact hlt)
      rw [hkl, ← List.take_succ_eq_append_getElem hlt] at hst
      have hlo : w.heap.size ≤ w.heap.size := Nat.le_refl _
      go_roundw
      case rel => exact ⟨k + 1, by omega, by go_num, by simpa [Shape.putRow, Shape.str, Shape.one] using hst, hx.setCell (Nat.le_refl _) _⟩
      case measure => simp [intOf]; omega
    · have : k = l.length := by omega
      subst this
      rw [List.take_length] at hF
      go_wp2
      go_ret
      exact ⟨⟨_, rfl, hF.done rfl (by unfold maxLen; omega)⟩, hx⟩

set_option maxHeartbeats 400000 in
theorem toName_c (cs : List Value) (x : (List ByteArray)) (w : World) (h : strs.rd w cs x) (hs : (szL ByteArray.size) x ≤ 1048576) :
    Calls Try.prog 10 #[.agg cs.toArray] w (GivesA strs w x) := by
  have r0 := h; obtain ⟨c0, rfl⟩ := one_cell (strs.len h)
  go_enter Try.func10, Try.ntmps10
  go_wp2_with fail
  refine (toStringS_c _ x _ (strs.ext (by (repeat (refine Ext.setCell ?_ (by omega) _)); exact (((Ext.refl w).alloc _).alloc _).alloc _) r0) (by omega)).mono ?_
  rintro e w0 ⟨⟨r0', rfl, O0'⟩, hx0⟩
  have hn0 : w.heap.size + 1 + 1 + 1 ≤ w0.heap.size := by have := hx0.size; simpa [World.setCell] using this
  obtain ⟨A0, k0, rfl, _, _⟩ := Shape.sl_form O0'.rd
  have O0 : strs.own (w.heap.size + 1 + 1 + 1) w0.heap.size w0 [.slice A0 x.length k0] x := by simpa [World.setCell] using O0'
  clear O0'
  have bp : Blk w0 (w.heap.size) 28 #[c0] := Blk.ext hx0 (by (repeat (refine Blk.far ?_ (by omega) _)); exact ((Blk.new w _ _).alloc _).alloc _)
  have br : Blk w0 (w.heap.size + 1) 38 #[.slice none 0 0] := Blk.ext hx0 (by (repeat (refine Blk.far ?_ (by omega) _)); exact (Blk.new_at (by simp)).alloc _)
  have bo : Blk w0 (w.heap.size + 1 + 1) 38 #[.slice none 0 0] := Blk.ext hx0 (Blk.new_at (by simp))
  have E0 : Ext w w0 := Ext.trans (by (repeat (refine Ext.setCell ?_ (by omega) _)); exact (((Ext.refl w).alloc _).alloc _).alloc _) hx0

  clear hx0
  have fp0 : w0.cell? ⟨w.heap.size, 0, none⟩ = some (c0) := bp.cell 0
  have fo0 : w0.cell? ⟨w.heap.size + 1 + 1, 0, none⟩ = some (.slice none 0 0) := bo.cell 0
  have fr0 : w0.cell? ⟨w.heap.size + 1, 0, none⟩ = some (.slice none 0 0) := br.cell 0
  have zo0 : w0.frozen? ⟨w.heap.size + 1 + 1, 0, none⟩ = false := bo.frozen 0
  have zr0 : w0.frozen? ⟨w.heap.size + 1, 0, none⟩ = false := br.frozen 0
  go_wp2
  refine bodyPost_ret (v := .agg #[.slice A0 x.length k0]) (by simp [results, Try.results10, go_sem, fr0]) rfl ⟨⟨_, rfl, ?_⟩, ?_⟩
  · have hsz : ∀ (W : World) (p : Addr) (u : Value), (W.setCell p u).heap.size = W.heap.size := fun W p u => by simp [World.setCell]
    simp only [hsz]
    have QF := fun W => fun h : Fr (w.heap.size + 1 + 1 + 1) w0 W => h
    clear QF
    refine Shape.own.wide (lo := w.heap.size + 1 + 1 + 1) (hi := w0.heap.size) ?_ (by omega) (by omega)
    exact Shape.own.fr (N := w.heap.size + 1 + 1 + 1) O0 (by (repeat (refine Fr.setCell ?_ (by omega) _)); exact Fr.refl _ _) (by omega) (by omega)
  · (repeat (refine Ext.setCell ?_ (by omega) _)); exact E0

set_option maxHeartbeats 400000 in
theorem toKey_c (cs : List Value) (x : DKey) (w : World) (h : sKey.rd w cs x) (hs : szKey x ≤ 1048576) :
    Calls Try.prog 67 #[.agg cs.toArray] w (GivesA sKey w x) := by
  obtain ⟨c0, rfl, r0, r1⟩ := sKey_rd h
  unfold szKey at hs
  go_enter Try.func67, Try.ntmps67
  go_wp2_with fail
  refine (toName_c _ x.name _ (strs.ext (by (repeat (refine Ext.setCell ?_ (by omega) _)); exact (((Ext.refl w).alloc _).alloc _).alloc _) r0) (by omega)).mono ?_
  rintro e w0 ⟨⟨r0', rfl, O0'⟩, hx0⟩
  have hn0 : w.heap.size + 1 + 1 + 1 ≤ w0.heap.size := by have := hx0.size; simpa [World.setCell] using this
  obtain ⟨d0, rfl⟩ := one_cell (strs.len O0'.rd)
  obtain ⟨A0, k0, rfl, _, _⟩ := Shape.sl_form O0'.rd
  have O0 : strs.own (w.heap.size + 1 + 1 + 1) w0.heap.size w0 [.slice A0 x.name.length k0] x.name := by simpa [World.setCell] using O0'
  clear O0'
  have bp : Blk w0 (w.heap.size) 98 #[c0, .int .i64 x.secret] := Blk.ext hx0 (by (repeat (refine Blk.far ?_ (by omega) _)); exact ((Blk.new w _ _).alloc _).alloc _)
  have br : Blk w0 (w.heap.size + 1) 103 #[.slice none 0 0, .int .i64 0] := Blk.ext hx0 (by (repeat (refine Blk.far ?_ (by omega) _)); exact (Blk.new_at (by simp)).alloc _)
  have bo : Blk w0 (w.heap.size + 1 + 1) 103 #[.slice none 0 0, .int .i64 0] := Blk.ext hx0 (Blk.new_at (by simp))
  have E0 : Ext w w0 := Ext.trans (by (repeat (refine Ext.setCell ?_ (by omega) _)); exact (((Ext.refl w).alloc _).alloc _).alloc _) hx0

  clear hx0
  have fp0 : w0.cell? ⟨w.heap.size, 0, none⟩ = some (c0) := bp.cell 0
  have fo0 : w0.cell? ⟨w.heap.size + 1 + 1, 0, none⟩ = some (.slice none 0 0) := bo.cell 0
  have fr0 : w0.cell? ⟨w.heap.size + 1, 0, none⟩ = some (.slice none 0 0) := br.cell 0
  have zo0 : w0.frozen? ⟨w.heap.size + 1 + 1, 0, none⟩ = false := bo.frozen 0
  have zr0 : w0.frozen? ⟨w.heap.size + 1, 0, none⟩ = false := br.frozen 0
  have fp1 : w0.cell? ⟨w.heap.size, 1, none⟩ = some (.int .i64 x.secret) := bp.cell 1
  have fo1 : w0.cell? ⟨w.heap.size + 1 + 1, 1, none⟩ = some (.int .i64 0) := bo.cell 1
  have fr1 : w0.cell? ⟨w.heap.size + 1, 1, none⟩ = some (.int .i64 0) := br.cell 1
  have zo1 : w0.frozen? ⟨w.heap.size + 1 + 1, 1, none⟩ = false := bo.frozen 1
  have zr1 : w0.frozen? ⟨w.heap.size + 1, 1, none⟩ = false := br.frozen 1
  go_wp2
  refine bodyPost_ret (v := .agg #[.slice A0 x.name.length k0, .int .i64 x.secret]) (by simp [results, Try.results67, go_sem, fr0, fr1]) rfl ⟨⟨_, rfl, ?_⟩, ?_⟩
  · have hsz : ∀ (W : World) (p : Addr) (u : Value), (W.setCell p u).heap.size = W.heap.size := fun W p u => by simp [World.setCell]
    simp only [hsz]
    have QF := fun W => fun h : Fr (w.heap.size + 1 + 1 + 1) w0 W => h
    clear QF
    refine Shape.own.via ?_
    refine Shape.own.pair (lo := w.heap.size) (m := w0.heap.size) (m' := w0.heap.size) (cs := [_]) ?_ (by omega) ?_ (by omega) (by omega)
    · refine Shape.own.wide (lo := w.heap.size + 1 + 1 + 1) (hi := w0.heap.size) ?_ (by omega) (by omega)
      exact Shape.own.fr (N := w.heap.size + 1 + 1 + 1) O0 (by (repeat (refine Fr.setCell ?_ (by omega) _)); exact Fr.refl _ _) (by omega) (by omega)
    exact Shape.own_int r1
  · (repeat (refine Ext.setCell ?_ (by omega) _)); exact E0

set_option maxHeartbeats 400000 in
theorem toKeyS_c (v : Value) (l : (List DKey)) (w : World) (h : sKeyL.rd w [v] l) (hs : (szL szKey) l ≤ 1048576) :
    Calls Try.prog 33 #[v] w (Gives sKeyL w l) := by
  obtain ⟨A, c, rfl, hl, hm⟩ := Shape.sl_form h
  unfold maxLen at hm
  have hlen := szL_len szKey l
  have H := Lib.hid h; clear h
  obtain ⟨i0, hi, hz0, hz1, hz2⟩ := info_parts info_Key
  go_enter Try.func33, Try.ntmps33
  go_wp2_with (refine wpList_make_full _ rfl _ _ 33 rfl w.heap.size 103 i0 _ 2 Try.underlying33 hi hz0 hz1 .i64 .i64 _ _ l.length rfl rfl rfl rfl (by rw [hz2]; omega) (by unfold maxLen; omega) (Nat.le_refl _) ?_; intro w1 hown hgr)
  have hF : Shape.Fill sKey 103 w.heap.size l.length w1 [] := Shape.Fill.start (v := .bool true) hown
  have hX : Ext w w1 := (Ext.refl w).grown hgr (by simp)
  clear hown hgr hi hz0 hz1 hz2
  go_loopw [4] (fun i wr => ∃ k : Nat, k ≤ l.length ∧ i = .int .i64 k ∧ Shape.Fill sKey 103 w.heap.size l.length wr (l.take k) ∧ Ext w wr) (fun i _ => l.length - (intOf i).toNat)
  case atStart => exact ⟨0, Nat.zero_le _, rfl, hF, hX⟩
  case round =>
    clear hF hX w1
    obtain ⟨k, hk, rfl, hF, hx⟩ := hrel
    by_cases hlt : k < l.length
    · have hkl : (l.take k).length = k := by rw [List.length_take]; omega
      have hroom := fun j hj => hF.room (by rw [hkl]; exact hlt) j hj
      rw [hkl] at hroom
      have hsz := szL_at szKey l k hlt
      obtain ⟨b, off, es, rfl, hc, hr⟩ := Shape.sl_at (sKeyL.ext hx H.out) hlt
      have hr' := hr
      obtain ⟨c0, rfl, r0, r1⟩ := sKey_rd hr
      have f0 := hc 0 _ rfl
      have f1 := hc 1 _ rfl
      simp only [Nat.add_zero, show sKey.k = 2 from rfl, Nat.mul_one] at f0 f1
      have HK := Lib.hid hkl; clear hkl hc
      go_wp2_with fail
      refine (toKey_c _ l[k] _ hr' (by omega)).mono ?_
      rintro e w1 ⟨⟨r, rfl, hO⟩, hx1⟩
      obtain ⟨d0, rfl, s0, s1⟩ := sKey_rd hO.rd
      have hF1 := hF.ext hx1
      have hroom := fun j hj => hF1.room (by rw [HK.out]; exact hlt) j hj
      rw [HK.out] at hroom
      obtain ⟨⟨u0, hu0⟩, hz0⟩ := hroom 0 (by decide)
      obtain ⟨⟨u1, hu1⟩, hz1⟩ := hroom 1 (by decide)
      simp only [Nat.add_zero, show sKey.k = 2 from rfl, Nat.mul_one] at hu0 hz0 hu1 hz1
      obtain ⟨A_0, k_0, rfl, _, _⟩ := Shape.sl_form (sKey_f0 hO.rd)
      clear hroom
      have hg : w.heap.size < w1.heap.size := hF1.lt
      go_wp2
      have hkl := HK.out
      have hst := hF.step hx1 hO (by rw [hkl]; exact hlt)
      rw [hkl, ← List.take_succ_eq_append_getElem hlt] at hst
      go_roundw
      case rel => exact ⟨k + 1, by omega, by go_num, by simpa [Shape.putRow, show sKey.k = 2 from rfl] using hst, (by (repeat (refine Ext.setCell ?_ (Nat.le_refl _) _)); exact hx.trans hx1)⟩
      case measure => simp [intOf]; omega
    · have : k = l.length := by omega
      subst this
      rw [List.take_length] at hF
      go_wp2
      go_ret
      exact ⟨⟨_, rfl, hF.done rfl (by unfold maxLen; omega)⟩, hx⟩

set_option maxHeartbeats 400000 in
theorem toReader_c (cs : List Value) (x : DReader) (w : World) (h : sReader.rd w cs x) (hs : szReader x ≤ 1048576) :
    Calls Try.prog 68 #[.agg cs.toArray] w (GivesA sReader w x) := by
  obtain ⟨c1, rfl, r0, r1, r2⟩ := sReader_rd h
  unfold szReader at hs
  go_enter Try.func68, Try.ntmps68
  go_wp2_with fail
  refine (toName_c _ x.name _ (strs.ext (by (repeat (refine Ext.setCell ?_ (by omega) _)); exact (((Ext.refl w).alloc _).alloc _).alloc _) r1) (by omega)).mono ?_
  rintro e w0 ⟨⟨r1', rfl, O0'⟩, hx0⟩
  have hn0 : w.heap.size + 1 + 1 + 1 ≤ w0.heap.size := by have := hx0.size; simpa [World.setCell] using this
  obtain ⟨d1, rfl⟩ := one_cell (strs.len O0'.rd)
  obtain ⟨A0, k0, rfl, _, _⟩ := Shape.sl_form O0'.rd
  have O0 : strs.own (w.heap.size + 1 + 1 + 1) w0.heap.size w0 [.slice A0 x.name.length k0] x.name := by simpa [World.setCell] using O0'
  clear O0'
  have bp : Blk w0 (w.heap.size) 101 #[.int .i64 x.node, c1, .int .i64 x.epoch] := Blk.ext hx0 (by (repeat (refine Blk.far ?_ (by omega) _)); exact ((Blk.new w _ _).alloc _).alloc _)
  have br : Blk w0 (w.heap.size + 1) 106 #[.int .i64 0, .slice none 0 0, .int .i64 0] := Blk.ext hx0 (by (repeat (refine Blk.far ?_ (by omega) _)); exact (Blk.new_at (by simp)).alloc _)
  have bo : Blk w0 (w.heap.size + 1 + 1) 106 #[.int .i64 x.node, .slice none 0 0, .int .i64 0] := Blk.ext hx0 (Blk.new_at (by simp))
  have E0 : Ext w w0 := Ext.trans (by (repeat (refine Ext.setCell ?_ (by omega) _)); exact (((Ext.refl w).alloc _).alloc _).alloc _) hx0

  clear hx0
  have fp0 : w0.cell? ⟨w.heap.size, 0, none⟩ = some (.int .i64 x.node) := bp.cell 0
  have fo0 : w0.cell? ⟨w.heap.size + 1 + 1, 0, none⟩ = some (.int .i64 x.node) := bo.cell 0
  have fr0 : w0.cell? ⟨w.heap.size + 1, 0, none⟩ = some (.int .i64 0) := br.cell 0
  have zo0 : w0.frozen? ⟨w.heap.size + 1 + 1, 0, none⟩ = false := bo.frozen 0
  have zr0 : w0.frozen? ⟨w.heap.size + 1, 0, none⟩ = false := br.frozen 0
  have fp1 : w0.cell? ⟨w.heap.size, 1, none⟩ = some (c1) := bp.cell 1
  have fo1 : w0.cell? ⟨w.heap.size + 1 + 1, 1, none⟩ = some (.slice none 0 0) := bo.cell 1
  have fr1 : w0.cell? ⟨w.heap.size + 1, 1, none⟩ = some (.slice none 0 0) := br.cell 1
  have zo1 : w0.frozen? ⟨w.heap.size + 1 + 1, 1, none⟩ = false := bo.frozen 1
  have zr1 : w0.frozen? ⟨w.heap.size + 1, 1, none⟩ = false := br.frozen 1
  have fp2 : w0.cell? ⟨w.heap.size, 2, none⟩ = some (.int .i64 x.epoch) := bp.cell 2
  have fo2 : w0.cell? ⟨w.heap.size + 1 + 1, 2, none⟩ = some (.int .i64 0) := bo.cell 2
  have fr2 : w0.cell? ⟨w.heap.size + 1, 2, none⟩ = some (.int .i64 0) := br.cell 2
  have zo2 : w0.frozen? ⟨w.heap.size + 1 + 1, 2, none⟩ = false := bo.frozen 2
  have zr2 : w0.frozen? ⟨w.heap.size + 1, 2, none⟩ = false := br.frozen 2
  go_wp2
  refine bodyPost_ret (v := .agg #[.int .i64 x.node, .slice A0 x.name.length k0, .int .i64 x.epoch]) (by simp [results, Try.results68, go_sem, fr0, fr1, fr2]) rfl ⟨⟨_, rfl, ?_⟩, ?_⟩
  · have hsz : ∀ (W : World) (p : Addr) (u : Value), (W.setCell p u).heap.size = W.heap.size := fun W p u => by simp [World.setCell]
    simp only [hsz]
    have QF := fun W => fun h : Fr (w.heap.size + 1 + 1 + 1) w0 W => h
    clear QF
    refine Shape.own.via ?_
    refine Shape.own.pair (lo := w.heap.size) (m := w.heap.size) (m' := w.heap.size) (cs := [_]) ?_ (by omega) ?_ (by omega) (by omega)
    · exact Shape.own_int r0
    refine Shape.own.pair (lo := w.heap.size) (m := w0.heap.size) (m' := w0.heap.size) (cs := [_]) ?_ (by omega) ?_ (by omega) (by omega)
    · refine Shape.own.wide (lo := w.heap.size + 1 + 1 + 1) (hi := w0.heap.size) ?_ (by omega) (by omega)
      exact Shape.own.fr (N := w.heap.size + 1 + 1 + 1) O0 (by (repeat (refine Fr.setCell ?_ (by omega) _)); exact Fr.refl _ _) (by omega) (by omega)
    exact Shape.own_int r2
  · (repeat (refine Ext.setCell ?_ (by omega) _)); exact E0

set_option maxHeartbeats 400000 in
theorem toReaderS_c (v : Value) (l : (List DReader)) (w : World) (h : sReaderL.rd w [v] l) (hs : (szL szReader) l ≤ 1048576) :
    Calls Try.prog 34 #[v] w (Gives sReaderL w l) := by
  obtain ⟨A, c, rfl, hl, hm⟩ := Shape.sl_form h
  unfold maxLen at hm
  have hlen := szL_len szReader l
  have H := Lib.hid h; clear h
  obtain ⟨i0, hi, hz0, hz1, hz2⟩ := info_parts info_Reader
  go_enter Try.func34, Try.ntmps34
  go_wp2_with (refine wpList_make_full _ rfl _ _ 34 rfl w.heap.size 106 i0 _ 3 Try.underlying34 hi hz0 hz1 .i64 .i64 _ _ l.length rfl rfl rfl rfl (by rw [hz2]; omega) (by unfold maxLen; omega) (Nat.le_refl _) ?_; intro w1 hown hgr)
  have hF : Shape.Fill sReader 106 w.heap.size l.length w1 [] := Shape.Fill.start (v := .bool true) hown
  have hX : Ext w w1 := (Ext.refl w).grown hgr (by simp)
  clear hown hgr hi hz0 hz1 hz2
  go_loopw [4] (fun i wr => ∃ k : Nat, k ≤ l.length ∧ i = .int .i64 k ∧ Shape.Fill sReader 106 w.heap.size l.length wr (l.take k) ∧ Ext w wr) (fun i _ => l.length - (intOf i).toNat)
  case atStart => exact ⟨0, Nat.zero_le _, rfl, hF, hX⟩
  case round =>
    clear hF hX w1
    obtain ⟨k, hk, rfl, hF, hx⟩ := hrel
    by_cases hlt : k < l.length
    · have hkl : (l.take k).length = k := by rw [List.length_take]; omega
      have hroom := fun j hj => hF.room (by rw [hkl]; exact hlt) j hj
      rw [hkl] at hroom
      have hsz := szL_at szReader l k hlt
      obtain ⟨b, off, es, rfl, hc, hr⟩ := Shape.sl_at (sReaderL.ext hx H.out) hlt
      have hr' := hr
      obtain ⟨c1, rfl, r0, r1, r2⟩ := sReader_rd hr
      have f0 := hc 0 _ rfl
      have f1 := hc 1 _ rfl
      have f2 := hc 2 _ rfl
      simp only [Nat.add_zero, show sReader.k = 3 from rfl, Nat.mul_one] at f0 f1 f2
      have HK := Lib.hid hkl; clear hkl hc
      go_wp2_with fail
      refine (toReader_c _ l[k] _ hr' (by omega)).mono ?_
      rintro e w1 ⟨⟨r, rfl, hO⟩, hx1⟩
      obtain ⟨d1, rfl, s0, s1, s2⟩ := sReader_rd hO.rd
      have hF1 := hF.ext hx1
      have hroom := fun j hj => hF1.room (by rw [HK.out]; exact hlt) j hj
      rw [HK.out] at hroom
      obtain ⟨⟨u0, hu0⟩, hz0⟩ := hroom 0 (by decide)
      obtain ⟨⟨u1, hu1⟩, hz1⟩ := hroom 1 (by decide)
      obtain ⟨⟨u2, hu2⟩, hz2⟩ := hroom 2 (by decide)
      simp only [Nat.add_zero, show sReader.k = 3 from rfl, Nat.mul_one] at hu0 hz0 hu1 hz1 hu2 hz2
      obtain ⟨A_1, k_1, rfl, _, _⟩ := Shape.sl_form (sReader_f1 hO.rd)
      clear hroom
      have hg : w.heap.size < w1.heap.size := hF1.lt
      go_wp2
      have hkl := HK.out
      have hst := hF.step hx1 hO (by rw [hkl]; exact hlt)
      rw [hkl, ← List.take_succ_eq_append_getElem hlt] at hst
      go_roundw
      case rel => exact ⟨k + 1, by omega, by go_num, by simpa [Shape.putRow, show sReader.k = 3 from rfl] using hst, (by (repeat (refine Ext.setCell ?_ (Nat.le_refl _) _)); exact hx.trans hx1)⟩
      case measure => simp [intOf]; omega
    · have : k = l.length := by omega
      subst this
      rw [List.take_length] at hF
      go_wp2
      go_ret
      exact ⟨⟨_, rfl, hF.done rfl (by unfold maxLen; omega)⟩, hx⟩

set_option maxHeartbeats 400000 in
theorem toAccessController_c (cs : List Value) (x : DAccessController) (w : World) (h : sAccessController.rd w cs x) (hs : szAccessController x ≤ 1048576) :
    Calls Try.prog 9 #[.agg cs.toArray] w (GivesA sAccessController w x) := by
  obtain ⟨c0, c3, rfl, r0, r1, r2, r3⟩ := sAccessController_rd h
  unfold szAccessController at hs
  go_enter Try.func9, Try.ntmps9
  go_wp2_with fail
  refine (toKeyS_c _ x.keys _ (sKeyL.ext (by (repeat (refine Ext.setCell ?_ (by omega) _)); exact (((Ext.refl w).alloc _).alloc _).alloc _) r0) (by omega)).mono ?_
  rintro e w0 ⟨⟨r0', rfl, O0'⟩, hx0⟩
  have hn0 : w.heap.size + 1 + 1 + 1 ≤ w0.heap.size := by have := hx0.size; simpa [World.setCell] using this
  obtain ⟨A0, k0, rfl, _, _⟩ := Shape.sl_form O0'.rd
  have O0 : sKeyL.own (w.heap.size + 1 + 1 + 1) w0.heap.size w0 [.slice A0 x.keys.length k0] x.keys := by simpa [World.setCell] using O0'
  clear O0'
  have bp : Blk w0 (w.heap.size) 25 #[c0, .int .i64 x.master, .int .i64 x.epoch, c3] := Blk.ext hx0 (by (repeat (refine Blk.far ?_ (by omega) _)); exact ((Blk.new w _ _).alloc _).alloc _)
  have br : Blk w0 (w.heap.size + 1) 36 #[.slice none 0 0, .int .i64 0, .int .i64 0, .slice none 0 0] := Blk.ext hx0 (by (repeat (refine Blk.far ?_ (by omega) _)); exact (Blk.new_at (by simp)).alloc _)
  have bo : Blk w0 (w.heap.size + 1 + 1) 36 #[.slice none 0 0, .int .i64 0, .int .i64 0, .slice none 0 0] := Blk.ext hx0 (Blk.new_at (by simp))
  have E0 : Ext w w0 := Ext.trans (by (repeat (refine Ext.setCell ?_ (by omega) _)); exact (((Ext.refl w).alloc _).alloc _).alloc _) hx0

  clear hx0
  have fp0 : w0.cell? ⟨w.heap.size, 0, none⟩ = some (c0) := bp.cell 0
  have fo0 : w0.cell? ⟨w.heap.size + 1 + 1, 0, none⟩ = some (.slice none 0 0) := bo.cell 0
  have fr0 : w0.cell? ⟨w.heap.size + 1, 0, none⟩ = some (.slice none 0 0) := br.cell 0
  have zo0 : w0.frozen? ⟨w.heap.size + 1 + 1, 0, none⟩ = false := bo.frozen 0
  have zr0 : w0.frozen? ⟨w.heap.size + 1, 0, none⟩ = false := br.frozen 0
  have fp1 : w0.cell? ⟨w.heap.size, 1, none⟩ = some (.int .i64 x.master) := bp.cell 1
  have fo1 : w0.cell? ⟨w.heap.size + 1 + 1, 1, none⟩ = some (.int .i64 0) := bo.cell 1
  have fr1 : w0.cell? ⟨w.heap.size + 1, 1, none⟩ = some (.int .i64 0) := br.cell 1
  have zo1 : w0.frozen? ⟨w.heap.size + 1 + 1, 1, none⟩ = false := bo.frozen 1
  have zr1 : w0.frozen? ⟨w.heap.size + 1, 1, none⟩ = false := br.frozen 1
  have fp2 : w0.cell? ⟨w.heap.size, 2, none⟩ = some (.int .i64 x.epoch) := bp.cell 2
  have fo2 : w0.cell? ⟨w.heap.size + 1 + 1, 2, none⟩ = some (.int .i64 0) := bo.cell 2
  have fr2 : w0.cell? ⟨w.heap.size + 1, 2, none⟩ = some (.int .i64 0) := br.cell 2
  have zo2 : w0.frozen? ⟨w.heap.size + 1 + 1, 2, none⟩ = false := bo.frozen 2
  have zr2 : w0.frozen? ⟨w.heap.size + 1, 2, none⟩ = false := br.frozen 2
  have fp3 : w0.cell? ⟨w.heap.size, 3, none⟩ = some (c3) := bp.cell 3
  have fo3 : w0.cell? ⟨w.heap.size + 1 + 1, 3, none⟩ = some (.slice none 0 0) := bo.cell 3
  have fr3 : w0.cell? ⟨w.heap.size + 1, 3, none⟩ = some (.slice none 0 0) := br.cell 3
  have zo3 : w0.frozen? ⟨w.heap.size + 1 + 1, 3, none⟩ = false := bo.frozen 3
  have zr3 : w0.frozen? ⟨w.heap.size + 1, 3, none⟩ = false := br.frozen 3
  go_wp2_with fail
  refine (toReaderS_c _ x.readers _ (sReaderL.ext (by (repeat (refine Ext.setCell ?_ (by omega) _)); exact E0) r3) (by omega)).mono ?_
  rintro e w1 ⟨⟨r3', rfl, O1'⟩, hx1⟩
  have hn1 : w0.heap.size ≤ w1.heap.size := by have := hx1.size; simpa [World.setCell] using this
  obtain ⟨A1, k1, rfl, _, _⟩ := Shape.sl_form O1'.rd
  have O1 : sReaderL.own (w0.heap.size) w1.heap.size w1 [.slice A1 x.readers.length k1] x.readers := by simpa [World.setCell] using O1'
  clear O1'
  replace bp : Blk w1 (w.heap.size) 25 #[c0, .int .i64 x.master, .int .i64 x.epoch, c3] := Blk.ext hx1 (by (repeat (refine Blk.far ?_ (by omega) _)); exact bp)
  replace br : Blk w1 (w.heap.size + 1) 36 #[.slice none 0 0, .int .i64 0, .int .i64 0, .slice none 0 0] := Blk.ext hx1 (by (repeat (refine Blk.far ?_ (by omega) _)); exact br)
  replace bo : Blk w1 (w.heap.size + 1 + 1) 36 #[.slice A0 x.keys.length k0, .int .i64 x.master, .int .i64 x.epoch, .slice none 0 0] := Blk.ext hx1 (by simpa using (Blk.set_ ((Blk.set_ ((Blk.set_ (bo) 0 _)) 1 _)) 2 _))
  have E1 : Ext w w1 := Ext.trans (by (repeat (refine Ext.setCell ?_ (by omega) _)); exact E0) hx1
  have Q1 : Fr (w.heap.size + 1 + 1 + 1) w0 w1 := Fr.trans (by (repeat (refine Fr.setCell ?_ (by omega) _)); exact Fr.refl _ _) (Fr.ext hx1)
  clear hx1
  clear fp0 fo0 fr0 zo0 zr0 fp1 fo1 fr1 zo1 zr1 fp2 fo2 fr2 zo2 zr2 fp3 fo3 fr3 zo3 zr3
  have fp0 : w1.cell? ⟨w.heap.size, 0, none⟩ = some (c0) := bp.cell 0
  have fo0 : w1.cell? ⟨w.heap.size + 1 + 1, 0, none⟩ = some (.slice A0 x.keys.length k0) := bo.cell 0
  have fr0 : w1.cell? ⟨w.heap.size + 1, 0, none⟩ = some (.slice none 0 0) := br.cell 0
  have zo0 : w1.frozen? ⟨w.heap.size + 1 + 1, 0, none⟩ = false := bo.frozen 0
  have zr0 : w1.frozen? ⟨w.heap.size + 1, 0, none⟩ = false := br.frozen 0
  have fp1 : w1.cell? ⟨w.heap.size, 1, none⟩ = some (.int .i64 x.master) := bp.cell 1
  have fo1 : w1.cell? ⟨w.heap.size + 1 + 1, 1, none⟩ = some (.int .i64 x.master) := bo.cell 1
  have fr1 : w1.cell? ⟨w.heap.size + 1, 1, none⟩ = some (.int .i64 0) := br.cell 1
  have zo1 : w1.frozen? ⟨w.heap.size + 1 + 1, 1, none⟩ = false := bo.frozen 1
  have zr1 : w1.frozen? ⟨w.heap.size + 1, 1, none⟩ = false := br.frozen 1
  have fp2 : w1.cell? ⟨w.heap.size, 2, none⟩ = some (.int .i64 x.epoch) := bp.cell 2
  have fo2 : w1.cell? ⟨w.heap.size + 1 + 1, 2, none⟩ = some (.int .i64 x.epoch) := bo.cell 2
  have fr2 : w1.cell? ⟨w.heap.size + 1, 2, none⟩ = some (.int .i64 0) := br.cell 2
  have zo2 : w1.frozen? ⟨w.heap.size + 1 + 1, 2, none⟩ = false := bo.frozen 2
  have zr2 : w1.frozen? ⟨w.heap.size + 1, 2, none⟩ = false := br.frozen 2
  have fp3 : w1.cell? ⟨w.heap.size, 3, none⟩ = some (c3) := bp.cell 3
  have fo3 : w1.cell? ⟨w.heap.size + 1 + 1, 3, none⟩ = some (.slice none 0 0) := bo.cell 3
  have fr3 : w1.cell? ⟨w.heap.size + 1, 3, none⟩ = some (.slice none 0 0) := br.cell 3
  have zo3 : w1.frozen? ⟨w.heap.size + 1 + 1, 3, none⟩ = false := bo.frozen 3
  have zr3 : w1.frozen? ⟨w.heap.size + 1, 3, none⟩ = false := br.frozen 3
  go_wp2
  refine bodyPost_ret (v := .agg #[.slice A0 x.keys.length k0, .int .i64 x.master, .int .i64 x.epoch, .slice A1 x.readers.length k1]) (by simp [results, Try.results9, go_sem, fr0, fr1, fr2, fr3]) rfl ⟨⟨_, rfl, ?_⟩, ?_⟩
  · have hsz : ∀ (W : World) (p : Addr) (u : Value), (W.setCell p u).heap.size = W.heap.size := fun W p u => by simp [World.setCell]
    simp only [hsz]
    have QF := fun W => fun h : Fr (w.heap.size + 1 + 1 + 1) w1 W => h
    clear QF
    refine Shape.own.via ?_
    refine Shape.own.pair (lo := w.heap.size) (m := w0.heap.size) (m' := w0.heap.size) (cs := [_]) ?_ (by omega) ?_ (by omega) (by omega)
    · refine Shape.own.wide (lo := w.heap.size + 1 + 1 + 1) (hi := w0.heap.size) ?_ (by omega) (by omega)
      exact Shape.own.fr (N := w.heap.size + 1 + 1 + 1) (O0.fr Q1 (by omega) (by omega)) (by (repeat (refine Fr.setCell ?_ (by omega) _)); exact Fr.refl _ _) (by omega) (by omega)
    refine Shape.own.pair (lo := w0.heap.size) (m := w0.heap.size) (m' := w0.heap.size) (cs := [_]) ?_ (by omega) ?_ (by omega) (by omega)
    · exact Shape.own_int r1
    refine Shape.own.pair (lo := w0.heap.size) (m := w0.heap.size) (m' := w0.heap.size) (cs := [_]) ?_ (by omega) ?_ (by omega) (by omega)
    · exact Shape.own_int r2
    refine Shape.own.wide (lo := w0.heap.size) (hi := w1.heap.size) ?_ (by omega) (by omega)
    exact Shape.own.fr (N := w.heap.size + 1 + 1 + 1) O1 (by (repeat (refine Fr.setCell ?_ (by omega) _)); exact Fr.refl _ _) (by omega) (by omega)
  · (repeat (refine Ext.setCell ?_ (by omega) _)); exact E1

set_option maxHeartbeats 400000 in
theorem toIntS_c (v : Value) (l : (List Int)) (w : World) (h : sInts.rd w [v] l) (hs : (szL (fun _ => 0)) l ≤ 1048576) :
    Calls Try.prog 25 #[v] w (Gives sInts w l) := by
  obtain ⟨A, c, rfl, hl, hm⟩ := Shape.sl_form h
  unfold maxLen at hm
  have hlen := szL_len (fun _ => 0) l
  have H := Lib.hid h; clear h
  obtain ⟨i0, hi, hz0, hz1, hz2⟩ := info_parts info_int
  go_enter Try.func25, Try.ntmps25
  go_wp2_with (refine wpList_make_full _ rfl _ _ 31 rfl w.heap.size 3 i0 _ 1 Try.underlying31 hi hz0 hz1 .i64 .i64 _ _ l.length rfl rfl rfl rfl (by rw [hz2]; omega) (by unfold maxLen; omega) (Nat.le_refl _) ?_; intro w1 hown hgr)
  have hF : Shape.Fill Shape.int 3 w.heap.size l.length w1 [] := Shape.Fill.start (v := .bool true) hown
  have hX : Ext w w1 := (Ext.refl w).grown hgr (by simp)
  clear hown hgr hi hz0 hz1 hz2
  go_loopw [4] (fun i wr => ∃ k : Nat, k ≤ l.length ∧ i = .int .i64 k ∧ Shape.Fill Shape.int 3 w.heap.size l.length wr (l.take k) ∧ Ext w wr) (fun i _ => l.length - (intOf i).toNat)
  case atStart => exact ⟨0, Nat.zero_le _, rfl, hF, hX⟩
  case round =>
    clear hF hX w1
    obtain ⟨k, hk, rfl, hF, hx⟩ := hrel
    by_cases hlt : k < l.length
    · have hkl : (l.take k).length = k := by rw [List.length_take]; omega
      have hroom := fun j hj => hF.room (by rw [hkl]; exact hlt) j hj
      rw [hkl] at hroom
      have hsz := szL_at (fun _ => 0) l k hlt
      obtain ⟨b, off, rfl, hcell, hok⟩ := Shape.int_at (sInts.ext hx H.out) hlt
      obtain ⟨⟨u0, hu0⟩, hz0⟩ := hroom 0 (by decide)
      simp only [Nat.add_zero, show Shape.int.k = 1 from rfl, Nat.mul_one] at hu0 hz0
      have HK := Lib.hid hkl; clear hkl hroom
      go_wp2
      have hkl := HK.out
      have hst := hF.step (Ext.refl _) (x := l[k]) (Shape.own_int hok) (by rw [hkl]; exact hlt)
      rw [hkl, ← List.take_succ_eq_append_getElem hlt] at hst
      have hlo : w.heap.size ≤ w.heap.size := Nat.le_refl _
      go_roundw
      case rel => exact ⟨k + 1, by omega, by go_num, by simpa [Shape.putRow, Shape.int, Shape.one] using hst, hx.setCell (Nat.le_refl _) _⟩
      case measure => simp [intOf]; omega
    · have : k = l.length := by omega
      subst this
      rw [List.take_length] at hF
      go_wp2
      go_ret
      exact ⟨⟨_, rfl, hF.done rfl (by unfold maxLen; omega)⟩, hx⟩

end Go.Proofs.Ytlobcaofeobgaaa
