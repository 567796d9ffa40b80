/- What the families laws.to.. give: a copy in memory of its own. Printed by gen.py. -/
import Derived.Test.YthnkggjgblehaaaProg
import Derived.Test.YthnkggjgblehaaaTypes
namespace Go.Proofs.Ythnkggjgblehaaa
open Go.RowKit
set_option linter.unusedVariables false

set_option maxHeartbeats 400000 in
theorem toStringS_c (v : Value) (l : (List ByteArray)) (w : World) (h : strs.rd w [v] l) (hs : (szL ByteArray.size) l ≤ 1048576) :
    Calls Try.prog 52 #[v] w (Gives strs w l) := by
  obtain ⟨A, c, rfl, hl, hm⟩ := Shape.sl_form h
  unfold maxLen at hm
  have hlen := szL_len ByteArray.size l
  have H := Lib.hid h; clear h
  obtain ⟨i0, hi, hz0, hz1, hz2⟩ := info_parts info_string
  go_enter Try.func52, Try.ntmps52
  go_wp2_with (refine wpList_make_full _ rfl _ _ 35 rfl w.heap.size 9 i0 _ 1 Try.underlying35 hi hz0 hz1 .i64 .i64 _ _ l.length rfl rfl rfl rfl (by rw [hz2]; omega) (by unfold maxLen; omega) (Nat.le_refl _) ?_; intro w1 hown hgr)
  have hF : Shape.Fill Shape.str 9 w.heap.size l.length w1 [] := Shape.Fill.start (v := .bool true) hown
  have hX : Ext w w1 := (Ext.refl w).grown hgr (by simp)
  clear hown hgr hi hz0 hz1 hz2
  go_loopw [4] (fun i wr => ∃ k : Nat, k ≤ l.length ∧ i = .int .i64 k ∧ Shape.Fill Shape.str 9 w.heap.size l.length wr (l.take k) ∧ Ext w wr) (fun i _ => l.length - (intOf i).toNat)
  case atStart => exact ⟨0, Nat.zero_le _, rfl, hF, hX⟩
  case round =>
    clear hF hX w1
    obtain ⟨k, hk, rfl, hF, hx⟩ := hrel
    by_cases hlt : k < l.length
    · have hkl : (l.take k).length = k := by rw [List.length_take]; omega
      have hroom := fun j hj => hF.room (by rw [hkl]; exact hlt) j hj
      rw [hkl] at hroom
      have hsz := szL_at ByteArray.size l k hlt
      obtain ⟨b, off, rfl, hcell, hok⟩ := Shape.str_at (strs.ext hx H.out) hlt
      obtain ⟨⟨u0, hu0⟩, hz0⟩ := hroom 0 (by decide)
      simp only [Nat.add_zero, show Shape.str.k = 1 from rfl, Nat.mul_one] at hu0 hz0
      have HK := Lib.hid hkl; clear hkl hroom
      go_wp2
      have hkl := HK.out
      have hst := hF.step (Ext.refl _) (x := l[k]) (Shape.own_str hok) (by rw [hkl]; exact hlt)
      rw [hkl, ← List.take_succ_eq_append_getElem hlt] at hst
      have hlo : w.heap.size ≤ w.heap.size := Nat.le_refl _
      go_roundw
      case rel => exact ⟨k + 1, by omega, by go_num, by simpa [Shape.putRow, Shape.str, Shape.one] using hst, hx.setCell (Nat.le_refl _) _⟩
      case measure => simp [intOf]; omega
    · have : k = l.length := by omega
      subst this
      rw [List.take_length] at hF
      go_wp2
      go_ret
      exact ⟨⟨_, rfl, hF.done rfl (by unfold maxLen; omega)⟩, hx⟩

set_option maxHeartbeats 400000 in
theorem toName_c (cs : List Value) (x : (List ByteArray)) (w : World) (h : strs.rd w cs x) (hs : (szL ByteArray.size) x ≤ 1048576) :
    Calls Try.prog 15 #[.agg cs.toArray] w (GivesA strs w x) := by
  have r0 := h
  obtain ⟨c0, rfl⟩ := one_cell (strs.len h)
  go_enter Try.func15, Try.ntmps15
  go_wp2_with fail
  refine (toStringS_c _ x _ (strs.ext (by (repeat (refine Ext.setCell ?_ (by omega) _)); exact (((Ext.refl w).alloc _).alloc _).alloc _) r0) (by omega)).mono ?_
  rintro e w0 ⟨⟨r0', rfl, O0'⟩, hx0⟩
  have hn0 : w.heap.size + 1 + 1 + 1 ≤ w0.heap.size := by have := hx0.size; simpa [World.setCell] using this
  obtain ⟨A0, k0, rfl, _, _⟩ := Shape.sl_form O0'.rd
  have O0 : strs.own (w.heap.size + 1 + 1 + 1) w0.heap.size w0 [.slice A0 x.length k0] x := by simpa [World.setCell] using O0'
  clear O0'
  have bp : Blk w0 (w.heap.size) 37 #[c0] := Blk.ext hx0 (by (repeat (refine Blk.far ?_ (by omega) _)); exact ((Blk.new w _ _).alloc _).alloc _)
  have br : Blk w0 (w.heap.size + 1) 41 #[.slice none 0 0] := Blk.ext hx0 (by (repeat (refine Blk.far ?_ (by omega) _)); exact (Blk.new_at (by simp)).alloc _)
  have bo : Blk w0 (w.heap.size + 1 + 1) 41 #[.slice none 0 0] := Blk.ext hx0 (Blk.new_at (by simp))
  have E0 : Ext w w0 := Ext.trans (by (repeat (refine Ext.setCell ?_ (by omega) _)); exact (((Ext.refl w).alloc _).alloc _).alloc _) hx0

  clear hx0
  have fp0 : w0.cell? ⟨w.heap.size, 0, none⟩ = some (c0) := bp.cell 0
  have fo0 : w0.cell? ⟨w.heap.size + 1 + 1, 0, none⟩ = some (.slice none 0 0) := bo.cell 0
  have fr0 : w0.cell? ⟨w.heap.size + 1, 0, none⟩ = some (.slice none 0 0) := br.cell 0
  have zo0 : w0.frozen? ⟨w.heap.size + 1 + 1, 0, none⟩ = false := bo.frozen 0
  have zr0 : w0.frozen? ⟨w.heap.size + 1, 0, none⟩ = false := br.frozen 0
  go_wp2
  refine bodyPost_ret (v := .agg #[.slice A0 x.length k0]) (by simp [results, Try.results15, go_sem, fr0]) rfl ⟨⟨_, rfl, ?_⟩, ?_⟩
  · have hsz : ∀ (W : World) (p : Addr) (u : Value), (W.setCell p u).heap.size = W.heap.size := fun W p u => by simp [World.setCell]
    simp only [hsz]
    have QF := fun W => fun h : Fr (w.heap.size + 1 + 1 + 1) w0 W => h
    clear QF
    refine Shape.own.wide (lo := w.heap.size + 1 + 1 + 1) (hi := w0.heap.size) ?_ (by omega) (by omega)
    exact Shape.own.fr (N := w.heap.size + 1 + 1 + 1) O0 (by (repeat (refine Fr.setCell ?_ (by omega) _)); exact Fr.refl _ _) (by omega) (by omega)
  · (repeat (refine Ext.setCell ?_ (by omega) _)); exact E0

set_option maxHeartbeats 400000 in
theorem toKey_c (cs : List Value) (x : DKey) (w : World) (h : sKey.rd w cs x) (hs : szKey x ≤ 1048576) :
    Calls Try.prog 91 #[.agg cs.toArray] w (GivesA sKey w x) := by
  obtain ⟨c0, rfl, r0, r1⟩ := sKey_rd h
  unfold szKey at hs
  go_enter Try.func91, Try.ntmps91
  go_wp2_with fail
  refine (toName_c _ x.name _ (strs.ext (by (repeat (refine Ext.setCell ?_ (by omega) _)); exact (((Ext.refl w).alloc _).alloc _).alloc _) r0) (by omega)).mono ?_
  rintro e w0 ⟨⟨r0', rfl, O0'⟩, hx0⟩
  have hn0 : w.heap.size + 1 + 1 + 1 ≤ w0.heap.size := by have := hx0.size; simpa [World.setCell] using this
  obtain ⟨d0, rfl⟩ := one_cell (strs.len O0'.rd)
  obtain ⟨A0, k0, rfl, _, _⟩ := Shape.sl_form O0'.rd
  have O0 : strs.own (w.heap.size + 1 + 1 + 1) w0.heap.size w0 [.slice A0 x.name.length k0] x.name := by simpa [World.setCell] using O0'
  clear O0'
  have bp : Blk w0 (w.heap.size) 127 #[c0, .int .i64 x.secret] := Blk.ext hx0 (by (repeat (refine Blk.far ?_ (by omega) _)); exact ((Blk.new w _ _).alloc _).alloc _)
  have br : Blk w0 (w.heap.size + 1) 133 #[.slice none 0 0, .int .i64 0] := Blk.ext hx0 (by (repeat (refine Blk.far ?_ (by omega) _)); exact (Blk.new_at (by simp)).alloc _)
  have bo : Blk w0 (w.heap.size + 1 + 1) 133 #[.slice none 0 0, .int .i64 0] := Blk.ext hx0 (Blk.new_at (by simp))
  have E0 : Ext w w0 := Ext.trans (by (repeat (refine Ext.setCell ?_ (by omega) _)); exact (((Ext.refl w).alloc _).alloc _).alloc _) hx0

  clear hx0
  have fp0 : w0.cell? ⟨w.heap.size, 0, none⟩ = some (c0) := bp.cell 0
  have fo0 : w0.cell? ⟨w.heap.size + 1 + 1, 0, none⟩ = some (.slice none 0 0) := bo.cell 0
  have fr0 : w0.cell? ⟨w.heap.size + 1, 0, none⟩ = some (.slice none 0 0) := br.cell 0
  have zo0 : w0.frozen? ⟨w.heap.size + 1 + 1, 0, none⟩ = false := bo.frozen 0
  have zr0 : w0.frozen? ⟨w.heap.size + 1, 0, none⟩ = false := br.frozen 0
  have fp1 : w0.cell? ⟨w.heap.size, 1, none⟩ = some (.int .i64 x.secret) := bp.cell 1
  have fo1 : w0.cell? ⟨w.heap.size + 1 + 1, 1, none⟩ = some (.int .i64 0) := bo.cell 1
  have fr1 : w0.cell? ⟨w.heap.size + 1, 1, none⟩ = some (.int .i64 0) := br.cell 1
  have zo1 : w0.frozen? ⟨w.heap.size + 1 + 1, 1, none⟩ = false := bo.frozen 1
  have zr1 : w0.frozen? ⟨w.heap.size + 1, 1, none⟩ = false := br.frozen 1
  go_wp2
  refine bodyPost_ret (v := .agg #[.slice A0 x.name.length k0, .int .i64 x.secret]) (by simp [results, Try.results91, go_sem, fr0, fr1]) rfl ⟨⟨_, rfl, ?_⟩, ?_⟩
  · have hsz : ∀ (W : World) (p : Addr) (u : Value), (W.setCell p u).heap.size = W.heap.size := fun W p u => by simp [World.setCell]
    simp only [hsz]
    have QF := fun W => fun h : Fr (w.heap.size + 1 + 1 + 1) w0 W => h
    clear QF
    refine Shape.own.via ?_
    refine Shape.own.pair (lo := w.heap.size) (m := w0.heap.size) (m' := w0.heap.size) (cs := [_]) ?_ (by omega) ?_ (by omega) (by omega)
    · refine Shape.own.wide (lo := w.heap.size + 1 + 1 + 1) (hi := w0.heap.size) ?_ (by omega) (by omega)
      exact Shape.own.fr (N := w.heap.size + 1 + 1 + 1) O0 (by (repeat (refine Fr.setCell ?_ (by omega) _)); exact Fr.refl _ _) (by omega) (by omega)
    exact Shape.own_int r1
  · (repeat (refine Ext.setCell ?_ (by omega) _)); exact E0

set_option maxHeartbeats 400000 in
theorem toKeyS_c (v : Value) (l : (List DKey)) (w : World) (h : sKeyL.rd w [v] l) (hs : (szL szKey) l ≤ 1048576) :
    Calls Try.prog 42 #[v] w (Gives sKeyL w l) := by
  obtain ⟨A, c, rfl, hl, hm⟩ := Shape.sl_form h
  unfold maxLen at hm
  have hlen := szL_len szKey l
  have H := Lib.hid h; clear h
  obtain ⟨i0, hi, hz0, hz1, hz2⟩ := info_parts info_Key
  go_enter Try.func42, Try.ntmps42
  go_wp2_with (refine wpList_make_full _ rfl _ _ 28 rfl w.heap.size 133 i0 _ 2 Try.underlying28 hi hz0 hz1 .i64 .i64 _ _ l.length rfl rfl rfl rfl (by rw [hz2]; omega) (by unfold maxLen; omega) (Nat.le_refl _) ?_; intro w1 hown hgr)
  have hF : Shape.Fill sKey 133 w.heap.size l.length w1 [] := Shape.Fill.start (v := .bool true) hown
  have hX : Ext w w1 := (Ext.refl w).grown hgr (by simp)
  clear hown hgr hi hz0 hz1 hz2
  go_loopw [4] (fun i wr => ∃ k : Nat, k ≤ l.length ∧ i = .int .i64 k ∧ Shape.Fill sKey 133 w.heap.size l.length wr (l.take k) ∧ Ext w wr) (fun i _ => l.length - (intOf i).toNat)
  case atStart => exact ⟨0, Nat.zero_le _, rfl, hF, hX⟩
  case round =>
    clear hF hX w1
    obtain ⟨k, hk, rfl, hF, hx⟩ := hrel
    by_cases hlt : k < l.length
    · have hkl : (l.take k).length = k := by rw [List.length_take]; omega
      have hroom := fun j hj => hF.room (by rw [hkl]; exact hlt) j hj
      rw [hkl] at hroom
      have hsz := szL_at szKey l k hlt
      obtain ⟨b, off, es, rfl, hc, hr⟩ := Shape.sl_at (sKeyL.ext hx H.out) hlt
      have hr' := hr
      obtain ⟨c0, rfl, r0, r1⟩ := sKey_rd hr
      have f0 := hc 0 _ rfl
      have f1 := hc 1 _ rfl
      simp only [Nat.add_zero, show sKey.k = 2 from rfl] at f0 f1
      have HK := Lib.hid hkl; clear hkl hc
      go_wp2_with fail
      refine (toKey_c _ l[k] _ hr' (by omega)).mono ?_
      rintro e w1 ⟨⟨r, rfl, hO⟩, hx1⟩
      obtain ⟨d0, rfl, s0, s1⟩ := sKey_rd hO.rd
      have hF1 := hF.ext hx1
      have hroom := fun j hj => hF1.room (by rw [HK.out]; exact hlt) j hj
      rw [HK.out] at hroom
      obtain ⟨⟨u0, hu0⟩, hz0⟩ := hroom 0 (by decide)
      obtain ⟨⟨u1, hu1⟩, hz1⟩ := hroom 1 (by decide)
      simp only [Nat.add_zero, show sKey.k = 2 from rfl] at hu0 hz0 hu1 hz1
      obtain ⟨A_0, k_0, rfl, _, _⟩ := Shape.sl_form (sKey_f0 hO.rd)
      clear hroom
      have hg : w.heap.size < w1.heap.size := hF1.lt
      go_wp2
      have hkl := HK.out
      have hst := hF.step hx1 hO (by rw [hkl]; exact hlt)
      rw [hkl, ← List.take_succ_eq_append_getElem hlt] at hst
      go_roundw
      case rel => exact ⟨k + 1, by omega, by go_num, by simpa [Shape.putRow, show sKey.k = 2 from rfl] using hst, (by (repeat (refine Ext.setCell ?_ (Nat.le_refl _) _)); exact hx.trans hx1)⟩
      case measure => simp [intOf]; omega
    · have : k = l.length := by omega
      subst this
      rw [List.take_length] at hF
      go_wp2
      go_ret
      exact ⟨⟨_, rfl, hF.done rfl (by unfold maxLen; omega)⟩, hx⟩

set_option maxHeartbeats 400000 in
theorem toReader_c (cs : List Value) (x : DReader) (w : World) (h : sReader.rd w cs x) (hs : szReader x ≤ 1048576) :
    Calls Try.prog 92 #[.agg cs.toArray] w (GivesA sReader w x) := by
  obtain ⟨c1, rfl, r0, r1, r2⟩ := sReader_rd h
  unfold szReader at hs
  go_enter Try.func92, Try.ntmps92
  go_wp2_with fail
  refine (toName_c _ x.name _ (strs.ext (by (repeat (refine Ext.setCell ?_ (by omega) _)); exact (((Ext.refl w).alloc _).alloc _).alloc _) r1) (by omega)).mono ?_
  rintro e w0 ⟨⟨r1', rfl, O0'⟩, hx0⟩
  have hn0 : w.heap.size + 1 + 1 + 1 ≤ w0.heap.size := by have := hx0.size; simpa [World.setCell] using this
  obtain ⟨d1, rfl⟩ := one_cell (strs.len O0'.rd)
  obtain ⟨A0, k0, rfl, _, _⟩ := Shape.sl_form O0'.rd
  have O0 : strs.own (w.heap.size + 1 + 1 + 1) w0.heap.size w0 [.slice A0 x.name.length k0] x.name := by simpa [World.setCell] using O0'
  clear O0'
  have bp : Blk w0 (w.heap.size) 130 #[.int .i64 x.node, c1, .int .i64 x.epoch] := Blk.ext hx0 (by (repeat (refine Blk.far ?_ (by omega) _)); exact ((Blk.new w _ _).alloc _).alloc _)
  have br : Blk w0 (w.heap.size + 1) 92 #[.int .i64 0, .slice none 0 0, .int .i64 0] := Blk.ext hx0 (by (repeat (refine Blk.far ?_ (by omega) _)); exact (Blk.new_at (by simp)).alloc _)
  have bo : Blk w0 (w.heap.size + 1 + 1) 92 #[.int .i64 x.node, .slice none 0 0, .int .i64 0] := Blk.ext hx0 (Blk.new_at (by simp))
  have E0 : Ext w w0 := Ext.trans (by (repeat (refine Ext.setCell ?_ (by omega) _)); exact (((Ext.refl w).alloc _).alloc _).alloc _) hx0

  clear hx0
  have fp0 : w0.cell? ⟨w.heap.size, 0, none⟩ = some (.int .i64 x.node) := bp.cell 0
  have fo0 : w0.cell? ⟨w.heap.size + 1 + 1, 0, none⟩ = some (.int .i64 x.node) := bo.cell 0
  have fr0 : w0.cell? ⟨w.heap.size + 1, 0, none⟩ = some (.int .i64 0) := br.cell 0
  have zo0 : w0.frozen? ⟨w.heap.size + 1 + 1, 0, none⟩ = false := bo.frozen 0
  have zr0 : w0.frozen? ⟨w.heap.size + 1, 0, none⟩ = false := br.frozen 0
  have fp1 : w0.cell? ⟨w.heap.size, 1, none⟩ = some (c1) := bp.cell 1
  have fo1 : w0.cell? ⟨w.heap.size + 1 + 1, 1, none⟩ = some (.slice none 0 0) := bo.cell 1
  have fr1 : w0.cell? ⟨w.heap.size + 1, 1, none⟩ = some (.slice none 0 0) := br.cell 1
  have zo1 : w0.frozen? ⟨w.heap.size + 1 + 1, 1, none⟩ = false := bo.frozen 1
  have zr1 : w0.frozen? ⟨w.heap.size + 1, 1, none⟩ = false := br.frozen 1
  have fp2 : w0.cell? ⟨w.heap.size, 2, none⟩ = some (.int .i64 x.epoch) := bp.cell 2
  have fo2 : w0.cell? ⟨w.heap.size + 1 + 1, 2, none⟩ = some (.int .i64 0) := bo.cell 2
  have fr2 : w0.cell? ⟨w.heap.size + 1, 2, none⟩ = some (.int .i64 0) := br.cell 2
  have zo2 : w0.frozen? ⟨w.heap.size + 1 + 1, 2, none⟩ = false := bo.frozen 2
  have zr2 : w0.frozen? ⟨w.heap.size + 1, 2, none⟩ = false := br.frozen 2
  go_wp2
  refine bodyPost_ret (v := .agg #[.int .i64 x.node, .slice A0 x.name.length k0, .int .i64 x.epoch]) (by simp [results, Try.results92, go_sem, fr0, fr1, fr2]) rfl ⟨⟨_, rfl, ?_⟩, ?_⟩
  · have hsz : ∀ (W : World) (p : Addr) (u : Value), (W.setCell p u).heap.size = W.heap.size := fun W p u => by simp [World.setCell]
    simp only [hsz]
    have QF := fun W => fun h : Fr (w.heap.size + 1 + 1 + 1) w0 W => h
    clear QF
    refine Shape.own.via ?_
    refine Shape.own.pair (lo := w.heap.size) (m := w.heap.size) (m' := w.heap.size) (cs := [_]) ?_ (by omega) ?_ (by omega) (by omega)
    · exact Shape.own_int r0
    refine Shape.own.pair (lo := w.heap.size) (m := w0.heap.size) (m' := w0.heap.size) (cs := [_]) ?_ (by omega) ?_ (by omega) (by omega)
    · refine Shape.own.wide (lo := w.heap.size + 1 + 1 + 1) (hi := w0.heap.size) ?_ (by omega) (by omega)
      exact Shape.own.fr (N := w.heap.size + 1 + 1 + 1) O0 (by (repeat (refine Fr.setCell ?_ (by omega) _)); exact Fr.refl _ _) (by omega) (by omega)
    exact Shape.own_int r2
  · (repeat (refine Ext.setCell ?_ (by omega) _)); exact E0

set_option maxHeartbeats 400000 in
theorem toReaderS_c (v : Value) (l : (List DReader)) (w : World) (h : sReaderL.rd w [v] l) (hs : (szL szReader) l ≤ 1048576) :
    Calls Try.prog 43 #[v] w (Gives sReaderL w l) := by
  obtain ⟨A, c, rfl, hl, hm⟩ := Shape.sl_form h
  unfold maxLen at hm
  have hlen := szL_len szReader l
  have H := Lib.hid h; clear h
  obtain ⟨i0, hi, hz0, hz1, hz2⟩ := info_parts info_Reader
  go_enter Try.func43, Try.ntmps43
  go_wp2_with (refine wpList_make_full _ rfl _ _ 29 rfl w.heap.size 92 i0 _ 3 Try.underlying29 hi hz0 hz1 .i64 .i64 _ _ l.length rfl rfl rfl rfl (by rw [hz2]; omega) (by unfold maxLen; omega) (Nat.le_refl _) ?_; intro w1 hown hgr)
  have hF : Shape.Fill sReader 92 w.heap.size l.length w1 [] := Shape.Fill.start (v := .bool true) hown
  have hX : Ext w w1 := (Ext.refl w).grown hgr (by simp)
  clear hown hgr hi hz0 hz1 hz2
  go_loopw [4] (fun i wr => ∃ k : Nat, k ≤ l.length ∧ i = .int .i64 k ∧ Shape.Fill sReader 92 w.heap.size l.length wr (l.take k) ∧ Ext w wr) (fun i _ => l.length - (intOf i).toNat)
  case atStart => exact ⟨0, Nat.zero_le _, rfl, hF, hX⟩
  case round =>
    clear hF hX w1
    obtain ⟨k, hk, rfl, hF, hx⟩ := hrel
    by_cases hlt : k < l.length
    · have hkl : (l.take k).length = k := by rw [List.length_take]; omega
      have hroom := fun j hj => hF.room (by rw [hkl]; exact hlt) j hj
      rw [hkl] at hroom
      have hsz := szL_at szReader l k hlt
      obtain ⟨b, off, es, rfl, hc, hr⟩ := Shape.sl_at (sReaderL.ext hx H.out) hlt
      have hr' := hr
      obtain ⟨c1, rfl, r0, r1, r2⟩ := sReader_rd hr
      have f0 := hc 0 _ rfl
      have f1 := hc 1 _ rfl
      have f2 := hc 2 _ rfl
      simp only [Nat.add_zero, show sReader.k = 3 from rfl] at f0 f1 f2
      have HK := Lib.hid hkl; clear hkl hc
      go_wp2_with fail
      refine (toReader_c _ l[k] _ hr' (by omega)).mono ?_
      rintro e w1 ⟨⟨r, rfl, hO⟩, hx1⟩
      obtain ⟨d1, rfl, s0, s1, s2⟩ := sReader_rd hO.rd
      have hF1 := hF.ext hx1
      have hroom := fun j hj => hF1.room (by rw [HK.out]; exact hlt) j hj
      rw [HK.out] at hroom
      obtain ⟨⟨u0, hu0⟩, hz0⟩ := hroom 0 (by decide)
      obtain ⟨⟨u1, hu1⟩, hz1⟩ := hroom 1 (by decide)
      obtain ⟨⟨u2, hu2⟩, hz2⟩ := hroom 2 (by decide)
      simp only [Nat.add_zero, show sReader.k = 3 from rfl] at hu0 hz0 hu1 hz1 hu2 hz2
      obtain ⟨A_1, k_1, rfl, _, _⟩ := Shape.sl_form (sReader_f1 hO.rd)
      clear hroom
      have hg : w.heap.size < w1.heap.size := hF1.lt
      go_wp2
      have hkl := HK.out
      have hst := hF.step hx1 hO (by rw [hkl]; exact hlt)
      rw [hkl, ← List.take_succ_eq_append_getElem hlt] at hst
      go_roundw
      case rel => exact ⟨k + 1, by omega, by go_num, by simpa [Shape.putRow, show sReader.k = 3 from rfl] using hst, (by (repeat (refine Ext.setCell ?_ (Nat.le_refl _) _)); exact hx.trans hx1)⟩
      case measure => simp [intOf]; omega
    · have : k = l.length := by omega
      subst this
      rw [List.take_length] at hF
      go_wp2
      go_ret
      exact ⟨⟨_, rfl, hF.done rfl (by unfold maxLen; omega)⟩, hx⟩

set_option maxHeartbeats 400000 in
theorem toAccessController_c (cs : List Value) (x : DAccessController) (w : World) (h : sAccessController.rd w cs x) (hs : szAccessController x ≤ 1048576) :
    Calls Try.prog 10 #[.agg cs.toArray] w (GivesA sAccessController w x) := by
  obtain ⟨c0, c3, rfl, r0, r1, r2, r3⟩ := sAccessController_rd h
  unfold szAccessController at hs
  go_enter Try.func10, Try.ntmps10
  go_wp2_with fail
  refine (toKeyS_c _ x.keys _ (sKeyL.ext (by (repeat (refine Ext.setCell ?_ (by omega) _)); exact (((Ext.refl w).alloc _).alloc _).alloc _) r0) (by omega)).mono ?_
  rintro e w0 ⟨⟨r0', rfl, O0'⟩, hx0⟩
  have hn0 : w.heap.size + 1 + 1 + 1 ≤ w0.heap.size := by have := hx0.size; simpa [World.setCell] using this
  obtain ⟨A0, k0, rfl, _, _⟩ := Shape.sl_form O0'.rd
  have O0 : sKeyL.own (w.heap.size + 1 + 1 + 1) w0.heap.size w0 [.slice A0 x.keys.length k0] x.keys := by simpa [World.setCell] using O0'
  clear O0'
  have bp : Blk w0 (w.heap.size) 25 #[c0, .int .i64 x.master, .int .i64 x.epoch, c3] := Blk.ext hx0 (by (repeat (refine Blk.far ?_ (by omega) _)); exact ((Blk.new w _ _).alloc _).alloc _)
  have br : Blk w0 (w.heap.size + 1) 31 #[.slice none 0 0, .int .i64 0, .int .i64 0, .slice none 0 0] := Blk.ext hx0 (by (repeat (refine Blk.far ?_ (by omega) _)); exact (Blk.new_at (by simp)).alloc _)
  have bo : Blk w0 (w.heap.size + 1 + 1) 31 #[.slice none 0 0, .int .i64 0, .int .i64 0, .slice none 0 0] := Blk.ext hx0 (Blk.new_at (by simp))
  have E0 : Ext w w0 := Ext.trans (by (repeat (refine Ext.setCell ?_ (by omega) _)); exact (((Ext.refl w).alloc _).alloc _).alloc _) hx0

  clear hx0
  have fp0 : w0.cell? ⟨w.heap.size, 0, none⟩ = some (c0) := bp.cell 0
  have fo0 : w0.cell? ⟨w.heap.size + 1 + 1, 0, none⟩ = some (.slice none 0 0) := bo.cell 0
  have fr0 : w0.cell? ⟨w.heap.size + 1, 0, none⟩ = some (.slice none 0 0) := br.cell 0
  have zo0 : w0.frozen? ⟨w.heap.size + 1 + 1, 0, none⟩ = false := bo.frozen 0
  have zr0 : w0.frozen? ⟨w.heap.size + 1, 0, none⟩ = false := br.frozen 0
  have fp1 : w0.cell? ⟨w.heap.size, 1, none⟩ = some (.int .i64 x.master) := bp.cell 1
  have fo1 : w0.cell? ⟨w.heap.size + 1 + 1, 1, none⟩ = some (.int .i64 0) := bo.cell 1
  have fr1 : w0.cell? ⟨w.heap.size + 1, 1, none⟩ = some (.int .i64 0) := br.cell 1
  have zo1 : w0.frozen? ⟨w.heap.size + 1 + 1, 1, none⟩ = false := bo.frozen 1
  have zr1 : w0.frozen? ⟨w.heap.size + 1, 1, none⟩ = false := br.frozen 1
  have fp2 : w0.cell? ⟨w.heap.size, 2, none⟩ = some (.int .i64 x.epoch) := bp.cell 2
  have fo2 : w0.cell? ⟨w.heap.size + 1 + 1, 2, none⟩ = some (.int .i64 0) := bo.cell 2
  have fr2 : w0.cell? ⟨w.heap.size + 1, 2, none⟩ = some (.int .i64 0) := br.cell 2
  have zo2 : w0.frozen? ⟨w.heap.size + 1 + 1, 2, none⟩ = false := bo.frozen 2
  have zr2 : w0.frozen? ⟨w.heap.size + 1, 2, none⟩ = false := br.frozen 2
  have fp3 : w0.cell? ⟨w.heap.size, 3, none⟩ = some (c3) := bp.cell 3
  have fo3 : w0.cell? ⟨w.heap.size + 1 + 1, 3, none⟩ = some (.slice none 0 0) := bo.cell 3
  have fr3 : w0.cell? ⟨w.heap.size + 1, 3, none⟩ = some (.slice none 0 0) := br.cell 3
  have zo3 : w0.frozen? ⟨w.heap.size + 1 + 1, 3, none⟩ = false := bo.frozen 3
  have zr3 : w0.frozen? ⟨w.heap.size + 1, 3, none⟩ = false := br.frozen 3
  go_wp2_with fail
  refine (toReaderS_c _ x.readers _ (sReaderL.ext (by (repeat (refine Ext.setCell ?_ (by omega) _)); exact E0) r3) (by omega)).mono ?_
  rintro e w1 ⟨⟨r3', rfl, O1'⟩, hx1⟩
  have hn1 : w0.heap.size ≤ w1.heap.size := by have := hx1.size; simpa [World.setCell] using this
  obtain ⟨A1, k1, rfl, _, _⟩ := Shape.sl_form O1'.rd
  have O1 : sReaderL.own (w0.heap.size) w1.heap.size w1 [.slice A1 x.readers.length k1] x.readers := by simpa [World.setCell] using O1'
  clear O1'
  replace bp : Blk w1 (w.heap.size) 25 #[c0, .int .i64 x.master, .int .i64 x.epoch, c3] := Blk.ext hx1 (by (repeat (refine Blk.far ?_ (by omega) _)); exact bp)
  replace br : Blk w1 (w.heap.size + 1) 31 #[.slice none 0 0, .int .i64 0, .int .i64 0, .slice none 0 0] := Blk.ext hx1 (by (repeat (refine Blk.far ?_ (by omega) _)); exact br)
  replace bo : Blk w1 (w.heap.size + 1 + 1) 31 #[.slice A0 x.keys.length k0, .int .i64 x.master, .int .i64 x.epoch, .slice none 0 0] := Blk.ext hx1 (by simpa using (Blk.set_ ((Blk.set_ ((Blk.set_ (bo) 0 _)) 1 _)) 2 _))
  have E1 : Ext w w1 := Ext.trans (by (repeat (refine Ext.setCell ?_ (by omega) _)); exact E0) hx1
  have Q1 : Fr (w.heap.size + 1 + 1 + 1) w0 w1 := Fr.trans (by (repeat (refine Fr.setCell ?_ (by omega) _)); exact Fr.refl _ _) (Fr.ext hx1)
  clear hx1
  clear fp0 fo0 fr0 zo0 zr0 fp1 fo1 fr1 zo1 zr1 fp2 fo2 fr2 zo2 zr2 fp3 fo3 fr3 zo3 zr3
  have fp0 : w1.cell? ⟨w.heap.size, 0, none⟩ = some (c0) := bp.cell 0
  have fo0 : w1.cell? ⟨w.heap.size + 1 + 1, 0, none⟩ = some (.slice A0 x.keys.length k0) := bo.cell 0
  have fr0 : w1.cell? ⟨w.heap.size + 1, 0, none⟩ = some (.slice none 0 0) := br.cell 0
  have zo0 : w1.frozen? ⟨w.heap.size + 1 + 1, 0, none⟩ = false := bo.frozen 0
  have zr0 : w1.frozen? ⟨w.heap.size + 1, 0, none⟩ = false := br.frozen 0
  have fp1 : w1.cell? ⟨w.heap.size, 1, none⟩ = some (.int .i64 x.master) := bp.cell 1
  have fo1 : w1.cell? ⟨w.heap.size + 1 + 1, 1, none⟩ = some (.int .i64 x.master) := bo.cell 1
  have fr1 : w1.cell? ⟨w.heap.size + 1, 1, none⟩ = some (.int .i64 0) := br.cell 1
  have zo1 : w1.frozen? ⟨w.heap.size + 1 + 1, 1, none⟩ = false := bo.frozen 1
  have zr1 : w1.frozen? ⟨w.heap.size + 1, 1, none⟩ = false := br.frozen 1
  have fp2 : w1.cell? ⟨w.heap.size, 2, none⟩ = some (.int .i64 x.epoch) := bp.cell 2
  have fo2 : w1.cell? ⟨w.heap.size + 1 + 1, 2, none⟩ = some (.int .i64 x.epoch) := bo.cell 2
  have fr2 : w1.cell? ⟨w.heap.size + 1, 2, none⟩ = some (.int .i64 0) := br.cell 2
  have zo2 : w1.frozen? ⟨w.heap.size + 1 + 1, 2, none⟩ = false := bo.frozen 2
  have zr2 : w1.frozen? ⟨w.heap.size + 1, 2, none⟩ = false := br.frozen 2
  have fp3 : w1.cell? ⟨w.heap.size, 3, none⟩ = some (c3) := bp.cell 3
  have fo3 : w1.cell? ⟨w.heap.size + 1 + 1, 3, none⟩ = some (.slice none 0 0) := bo.cell 3
  have fr3 : w1.cell? ⟨w.heap.size + 1, 3, none⟩ = some (.slice none 0 0) := br.cell 3
  have zo3 : w1.frozen? ⟨w.heap.size + 1 + 1, 3, none⟩ = false := bo.frozen 3
  have zr3 : w1.frozen? ⟨w.heap.size + 1, 3, none⟩ = false := br.frozen 3
  go_wp2
  refine bodyPost_ret (v := .agg #[.slice A0 x.keys.length k0, .int .i64 x.master, .int .i64 x.epoch, .slice A1 x.readers.length k1]) (by simp [results, Try.results10, go_sem, fr0, fr1, fr2, fr3]) rfl ⟨⟨_, rfl, ?_⟩, ?_⟩
  · have hsz : ∀ (W : World) (p : Addr) (u : Value), (W.setCell p u).heap.size = W.heap.size := fun W p u => by simp [World.setCell]
    simp only [hsz]
    have QF := fun W => fun h : Fr (w.heap.size + 1 + 1 + 1) w1 W => h
    clear QF
    refine Shape.own.via ?_
    refine Shape.own.pair (lo := w.heap.size) (m := w0.heap.size) (m' := w0.heap.size) (cs := [_]) ?_ (by omega) ?_ (by omega) (by omega)
    · refine Shape.own.wide (lo := w.heap.size + 1 + 1 + 1) (hi := w0.heap.size) ?_ (by omega) (by omega)
      exact Shape.own.fr (N := w.heap.size + 1 + 1 + 1) (O0.fr Q1 (by omega) (by omega)) (by (repeat (refine Fr.setCell ?_ (by omega) _)); exact Fr.refl _ _) (by omega) (by omega)
    refine Shape.own.pair (lo := w0.heap.size) (m := w0.heap.size) (m' := w0.heap.size) (cs := [_]) ?_ (by omega) ?_ (by omega) (by omega)
    · exact Shape.own_int r1
    refine Shape.own.pair (lo := w0.heap.size) (m := w0.heap.size) (m' := w0.heap.size) (cs := [_]) ?_ (by omega) ?_ (by omega) (by omega)
    · exact Shape.own_int r2
    refine Shape.own.wide (lo := w0.heap.size) (hi := w1.heap.size) ?_ (by omega) (by omega)
    exact Shape.own.fr (N := w.heap.size + 1 + 1 + 1) O1 (by (repeat (refine Fr.setCell ?_ (by omega) _)); exact Fr.refl _ _) (by omega) (by omega)
  · (repeat (refine Ext.setCell ?_ (by omega) _)); exact E1

set_option maxHeartbeats 400000 in
theorem toByteS_c (v : Value) (l : (List UInt8)) (w : World) (h : sBytes.rd w [v] l) (hs : (szL (fun _ => 0)) l ≤ 1048576) :
    Calls Try.prog 141 #[v] w (Gives sBytes w l) := by
  obtain ⟨A, c, rfl, hl, hm⟩ := Shape.sl_form h
  unfold maxLen at hm
  have hlen := szL_len (fun _ => 0) l
  have H := Lib.hid h; clear h
  obtain ⟨i0, hi, hz0, hz1, hz2⟩ := info_parts info_byte
  go_enter Try.func141, Try.ntmps141
  go_wp2_with (refine wpList_make_full _ rfl _ _ 147 rfl w.heap.size 5 i0 _ 1 Try.underlying147 hi hz0 hz1 .i64 .i64 _ _ l.length rfl rfl rfl rfl (by rw [hz2]; omega) (by unfold maxLen; omega) (Nat.le_refl _) ?_; intro w1 hown hgr)
  have hF : Shape.Fill Shape.byte 5 w.heap.size l.length w1 [] := Shape.Fill.start (v := .bool true) hown
  have hX : Ext w w1 := (Ext.refl w).grown hgr (by simp)
  clear hown hgr hi hz0 hz1 hz2
  go_loopw [4] (fun i wr => ∃ k : Nat, k ≤ l.length ∧ i = .int .i64 k ∧ Shape.Fill Shape.byte 5 w.heap.size l.length wr (l.take k) ∧ Ext w wr) (fun i _ => l.length - (intOf i).toNat)
  case atStart => exact ⟨0, Nat.zero_le _, rfl, hF, hX⟩
  case round =>
    clear hF hX w1
    obtain ⟨k, hk, rfl, hF, hx⟩ := hrel
    by_cases hlt : k < l.length
    · have hkl : (l.take k).length = k := by rw [List.length_take]; omega
      have hroom := fun j hj => hF.room (by rw [hkl]; exact hlt) j hj
      rw [hkl] at hroom
      have hsz := szL_at (fun _ => 0) l k hlt
      obtain ⟨b, off, rfl, hcell⟩ := Shape.byte_at (sBytes.ext hx H.out) hlt
      obtain ⟨⟨u0, hu0⟩, hz0⟩ := hroom 0 (by decide)
      simp only [Nat.add_zero, show Shape.byte.k = 1 from rfl, Nat.mul_one] at hu0 hz0
      have HK := Lib.hid hkl; clear hkl hroom
      go_wp2
      have hkl := HK.out
      have hst := hF.step (Ext.refl _) (x := l[k]) (Shape.own_byte) (by rw [hkl]; exact hlt)
      rw [hkl, ← List.take_succ_eq_append_getElem hlt] at hst
      have hlo : w.heap.size ≤ w.heap.size := Nat.le_refl _
      go_roundw
      case rel => exact ⟨k + 1, by omega, by go_num, by simpa [Shape.putRow, Shape.byte, Shape.one] using hst, hx.setCell (Nat.le_refl _) _⟩
      case measure => simp [intOf]; omega
    · have : k = l.length := by omega
      subst this
      rw [List.take_length] at hF
      go_wp2
      go_ret
      exact ⟨⟨_, rfl, hF.done rfl (by unfold maxLen; omega)⟩, hx⟩

set_option maxHeartbeats 400000 in
theorem toData_c (cs : List Value) (x : DData) (w : World) (h : sData.rd w cs x) (hs : szData x ≤ 1048576) :
    Calls Try.prog 115 #[.agg cs.toArray] w (GivesA sData w x) := by
  obtain ⟨c0, c1, c2, rfl, r0, r1, r2, r3, r4⟩ := sData_rd h
  unfold szData at hs
  go_enter Try.func115, Try.ntmps115
  go_wp2_with fail
  refine (toName_c _ x.name _ (strs.ext (by (repeat (refine Ext.setCell ?_ (by omega) _)); exact (((Ext.refl w).alloc _).alloc _).alloc _) r0) (by omega)).mono ?_
  rintro e w0 ⟨⟨r0', rfl, O0'⟩, hx0⟩
  have hn0 : w.heap.size + 1 + 1 + 1 ≤ w0.heap.size := by have := hx0.size; simpa [World.setCell] using this
  obtain ⟨d0, rfl⟩ := one_cell (strs.len O0'.rd)
  obtain ⟨A0, k0, rfl, _, _⟩ := Shape.sl_form O0'.rd
  have O0 : strs.own (w.heap.size + 1 + 1 + 1) w0.heap.size w0 [.slice A0 x.name.length k0] x.name := by simpa [World.setCell] using O0'
  clear O0'
  have bp : Blk w0 (w.heap.size) 149 #[c0, c1, c2, .int .i64 x.freshUntil, .int .i64 x.signature] := Blk.ext hx0 (by (repeat (refine Blk.far ?_ (by omega) _)); exact ((Blk.new w _ _).alloc _).alloc _)
  have br : Blk w0 (w.heap.size + 1) 165 #[.slice none 0 0, .slice none 0 0, .slice none 0 0, .int .i64 0, .int .i64 0] := Blk.ext hx0 (by (repeat (refine Blk.far ?_ (by omega) _)); exact (Blk.new_at (by simp)).alloc _)
  have bo : Blk w0 (w.heap.size + 1 + 1) 165 #[.slice none 0 0, .slice none 0 0, .slice none 0 0, .int .i64 0, .int .i64 0] := Blk.ext hx0 (Blk.new_at (by simp))
  have E0 : Ext w w0 := Ext.trans (by (repeat (refine Ext.setCell ?_ (by omega) _)); exact (((Ext.refl w).alloc _).alloc _).alloc _) hx0

  clear hx0
  have fp0 : w0.cell? ⟨w.heap.size, 0, none⟩ = some (c0) := bp.cell 0
  have fo0 : w0.cell? ⟨w.heap.size + 1 + 1, 0, none⟩ = some (.slice none 0 0) := bo.cell 0
  have fr0 : w0.cell? ⟨w.heap.size + 1, 0, none⟩ = some (.slice none 0 0) := br.cell 0
  have zo0 : w0.frozen? ⟨w.heap.size + 1 + 1, 0, none⟩ = false := bo.frozen 0
  have zr0 : w0.frozen? ⟨w.heap.size + 1, 0, none⟩ = false := br.frozen 0
  have fp1 : w0.cell? ⟨w.heap.size, 1, none⟩ = some (c1) := bp.cell 1
  have fo1 : w0.cell? ⟨w.heap.size + 1 + 1, 1, none⟩ = some (.slice none 0 0) := bo.cell 1
  have fr1 : w0.cell? ⟨w.heap.size + 1, 1, none⟩ = some (.slice none 0 0) := br.cell 1
  have zo1 : w0.frozen? ⟨w.heap.size + 1 + 1, 1, none⟩ = false := bo.frozen 1
  have zr1 : w0.frozen? ⟨w.heap.size + 1, 1, none⟩ = false := br.frozen 1
  have fp2 : w0.cell? ⟨w.heap.size, 2, none⟩ = some (c2) := bp.cell 2
  have fo2 : w0.cell? ⟨w.heap.size + 1 + 1, 2, none⟩ = some (.slice none 0 0) := bo.cell 2
  have fr2 : w0.cell? ⟨w.heap.size + 1, 2, none⟩ = some (.slice none 0 0) := br.cell 2
  have zo2 : w0.frozen? ⟨w.heap.size + 1 + 1, 2, none⟩ = false := bo.frozen 2
  have zr2 : w0.frozen? ⟨w.heap.size + 1, 2, none⟩ = false := br.frozen 2
  have fp3 : w0.cell? ⟨w.heap.size, 3, none⟩ = some (.int .i64 x.freshUntil) := bp.cell 3
  have fo3 : w0.cell? ⟨w.heap.size + 1 + 1, 3, none⟩ = some (.int .i64 0) := bo.cell 3
  have fr3 : w0.cell? ⟨w.heap.size + 1, 3, none⟩ = some (.int .i64 0) := br.cell 3
  have zo3 : w0.frozen? ⟨w.heap.size + 1 + 1, 3, none⟩ = false := bo.frozen 3
  have zr3 : w0.frozen? ⟨w.heap.size + 1, 3, none⟩ = false := br.frozen 3
  have fp4 : w0.cell? ⟨w.heap.size, 4, none⟩ = some (.int .i64 x.signature) := bp.cell 4
  have fo4 : w0.cell? ⟨w.heap.size + 1 + 1, 4, none⟩ = some (.int .i64 0) := bo.cell 4
  have fr4 : w0.cell? ⟨w.heap.size + 1, 4, none⟩ = some (.int .i64 0) := br.cell 4
  have zo4 : w0.frozen? ⟨w.heap.size + 1 + 1, 4, none⟩ = false := bo.frozen 4
  have zr4 : w0.frozen? ⟨w.heap.size + 1, 4, none⟩ = false := br.frozen 4
  go_wp2_with fail
  refine (toByteS_c _ x.content _ (sBytes.ext (by (repeat (refine Ext.setCell ?_ (by omega) _)); exact E0) r1) (by omega)).mono ?_
  rintro e w1 ⟨⟨r1', rfl, O1'⟩, hx1⟩
  have hn1 : w0.heap.size ≤ w1.heap.size := by have := hx1.size; simpa [World.setCell] using this
  obtain ⟨A1, k1, rfl, _, _⟩ := Shape.sl_form O1'.rd
  have O1 : sBytes.own (w0.heap.size) w1.heap.size w1 [.slice A1 x.content.length k1] x.content := by simpa [World.setCell] using O1'
  clear O1'
  replace bp : Blk w1 (w.heap.size) 149 #[c0, c1, c2, .int .i64 x.freshUntil, .int .i64 x.signature] := Blk.ext hx1 (by (repeat (refine Blk.far ?_ (by omega) _)); exact bp)
  replace br : Blk w1 (w.heap.size + 1) 165 #[.slice none 0 0, .slice none 0 0, .slice none 0 0, .int .i64 0, .int .i64 0] := Blk.ext hx1 (by (repeat (refine Blk.far ?_ (by omega) _)); exact br)
  replace bo : Blk w1 (w.heap.size + 1 + 1) 165 #[.slice A0 x.name.length k0, .slice none 0 0, .slice none 0 0, .int .i64 0, .int .i64 0] := Blk.ext hx1 (by simpa using (Blk.set_ (bo) 0 _))
  have E1 : Ext w w1 := Ext.trans (by (repeat (refine Ext.setCell ?_ (by omega) _)); exact E0) hx1
  have Q1 : Fr (w.heap.size + 1 + 1 + 1) w0 w1 := Fr.trans (by (repeat (refine Fr.setCell ?_ (by omega) _)); exact Fr.refl _ _) (Fr.ext hx1)
  clear hx1
  clear fp0 fo0 fr0 zo0 zr0 fp1 fo1 fr1 zo1 zr1 fp2 fo2 fr2 zo2 zr2 fp3 fo3 fr3 zo3 zr3 fp4 fo4 fr4 zo4 zr4
  have fp0 : w1.cell? ⟨w.heap.size, 0, none⟩ = some (c0) := bp.cell 0
  have fo0 : w1.cell? ⟨w.heap.size + 1 + 1, 0, none⟩ = some (.slice A0 x.name.length k0) := bo.cell 0
  have fr0 : w1.cell? ⟨w.heap.size + 1, 0, none⟩ = some (.slice none 0 0) := br.cell 0
  have zo0 : w1.frozen? ⟨w.heap.size + 1 + 1, 0, none⟩ = false := bo.frozen 0
  have zr0 : w1.frozen? ⟨w.heap.size + 1, 0, none⟩ = false := br.frozen 0
  have fp1 : w1.cell? ⟨w.heap.size, 1, none⟩ = some (c1) := bp.cell 1
  have fo1 : w1.cell? ⟨w.heap.size + 1 + 1, 1, none⟩ = some (.slice none 0 0) := bo.cell 1
  have fr1 : w1.cell? ⟨w.heap.size + 1, 1, none⟩ = some (.slice none 0 0) := br.cell 1
  have zo1 : w1.frozen? ⟨w.heap.size + 1 + 1, 1, none⟩ = false := bo.frozen 1
  have zr1 : w1.frozen? ⟨w.heap.size + 1, 1, none⟩ = false := br.frozen 1
  have fp2 : w1.cell? ⟨w.heap.size, 2, none⟩ = some (c2) := bp.cell 2
  have fo2 : w1.cell? ⟨w.heap.size + 1 + 1, 2, none⟩ = some (.slice none 0 0) := bo.cell 2
  have fr2 : w1.cell? ⟨w.heap.size + 1, 2, none⟩ = some (.slice none 0 0) := br.cell 2
  have zo2 : w1.frozen? ⟨w.heap.size + 1 + 1, 2, none⟩ = false := bo.frozen 2
  have zr2 : w1.frozen? ⟨w.heap.size + 1, 2, none⟩ = false := br.frozen 2
  have fp3 : w1.cell? ⟨w.heap.size, 3, none⟩ = some (.int .i64 x.freshUntil) := bp.cell 3
  have fo3 : w1.cell? ⟨w.heap.size + 1 + 1, 3, none⟩ = some (.int .i64 0) := bo.cell 3
  have fr3 : w1.cell? ⟨w.heap.size + 1, 3, none⟩ = some (.int .i64 0) := br.cell 3
  have zo3 : w1.frozen? ⟨w.heap.size + 1 + 1, 3, none⟩ = false := bo.frozen 3
  have zr3 : w1.frozen? ⟨w.heap.size + 1, 3, none⟩ = false := br.frozen 3
  have fp4 : w1.cell? ⟨w.heap.size, 4, none⟩ = some (.int .i64 x.signature) := bp.cell 4
  have fo4 : w1.cell? ⟨w.heap.size + 1 + 1, 4, none⟩ = some (.int .i64 0) := bo.cell 4
  have fr4 : w1.cell? ⟨w.heap.size + 1, 4, none⟩ = some (.int .i64 0) := br.cell 4
  have zo4 : w1.frozen? ⟨w.heap.size + 1 + 1, 4, none⟩ = false := bo.frozen 4
  have zr4 : w1.frozen? ⟨w.heap.size + 1, 4, none⟩ = false := br.frozen 4
  go_wp2_with fail
  refine (toName_c _ x.keyName _ (strs.ext (by (repeat (refine Ext.setCell ?_ (by omega) _)); exact E1) r2) (by omega)).mono ?_
  rintro e w2 ⟨⟨r2', rfl, O2'⟩, hx2⟩
  have hn2 : w1.heap.size ≤ w2.heap.size := by have := hx2.size; simpa [World.setCell] using this
  obtain ⟨d2, rfl⟩ := one_cell (strs.len O2'.rd)
  obtain ⟨A2, k2, rfl, _, _⟩ := Shape.sl_form O2'.rd
  have O2 : strs.own (w1.heap.size) w2.heap.size w2 [.slice A2 x.keyName.length k2] x.keyName := by simpa [World.setCell] using O2'
  clear O2'
  replace bp : Blk w2 (w.heap.size) 149 #[c0, c1, c2, .int .i64 x.freshUntil, .int .i64 x.signature] := Blk.ext hx2 (by (repeat (refine Blk.far ?_ (by omega) _)); exact bp)
  replace br : Blk w2 (w.heap.size + 1) 165 #[.slice none 0 0, .slice none 0 0, .slice none 0 0, .int .i64 0, .int .i64 0] := Blk.ext hx2 (by (repeat (refine Blk.far ?_ (by omega) _)); exact br)
  replace bo : Blk w2 (w.heap.size + 1 + 1) 165 #[.slice A0 x.name.length k0, .slice A1 x.content.length k1, .slice none 0 0, .int .i64 0, .int .i64 0] := Blk.ext hx2 (by simpa using (Blk.set_ (bo) 1 _))
  have E2 : Ext w w2 := Ext.trans (by (repeat (refine Ext.setCell ?_ (by omega) _)); exact E1) hx2
  have Q2 : Fr (w.heap.size + 1 + 1 + 1) w1 w2 := Fr.trans (by (repeat (refine Fr.setCell ?_ (by omega) _)); exact Fr.refl _ _) (Fr.ext hx2)
  clear hx2
  clear fp0 fo0 fr0 zo0 zr0 fp1 fo1 fr1 zo1 zr1 fp2 fo2 fr2 zo2 zr2 fp3 fo3 fr3 zo3 zr3 fp4 fo4 fr4 zo4 zr4
  have fp0 : w2.cell? ⟨w.heap.size, 0, none⟩ = some (c0) := bp.cell 0
  have fo0 : w2.cell? ⟨w.heap.size + 1 + 1, 0, none⟩ = some (.slice A0 x.name.length k0) := bo.cell 0
  have fr0 : w2.cell? ⟨w.heap.size + 1, 0, none⟩ = some (.slice none 0 0) := br.cell 0
  have zo0 : w2.frozen? ⟨w.heap.size + 1 + 1, 0, none⟩ = false := bo.frozen 0
  have zr0 : w2.frozen? ⟨w.heap.size + 1, 0, none⟩ = false := br.frozen 0
  have fp1 : w2.cell? ⟨w.heap.size, 1, none⟩ = some (c1) := bp.cell 1
  have fo1 : w2.cell? ⟨w.heap.size + 1 + 1, 1, none⟩ = some (.slice A1 x.content.length k1) := bo.cell 1
  have fr1 : w2.cell? ⟨w.heap.size + 1, 1, none⟩ = some (.slice none 0 0) := br.cell 1
  have zo1 : w2.frozen? ⟨w.heap.size + 1 + 1, 1, none⟩ = false := bo.frozen 1
  have zr1 : w2.frozen? ⟨w.heap.size + 1, 1, none⟩ = false := br.frozen 1
  have fp2 : w2.cell? ⟨w.heap.size, 2, none⟩ = some (c2) := bp.cell 2
  have fo2 : w2.cell? ⟨w.heap.size + 1 + 1, 2, none⟩ = some (.slice none 0 0) := bo.cell 2
  have fr2 : w2.cell? ⟨w.heap.size + 1, 2, none⟩ = some (.slice none 0 0) := br.cell 2
  have zo2 : w2.frozen? ⟨w.heap.size + 1 + 1, 2, none⟩ = false := bo.frozen 2
  have zr2 : w2.frozen? ⟨w.heap.size + 1, 2, none⟩ = false := br.frozen 2
  have fp3 : w2.cell? ⟨w.heap.size, 3, none⟩ = some (.int .i64 x.freshUntil) := bp.cell 3
  have fo3 : w2.cell? ⟨w.heap.size + 1 + 1, 3, none⟩ = some (.int .i64 0) := bo.cell 3
  have fr3 : w2.cell? ⟨w.heap.size + 1, 3, none⟩ = some (.int .i64 0) := br.cell 3
  have zo3 : w2.frozen? ⟨w.heap.size + 1 + 1, 3, none⟩ = false := bo.frozen 3
  have zr3 : w2.frozen? ⟨w.heap.size + 1, 3, none⟩ = false := br.frozen 3
  have fp4 : w2.cell? ⟨w.heap.size, 4, none⟩ = some (.int .i64 x.signature) := bp.cell 4
  have fo4 : w2.cell? ⟨w.heap.size + 1 + 1, 4, none⟩ = some (.int .i64 0) := bo.cell 4
  have fr4 : w2.cell? ⟨w.heap.size + 1, 4, none⟩ = some (.int .i64 0) := br.cell 4
  have zo4 : w2.frozen? ⟨w.heap.size + 1 + 1, 4, none⟩ = false := bo.frozen 4
  have zr4 : w2.frozen? ⟨w.heap.size + 1, 4, none⟩ = false := br.frozen 4
  go_wp2
  refine bodyPost_ret (v := .agg #[.slice A0 x.name.length k0, .slice A1 x.content.length k1, .slice A2 x.keyName.length k2, .int .i64 x.freshUntil, .int .i64 x.signature]) (by simp [results, Try.results115, go_sem, fr0, fr1, fr2, fr3, fr4]) rfl ⟨⟨_, rfl, ?_⟩, ?_⟩
  · have hsz : ∀ (W : World) (p : Addr) (u : Value), (W.setCell p u).heap.size = W.heap.size := fun W p u => by simp [World.setCell]
    simp only [hsz]
    have QF := fun W => fun h : Fr (w.heap.size + 1 + 1 + 1) w2 W => h
    clear QF
    refine Shape.own.via ?_
    refine Shape.own.pair (lo := w.heap.size) (m := w0.heap.size) (m' := w0.heap.size) (cs := [_]) ?_ (by omega) ?_ (by omega) (by omega)
    · refine Shape.own.wide (lo := w.heap.size + 1 + 1 + 1) (hi := w0.heap.size) ?_ (by omega) (by omega)
      exact Shape.own.fr (N := w.heap.size + 1 + 1 + 1) ((O0.fr Q1 (by omega) (by omega)).fr Q2 (by omega) (by omega)) (by (repeat (refine Fr.setCell ?_ (by omega) _)); exact Fr.refl _ _) (by omega) (by omega)
    refine Shape.own.pair (lo := w0.heap.size) (m := w1.heap.size) (m' := w1.heap.size) (cs := [_]) ?_ (by omega) ?_ (by omega) (by omega)
    · refine Shape.own.wide (lo := w0.heap.size) (hi := w1.heap.size) ?_ (by omega) (by omega)
      exact Shape.own.fr (N := w.heap.size + 1 + 1 + 1) (O1.fr Q2 (by omega) (by omega)) (by (repeat (refine Fr.setCell ?_ (by omega) _)); exact Fr.refl _ _) (by omega) (by omega)
    refine Shape.own.pair (lo := w1.heap.size) (m := w2.heap.size) (m' := w2.heap.size) (cs := [_]) ?_ (by omega) ?_ (by omega) (by omega)
    · refine Shape.own.wide (lo := w1.heap.size) (hi := w2.heap.size) ?_ (by omega) (by omega)
      exact Shape.own.fr (N := w.heap.size + 1 + 1 + 1) O2 (by (repeat (refine Fr.setCell ?_ (by omega) _)); exact Fr.refl _ _) (by omega) (by omega)
    refine Shape.own.pair (lo := w2.heap.size) (m := w2.heap.size) (m' := w2.heap.size) (cs := [_]) ?_ (by omega) ?_ (by omega) (by omega)
    · exact Shape.own_int r3
    exact Shape.own_int r4
  · (repeat (refine Ext.setCell ?_ (by omega) _)); exact E2

set_option maxHeartbeats 400000 in
theorem toDataS_c (v : Value) (l : (List DData)) (w : World) (h : sDataL.rd w [v] l) (hs : (szL szData) l ≤ 1048576) :
    Calls Try.prog 72 #[v] w (Gives sDataL w l) := by
  obtain ⟨A, c, rfl, hl, hm⟩ := Shape.sl_form h
  unfold maxLen at hm
  have hlen := szL_len szData l
  have H := Lib.hid h; clear h
  obtain ⟨i0, hi, hz0, hz1, hz2⟩ := info_parts info_Data
  go_enter Try.func72, Try.ntmps72
  go_wp2_with (refine wpList_make_full _ rfl _ _ 63 rfl w.heap.size 165 i0 _ 5 Try.underlying63 hi hz0 hz1 .i64 .i64 _ _ l.length rfl rfl rfl rfl (by rw [hz2]; omega) (by unfold maxLen; omega) (Nat.le_refl _) ?_; intro w1 hown hgr)
  have hF : Shape.Fill sData 165 w.heap.size l.length w1 [] := Shape.Fill.start (v := .bool true) hown
  have hX : Ext w w1 := (Ext.refl w).grown hgr (by simp)
  clear hown hgr hi hz0 hz1 hz2
  go_loopw [4] (fun i wr => ∃ k : Nat, k ≤ l.length ∧ i = .int .i64 k ∧ Shape.Fill sData 165 w.heap.size l.length wr (l.take k) ∧ Ext w wr) (fun i _ => l.length - (intOf i).toNat)
  case atStart => exact ⟨0, Nat.zero_le _, rfl, hF, hX⟩
  case round =>
    clear hF hX w1
    obtain ⟨k, hk, rfl, hF, hx⟩ := hrel
    by_cases hlt : k < l.length
    · have hkl : (l.take k).length = k := by rw [List.length_take]; omega
      have hroom := fun j hj => hF.room (by rw [hkl]; exact hlt) j hj
      rw [hkl] at hroom
      have hsz := szL_at szData l k hlt
      obtain ⟨b, off, es, rfl, hc, hr⟩ := Shape.sl_at (sDataL.ext hx H.out) hlt
      have hr' := hr
      obtain ⟨c0, c1, c2, rfl, r0, r1, r2, r3, r4⟩ := sData_rd hr
      have f0 := hc 0 _ rfl
      have f1 := hc 1 _ rfl
      have f2 := hc 2 _ rfl
      have f3 := hc 3 _ rfl
      have f4 := hc 4 _ rfl
      simp only [Nat.add_zero, show sData.k = 5 from rfl] at f0 f1 f2 f3 f4
      have HK := Lib.hid hkl; clear hkl hc
      go_wp2_with fail
      refine (toData_c _ l[k] _ hr' (by omega)).mono ?_
      rintro e w1 ⟨⟨r, rfl, hO⟩, hx1⟩
      obtain ⟨d0, d1, d2, rfl, s0, s1, s2, s3, s4⟩ := sData_rd hO.rd
      have hF1 := hF.ext hx1
      have hroom := fun j hj => hF1.room (by rw [HK.out]; exact hlt) j hj
      rw [HK.out] at hroom
      obtain ⟨⟨u0, hu0⟩, hz0⟩ := hroom 0 (by decide)
      obtain ⟨⟨u1, hu1⟩, hz1⟩ := hroom 1 (by decide)
      obtain ⟨⟨u2, hu2⟩, hz2⟩ := hroom 2 (by decide)
      obtain ⟨⟨u3, hu3⟩, hz3⟩ := hroom 3 (by decide)
      obtain ⟨⟨u4, hu4⟩, hz4⟩ := hroom 4 (by decide)
      simp only [Nat.add_zero, show sData.k = 5 from rfl] at hu0 hz0 hu1 hz1 hu2 hz2 hu3 hz3 hu4 hz4
      obtain ⟨A_0, k_0, rfl, _, _⟩ := Shape.sl_form (sData_f0 hO.rd)
      obtain ⟨A_1, k_1, rfl, _, _⟩ := Shape.sl_form (sData_f1 hO.rd)
      obtain ⟨A_2, k_2, rfl, _, _⟩ := Shape.sl_form (sData_f2 hO.rd)
      clear hroom
      have hg : w.heap.size < w1.heap.size := hF1.lt
      go_wp2
      have hkl := HK.out
      have hst := hF.step hx1 hO (by rw [hkl]; exact hlt)
      rw [hkl, ← List.take_succ_eq_append_getElem hlt] at hst
      go_roundw
      case rel => exact ⟨k + 1, by omega, by go_num, by simpa [Shape.putRow, show sData.k = 5 from rfl] using hst, (by (repeat (refine Ext.setCell ?_ (Nat.le_refl _) _)); exact hx.trans hx1)⟩
      case measure => simp [intOf]; omega
    · have : k = l.length := by omega
      subst this
      rw [List.take_length] at hF
      go_wp2
      go_ret
      exact ⟨⟨_, rfl, hF.done rfl (by unfold maxLen; omega)⟩, hx⟩

set_option maxHeartbeats 400000 in
theorem toCacheEntry_c (cs : List Value) (x : DCacheEntry) (w : World) (h : sCacheEntry.rd w cs x) (hs : szCacheEntry x ≤ 1048576) :
    Calls Try.prog 142 #[.agg cs.toArray] w (GivesA sCacheEntry w x) := by
  obtain ⟨c0, c1, c2, rfl, r0, r1⟩ := sCacheEntry_rd h
  unfold szCacheEntry at hs
  go_enter Try.func142, Try.ntmps142
  go_wp2_with fail
  refine (toData_c _ x.data _ (sData.ext (by (repeat (refine Ext.setCell ?_ (by omega) _)); exact (((Ext.refl w).alloc _).alloc _).alloc _) r0) (by omega)).mono ?_
  rintro e w0 ⟨⟨r0', rfl, O0'⟩, hx0⟩
  have hn0 : w.heap.size + 1 + 1 + 1 ≤ w0.heap.size := by have := hx0.size; simpa [World.setCell] using this
  obtain ⟨d0, d1, d2, rfl, y0_0, y0_1, y0_2, y0_3, y0_4⟩ := sData_rd O0'.rd
  obtain ⟨A0_0, k0_0, rfl, _, _⟩ := Shape.sl_form (sData_f0 O0'.rd)
  obtain ⟨A0_1, k0_1, rfl, _, _⟩ := Shape.sl_form (sData_f1 O0'.rd)
  obtain ⟨A0_2, k0_2, rfl, _, _⟩ := Shape.sl_form (sData_f2 O0'.rd)
  have O0 : sData.own (w.heap.size + 1 + 1 + 1) w0.heap.size w0 [.slice A0_0 x.data.name.length k0_0, .slice A0_1 x.data.content.length k0_1, .slice A0_2 x.data.keyName.length k0_2, .int .i64 x.data.freshUntil, .int .i64 x.data.signature] x.data := by simpa [World.setCell] using O0'
  clear O0'
  have bp : Blk w0 (w.heap.size) 195 #[c0, c1, c2, .int .i64 x.data.freshUntil, .int .i64 x.data.signature, .int .i64 x.lastUsed] := Blk.ext hx0 (by (repeat (refine Blk.far ?_ (by omega) _)); exact ((Blk.new w _ _).alloc _).alloc _)
  have br : Blk w0 (w.heap.size + 1) 199 #[.slice none 0 0, .slice none 0 0, .slice none 0 0, .int .i64 0, .int .i64 0, .int .i64 0] := Blk.ext hx0 (by (repeat (refine Blk.far ?_ (by omega) _)); exact (Blk.new_at (by simp)).alloc _)
  have bo : Blk w0 (w.heap.size + 1 + 1) 199 #[.slice none 0 0, .slice none 0 0, .slice none 0 0, .int .i64 0, .int .i64 0, .int .i64 0] := Blk.ext hx0 (Blk.new_at (by simp))
  have E0 : Ext w w0 := Ext.trans (by (repeat (refine Ext.setCell ?_ (by omega) _)); exact (((Ext.refl w).alloc _).alloc _).alloc _) hx0

  clear hx0
  have fp0 : w0.cell? ⟨w.heap.size, 0, none⟩ = some (c0) := bp.cell 0
  have fo0 : w0.cell? ⟨w.heap.size + 1 + 1, 0, none⟩ = some (.slice none 0 0) := bo.cell 0
  have fr0 : w0.cell? ⟨w.heap.size + 1, 0, none⟩ = some (.slice none 0 0) := br.cell 0
  have zo0 : w0.frozen? ⟨w.heap.size + 1 + 1, 0, none⟩ = false := bo.frozen 0
  have zr0 : w0.frozen? ⟨w.heap.size + 1, 0, none⟩ = false := br.frozen 0
  have fp1 : w0.cell? ⟨w.heap.size, 1, none⟩ = some (c1) := bp.cell 1
  have fo1 : w0.cell? ⟨w.heap.size + 1 + 1, 1, none⟩ = some (.slice none 0 0) := bo.cell 1
  have fr1 : w0.cell? ⟨w.heap.size + 1, 1, none⟩ = some (.slice none 0 0) := br.cell 1
  have zo1 : w0.frozen? ⟨w.heap.size + 1 + 1, 1, none⟩ = false := bo.frozen 1
  have zr1 : w0.frozen? ⟨w.heap.size + 1, 1, none⟩ = false := br.frozen 1
  have fp2 : w0.cell? ⟨w.heap.size, 2, none⟩ = some (c2) := bp.cell 2
  have fo2 : w0.cell? ⟨w.heap.size + 1 + 1, 2, none⟩ = some (.slice none 0 0) := bo.cell 2
  have fr2 : w0.cell? ⟨w.heap.size + 1, 2, none⟩ = some (.slice none 0 0) := br.cell 2
  have zo2 : w0.frozen? ⟨w.heap.size + 1 + 1, 2, none⟩ = false := bo.frozen 2
  have zr2 : w0.frozen? ⟨w.heap.size + 1, 2, none⟩ = false := br.frozen 2
  have fp3 : w0.cell? ⟨w.heap.size, 3, none⟩ = some (.int .i64 x.data.freshUntil) := bp.cell 3
  have fo3 : w0.cell? ⟨w.heap.size + 1 + 1, 3, none⟩ = some (.int .i64 0) := bo.cell 3
  have fr3 : w0.cell? ⟨w.heap.size + 1, 3, none⟩ = some (.int .i64 0) := br.cell 3
  have zo3 : w0.frozen? ⟨w.heap.size + 1 + 1, 3, none⟩ = false := bo.frozen 3
  have zr3 : w0.frozen? ⟨w.heap.size + 1, 3, none⟩ = false := br.frozen 3
  have fp4 : w0.cell? ⟨w.heap.size, 4, none⟩ = some (.int .i64 x.data.signature) := bp.cell 4
  have fo4 : w0.cell? ⟨w.heap.size + 1 + 1, 4, none⟩ = some (.int .i64 0) := bo.cell 4
  have fr4 : w0.cell? ⟨w.heap.size + 1, 4, none⟩ = some (.int .i64 0) := br.cell 4
  have zo4 : w0.frozen? ⟨w.heap.size + 1 + 1, 4, none⟩ = false := bo.frozen 4
  have zr4 : w0.frozen? ⟨w.heap.size + 1, 4, none⟩ = false := br.frozen 4
  have fp5 : w0.cell? ⟨w.heap.size, 5, none⟩ = some (.int .i64 x.lastUsed) := bp.cell 5
  have fo5 : w0.cell? ⟨w.heap.size + 1 + 1, 5, none⟩ = some (.int .i64 0) := bo.cell 5
  have fr5 : w0.cell? ⟨w.heap.size + 1, 5, none⟩ = some (.int .i64 0) := br.cell 5
  have zo5 : w0.frozen? ⟨w.heap.size + 1 + 1, 5, none⟩ = false := bo.frozen 5
  have zr5 : w0.frozen? ⟨w.heap.size + 1, 5, none⟩ = false := br.frozen 5
  go_wp2
  refine bodyPost_ret (v := .agg #[.slice A0_0 x.data.name.length k0_0, .slice A0_1 x.data.content.length k0_1, .slice A0_2 x.data.keyName.length k0_2, .int .i64 x.data.freshUntil, .int .i64 x.data.signature, .int .i64 x.lastUsed]) (by simp [results, Try.results142, go_sem, fr0, fr1, fr2, fr3, fr4, fr5]) rfl ⟨⟨_, rfl, ?_⟩, ?_⟩
  · have hsz : ∀ (W : World) (p : Addr) (u : Value), (W.setCell p u).heap.size = W.heap.size := fun W p u => by simp [World.setCell]
    simp only [hsz]
    have QF := fun W => fun h : Fr (w.heap.size + 1 + 1 + 1) w0 W => h
    clear QF
    refine Shape.own.via ?_
    refine Shape.own.pair (lo := w.heap.size) (m := w0.heap.size) (m' := w0.heap.size) (cs := [_, _, _, _, _]) ?_ (by omega) ?_ (by omega) (by omega)
    · refine Shape.own.wide (lo := w.heap.size + 1 + 1 + 1) (hi := w0.heap.size) ?_ (by omega) (by omega)
      exact Shape.own.fr (N := w.heap.size + 1 + 1 + 1) O0 (by (repeat (refine Fr.setCell ?_ (by omega) _)); exact Fr.refl _ _) (by omega) (by omega)
    exact Shape.own_int r1
  · (repeat (refine Ext.setCell ?_ (by omega) _)); exact E0

set_option maxHeartbeats 400000 in
theorem toCacheEntryS_c (v : Value) (l : (List DCacheEntry)) (w : World) (h : sCacheEntryL.rd w [v] l) (hs : (szL szCacheEntry) l ≤ 1048576) :
    Calls Try.prog 116 #[v] w (Gives sCacheEntryL w l) := by
  obtain ⟨A, c, rfl, hl, hm⟩ := Shape.sl_form h
  unfold maxLen at hm
  have hlen := szL_len szCacheEntry l
  have H := Lib.hid h; clear h
  obtain ⟨i0, hi, hz0, hz1, hz2⟩ := info_parts info_CacheEntry
  go_enter Try.func116, Try.ntmps116
  go_wp2_with (refine wpList_make_full _ rfl _ _ 64 rfl w.heap.size 199 i0 _ 6 Try.underlying64 hi hz0 hz1 .i64 .i64 _ _ l.length rfl rfl rfl rfl (by rw [hz2]; omega) (by unfold maxLen; omega) (Nat.le_refl _) ?_; intro w1 hown hgr)
  have hF : Shape.Fill sCacheEntry 199 w.heap.size l.length w1 [] := Shape.Fill.start (v := .bool true) hown
  have hX : Ext w w1 := (Ext.refl w).grown hgr (by simp)
  clear hown hgr hi hz0 hz1 hz2
  go_loopw [4] (fun i wr => ∃ k : Nat, k ≤ l.length ∧ i = .int .i64 k ∧ Shape.Fill sCacheEntry 199 w.heap.size l.length wr (l.take k) ∧ Ext w wr) (fun i _ => l.length - (intOf i).toNat)
  case atStart => exact ⟨0, Nat.zero_le _, rfl, hF, hX⟩
  case round =>
    clear hF hX w1
    obtain ⟨k, hk, rfl, hF, hx⟩ := hrel
    by_cases hlt : k < l.length
    · have hkl : (l.take k).length = k := by rw [List.length_take]; omega
      have hroom := fun j hj => hF.room (by rw [hkl]; exact hlt) j hj
      rw [hkl] at hroom
      have hsz := szL_at szCacheEntry l k hlt
      obtain ⟨b, off, es, rfl, hc, hr⟩ := Shape.sl_at (sCacheEntryL.ext hx H.out) hlt
      have hr' := hr
      obtain ⟨c0, c1, c2, rfl, r0, r1⟩ := sCacheEntry_rd hr
      have f0 := hc 0 _ rfl
      have f1 := hc 1 _ rfl
      have f2 := hc 2 _ rfl
      have f3 := hc 3 _ rfl
      have f4 := hc 4 _ rfl
      have f5 := hc 5 _ rfl
      simp only [Nat.add_zero, show sCacheEntry.k = 6 from rfl] at f0 f1 f2 f3 f4 f5
      have HK := Lib.hid hkl; clear hkl hc
      go_wp2_with fail
      refine (toCacheEntry_c _ l[k] _ hr' (by omega)).mono ?_
      rintro e w1 ⟨⟨r, rfl, hO⟩, hx1⟩
      obtain ⟨d0, d1, d2, rfl, s0, s1⟩ := sCacheEntry_rd hO.rd
      have hF1 := hF.ext hx1
      have hroom := fun j hj => hF1.room (by rw [HK.out]; exact hlt) j hj
      rw [HK.out] at hroom
      obtain ⟨⟨u0, hu0⟩, hz0⟩ := hroom 0 (by decide)
      obtain ⟨⟨u1, hu1⟩, hz1⟩ := hroom 1 (by decide)
      obtain ⟨⟨u2, hu2⟩, hz2⟩ := hroom 2 (by decide)
      obtain ⟨⟨u3, hu3⟩, hz3⟩ := hroom 3 (by decide)
      obtain ⟨⟨u4, hu4⟩, hz4⟩ := hroom 4 (by decide)
      obtain ⟨⟨u5, hu5⟩, hz5⟩ := hroom 5 (by decide)
      simp only [Nat.add_zero, show sCacheEntry.k = 6 from rfl] at hu0 hz0 hu1 hz1 hu2 hz2 hu3 hz3 hu4 hz4 hu5 hz5
      obtain ⟨A_0, k_0, rfl, _, _⟩ := Shape.sl_form (sData_f0 (sCacheEntry_f0 hO.rd))
      obtain ⟨A_1, k_1, rfl, _, _⟩ := Shape.sl_form (sData_f1 (sCacheEntry_f0 hO.rd))
      obtain ⟨A_2, k_2, rfl, _, _⟩ := Shape.sl_form (sData_f2 (sCacheEntry_f0 hO.rd))
      clear hroom
      have hg : w.heap.size < w1.heap.size := hF1.lt
      go_wp2
      have hkl := HK.out
      have hst := hF.step hx1 hO (by rw [hkl]; exact hlt)
      rw [hkl, ← List.take_succ_eq_append_getElem hlt] at hst
      go_roundw
      case rel => exact ⟨k + 1, by omega, by go_num, by simpa [Shape.putRow, show sCacheEntry.k = 6 from rfl] using hst, (by (repeat (refine Ext.setCell ?_ (Nat.le_refl _) _)); exact hx.trans hx1)⟩
      case measure => simp [intOf]; omega
    · have : k = l.length := by omega
      subst this
      rw [List.take_length] at hF
      go_wp2
      go_ret
      exact ⟨⟨_, rfl, hF.done rfl (by unfold maxLen; omega)⟩, hx⟩

set_option maxHeartbeats 400000 in
theorem toContentStore_c (cs : List Value) (x : DContentStore) (w : World) (h : sContentStore.rd w cs x) (hs : szContentStore x ≤ 1048576) :
    Calls Try.prog 73 #[.agg cs.toArray] w (GivesA sContentStore w x) := by
  obtain ⟨c1, rfl, r0, r1⟩ := sContentStore_rd h
  unfold szContentStore at hs
  go_enter Try.func73, Try.ntmps73
  go_wp2_with fail
  refine (toCacheEntryS_c _ x.entries _ (sCacheEntryL.ext (by (repeat (refine Ext.setCell ?_ (by omega) _)); exact (((Ext.refl w).alloc _).alloc _).alloc _) r1) (by omega)).mono ?_
  rintro e w0 ⟨⟨r1', rfl, O0'⟩, hx0⟩
  have hn0 : w.heap.size + 1 + 1 + 1 ≤ w0.heap.size := by have := hx0.size; simpa [World.setCell] using this
  obtain ⟨A0, k0, rfl, _, _⟩ := Shape.sl_form O0'.rd
  have O0 : sCacheEntryL.own (w.heap.size + 1 + 1 + 1) w0.heap.size w0 [.slice A0 x.entries.length k0] x.entries := by simpa [World.setCell] using O0'
  clear O0'
  have bp : Blk w0 (w.heap.size) 54 #[.int .i64 x.capacity, c1] := Blk.ext hx0 (by (repeat (refine Blk.far ?_ (by omega) _)); exact ((Blk.new w _ _).alloc _).alloc _)
  have br : Blk w0 (w.heap.size + 1) 66 #[.int .i64 0, .slice none 0 0] := Blk.ext hx0 (by (repeat (refine Blk.far ?_ (by omega) _)); exact (Blk.new_at (by simp)).alloc _)
  have bo : Blk w0 (w.heap.size + 1 + 1) 66 #[.int .i64 x.capacity, .slice none 0 0] := Blk.ext hx0 (Blk.new_at (by simp))
  have E0 : Ext w w0 := Ext.trans (by (repeat (refine Ext.setCell ?_ (by omega) _)); exact (((Ext.refl w).alloc _).alloc _).alloc _) hx0

  clear hx0
  have fp0 : w0.cell? ⟨w.heap.size, 0, none⟩ = some (.int .i64 x.capacity) := bp.cell 0
  have fo0 : w0.cell? ⟨w.heap.size + 1 + 1, 0, none⟩ = some (.int .i64 x.capacity) := bo.cell 0
  have fr0 : w0.cell? ⟨w.heap.size + 1, 0, none⟩ = some (.int .i64 0) := br.cell 0
  have zo0 : w0.frozen? ⟨w.heap.size + 1 + 1, 0, none⟩ = false := bo.frozen 0
  have zr0 : w0.frozen? ⟨w.heap.size + 1, 0, none⟩ = false := br.frozen 0
  have fp1 : w0.cell? ⟨w.heap.size, 1, none⟩ = some (c1) := bp.cell 1
  have fo1 : w0.cell? ⟨w.heap.size + 1 + 1, 1, none⟩ = some (.slice none 0 0) := bo.cell 1
  have fr1 : w0.cell? ⟨w.heap.size + 1, 1, none⟩ = some (.slice none 0 0) := br.cell 1
  have zo1 : w0.frozen? ⟨w.heap.size + 1 + 1, 1, none⟩ = false := bo.frozen 1
  have zr1 : w0.frozen? ⟨w.heap.size + 1, 1, none⟩ = false := br.frozen 1
  go_wp2
  refine bodyPost_ret (v := .agg #[.int .i64 x.capacity, .slice A0 x.entries.length k0]) (by simp [results, Try.results73, go_sem, fr0, fr1]) rfl ⟨⟨_, rfl, ?_⟩, ?_⟩
  · have hsz : ∀ (W : World) (p : Addr) (u : Value), (W.setCell p u).heap.size = W.heap.size := fun W p u => by simp [World.setCell]
    simp only [hsz]
    have QF := fun W => fun h : Fr (w.heap.size + 1 + 1 + 1) w0 W => h
    clear QF
    refine Shape.own.via ?_
    refine Shape.own.pair (lo := w.heap.size) (m := w.heap.size) (m' := w.heap.size) (cs := [_]) ?_ (by omega) ?_ (by omega) (by omega)
    · exact Shape.own_int r0
    refine Shape.own.wide (lo := w.heap.size + 1 + 1 + 1) (hi := w0.heap.size) ?_ (by omega) (by omega)
    exact Shape.own.fr (N := w.heap.size + 1 + 1 + 1) O0 (by (repeat (refine Fr.setCell ?_ (by omega) _)); exact Fr.refl _ _) (by omega) (by omega)
  · (repeat (refine Ext.setCell ?_ (by omega) _)); exact E0

set_option maxHeartbeats 400000 in
theorem toRequester_c (cs : List Value) (x : DRequester) (w : World) (h : sRequester.rd w cs x) :
    Calls Try.prog 153 #[.agg cs.toArray] w (GivesA sRequester w x) := by
  obtain ⟨rfl, r0, r1, r2⟩ := sRequester_rd h
  go_enter Try.func153, Try.ntmps153
  go_wp2
  refine bodyPost_ret (v := .agg #[.int .i64 x.face, .int .i64 x.nonce, .int .i64 x.expiry]) (by simp [results, Try.results153, go_sem]) rfl ⟨⟨_, rfl, ?_⟩, ?_⟩
  · skip
    refine Shape.own.via ?_
    refine Shape.own.pair (lo := w.heap.size) (m := w.heap.size) (m' := w.heap.size) (cs := [_]) ?_ (by omega) ?_ (by omega) (by simp; try omega)
    · exact Shape.own_int r0
    refine Shape.own.pair (lo := w.heap.size) (m := w.heap.size) (m' := w.heap.size) (cs := [_]) ?_ (by omega) ?_ (by omega) (by simp; try omega)
    · exact Shape.own_int r1
    exact Shape.own_int r2
  · (repeat (refine Ext.setCell ?_ (by omega) _)); exact (((Ext.refl w).alloc _).alloc _).alloc _

set_option maxHeartbeats 400000 in
theorem toRequesterS_c (v : Value) (l : (List DRequester)) (w : World) (h : sRequesterL.rd w [v] l) (hs : (szL (fun _ => 0)) l ≤ 1048576) :
    Calls Try.prog 143 #[v] w (Gives sRequesterL w l) := by
  obtain ⟨A, c, rfl, hl, hm⟩ := Shape.sl_form h
  unfold maxLen at hm
  have hlen := szL_len (fun _ => 0) l
  have H := Lib.hid h; clear h
  obtain ⟨i0, hi, hz0, hz1, hz2⟩ := info_parts info_Requester
  go_enter Try.func143, Try.ntmps143
  go_wp2_with (refine wpList_make_full _ rfl _ _ 168 rfl w.heap.size 211 i0 _ 3 Try.underlying168 hi hz0 hz1 .i64 .i64 _ _ l.length rfl rfl rfl rfl (by rw [hz2]; omega) (by unfold maxLen; omega) (Nat.le_refl _) ?_; intro w1 hown hgr)
  have hF : Shape.Fill sRequester 211 w.heap.size l.length w1 [] := Shape.Fill.start (v := .bool true) hown
  have hX : Ext w w1 := (Ext.refl w).grown hgr (by simp)
  clear hown hgr hi hz0 hz1 hz2
  go_loopw [4] (fun i wr => ∃ k : Nat, k ≤ l.length ∧ i = .int .i64 k ∧ Shape.Fill sRequester 211 w.heap.size l.length wr (l.take k) ∧ Ext w wr) (fun i _ => l.length - (intOf i).toNat)
  case atStart => exact ⟨0, Nat.zero_le _, rfl, hF, hX⟩
  case round =>
    clear hF hX w1
    obtain ⟨k, hk, rfl, hF, hx⟩ := hrel
    by_cases hlt : k < l.length
    · have hkl : (l.take k).length = k := by rw [List.length_take]; omega
      have hroom := fun j hj => hF.room (by rw [hkl]; exact hlt) j hj
      rw [hkl] at hroom
      have hsz := szL_at (fun _ => 0) l k hlt
      obtain ⟨b, off, es, rfl, hc, hr⟩ := Shape.sl_at (sRequesterL.ext hx H.out) hlt
      have hr' := hr
      obtain ⟨rfl, r0, r1, r2⟩ := sRequester_rd hr
      have f0 := hc 0 _ rfl
      have f1 := hc 1 _ rfl
      have f2 := hc 2 _ rfl
      simp only [Nat.add_zero, show sRequester.k = 3 from rfl] at f0 f1 f2
      have HK := Lib.hid hkl; clear hkl hc
      go_wp2_with fail
      refine (toRequester_c _ l[k] _ hr').mono ?_
      rintro e w1 ⟨⟨r, rfl, hO⟩, hx1⟩
      obtain ⟨rfl, s0, s1, s2⟩ := sRequester_rd hO.rd
      have hF1 := hF.ext hx1
      have hroom := fun j hj => hF1.room (by rw [HK.out]; exact hlt) j hj
      rw [HK.out] at hroom
      obtain ⟨⟨u0, hu0⟩, hz0⟩ := hroom 0 (by decide)
      obtain ⟨⟨u1, hu1⟩, hz1⟩ := hroom 1 (by decide)
      obtain ⟨⟨u2, hu2⟩, hz2⟩ := hroom 2 (by decide)
      simp only [Nat.add_zero, show sRequester.k = 3 from rfl] at hu0 hz0 hu1 hz1 hu2 hz2
      skip
      clear hroom
      have hg : w.heap.size < w1.heap.size := hF1.lt
      go_wp2
      have hkl := HK.out
      have hst := hF.step hx1 hO (by rw [hkl]; exact hlt)
      rw [hkl, ← List.take_succ_eq_append_getElem hlt] at hst
      go_roundw
      case rel => exact ⟨k + 1, by omega, by go_num, by simpa [Shape.putRow, show sRequester.k = 3 from rfl] using hst, (by (repeat (refine Ext.setCell ?_ (Nat.le_refl _) _)); exact hx.trans hx1)⟩
      case measure => simp [intOf]; omega
    · have : k = l.length := by omega
      subst this
      rw [List.take_length] at hF
      go_wp2
      go_ret
      exact ⟨⟨_, rfl, hF.done rfl (by unfold maxLen; omega)⟩, hx⟩

set_option maxHeartbeats 400000 in
theorem toPendingInterest_c (cs : List Value) (x : DPendingInterest) (w : World) (h : sPendingInterest.rd w cs x) (hs : szPendingInterest x ≤ 1048576) :
    Calls Try.prog 117 #[.agg cs.toArray] w (GivesA sPendingInterest w x) := by
  obtain ⟨c0, c1, rfl, r0, r1, r2⟩ := sPendingInterest_rd h
  unfold szPendingInterest at hs
  go_enter Try.func117, Try.ntmps117
  go_wp2_with fail
  refine (toName_c _ x.name _ (strs.ext (by (repeat (refine Ext.setCell ?_ (by omega) _)); exact (((Ext.refl w).alloc _).alloc _).alloc _) r0) (by omega)).mono ?_
  rintro e w0 ⟨⟨r0', rfl, O0'⟩, hx0⟩
  have hn0 : w.heap.size + 1 + 1 + 1 ≤ w0.heap.size := by have := hx0.size; simpa [World.setCell] using this
  obtain ⟨d0, rfl⟩ := one_cell (strs.len O0'.rd)
  obtain ⟨A0, k0, rfl, _, _⟩ := Shape.sl_form O0'.rd
  have O0 : strs.own (w.heap.size + 1 + 1 + 1) w0.heap.size w0 [.slice A0 x.name.length k0] x.name := by simpa [World.setCell] using O0'
  clear O0'
  have bp : Blk w0 (w.heap.size) 154 #[c0, c1, .int .i64 x.lastSent] := Blk.ext hx0 (by (repeat (refine Blk.far ?_ (by omega) _)); exact ((Blk.new w _ _).alloc _).alloc _)
  have br : Blk w0 (w.heap.size + 1) 170 #[.slice none 0 0, .slice none 0 0, .int .i64 0] := Blk.ext hx0 (by (repeat (refine Blk.far ?_ (by omega) _)); exact (Blk.new_at (by simp)).alloc _)
  have bo : Blk w0 (w.heap.size + 1 + 1) 170 #[.slice none 0 0, .slice none 0 0, .int .i64 0] := Blk.ext hx0 (Blk.new_at (by simp))
  have E0 : Ext w w0 := Ext.trans (by (repeat (refine Ext.setCell ?_ (by omega) _)); exact (((Ext.refl w).alloc _).alloc _).alloc _) hx0

  clear hx0
  have fp0 : w0.cell? ⟨w.heap.size, 0, none⟩ = some (c0) := bp.cell 0
  have fo0 : w0.cell? ⟨w.heap.size + 1 + 1, 0, none⟩ = some (.slice none 0 0) := bo.cell 0
  have fr0 : w0.cell? ⟨w.heap.size + 1, 0, none⟩ = some (.slice none 0 0) := br.cell 0
  have zo0 : w0.frozen? ⟨w.heap.size + 1 + 1, 0, none⟩ = false := bo.frozen 0
  have zr0 : w0.frozen? ⟨w.heap.size + 1, 0, none⟩ = false := br.frozen 0
  have fp1 : w0.cell? ⟨w.heap.size, 1, none⟩ = some (c1) := bp.cell 1
  have fo1 : w0.cell? ⟨w.heap.size + 1 + 1, 1, none⟩ = some (.slice none 0 0) := bo.cell 1
  have fr1 : w0.cell? ⟨w.heap.size + 1, 1, none⟩ = some (.slice none 0 0) := br.cell 1
  have zo1 : w0.frozen? ⟨w.heap.size + 1 + 1, 1, none⟩ = false := bo.frozen 1
  have zr1 : w0.frozen? ⟨w.heap.size + 1, 1, none⟩ = false := br.frozen 1
  have fp2 : w0.cell? ⟨w.heap.size, 2, none⟩ = some (.int .i64 x.lastSent) := bp.cell 2
  have fo2 : w0.cell? ⟨w.heap.size + 1 + 1, 2, none⟩ = some (.int .i64 0) := bo.cell 2
  have fr2 : w0.cell? ⟨w.heap.size + 1, 2, none⟩ = some (.int .i64 0) := br.cell 2
  have zo2 : w0.frozen? ⟨w.heap.size + 1 + 1, 2, none⟩ = false := bo.frozen 2
  have zr2 : w0.frozen? ⟨w.heap.size + 1, 2, none⟩ = false := br.frozen 2
  go_wp2_with fail
  refine (toRequesterS_c _ x.requesters _ (sRequesterL.ext (by (repeat (refine Ext.setCell ?_ (by omega) _)); exact E0) r1) (by omega)).mono ?_
  rintro e w1 ⟨⟨r1', rfl, O1'⟩, hx1⟩
  have hn1 : w0.heap.size ≤ w1.heap.size := by have := hx1.size; simpa [World.setCell] using this
  obtain ⟨A1, k1, rfl, _, _⟩ := Shape.sl_form O1'.rd
  have O1 : sRequesterL.own (w0.heap.size) w1.heap.size w1 [.slice A1 x.requesters.length k1] x.requesters := by simpa [World.setCell] using O1'
  clear O1'
  replace bp : Blk w1 (w.heap.size) 154 #[c0, c1, .int .i64 x.lastSent] := Blk.ext hx1 (by (repeat (refine Blk.far ?_ (by omega) _)); exact bp)
  replace br : Blk w1 (w.heap.size + 1) 170 #[.slice none 0 0, .slice none 0 0, .int .i64 0] := Blk.ext hx1 (by (repeat (refine Blk.far ?_ (by omega) _)); exact br)
  replace bo : Blk w1 (w.heap.size + 1 + 1) 170 #[.slice A0 x.name.length k0, .slice none 0 0, .int .i64 0] := Blk.ext hx1 (by simpa using (Blk.set_ (bo) 0 _))
  have E1 : Ext w w1 := Ext.trans (by (repeat (refine Ext.setCell ?_ (by omega) _)); exact E0) hx1
  have Q1 : Fr (w.heap.size + 1 + 1 + 1) w0 w1 := Fr.trans (by (repeat (refine Fr.setCell ?_ (by omega) _)); exact Fr.refl _ _) (Fr.ext hx1)
  clear hx1
  clear fp0 fo0 fr0 zo0 zr0 fp1 fo1 fr1 zo1 zr1 fp2 fo2 fr2 zo2 zr2
  have fp0 : w1.cell? ⟨w.heap.size, 0, none⟩ = some (c0) := bp.cell 0
  have fo0 : w1.cell? ⟨w.heap.size + 1 + 1, 0, none⟩ = some (.slice A0 x.name.length k0) := bo.cell 0
  have fr0 : w1.cell? ⟨w.heap.size + 1, 0, none⟩ = some (.slice none 0 0) := br.cell 0
  have zo0 : w1.frozen? ⟨w.heap.size + 1 + 1, 0, none⟩ = false := bo.frozen 0
  have zr0 : w1.frozen? ⟨w.heap.size + 1, 0, none⟩ = false := br.frozen 0
  have fp1 : w1.cell? ⟨w.heap.size, 1, none⟩ = some (c1) := bp.cell 1
  have fo1 : w1.cell? ⟨w.heap.size + 1 + 1, 1, none⟩ = some (.slice none 0 0) := bo.cell 1
  have fr1 : w1.cell? ⟨w.heap.size + 1, 1, none⟩ = some (.slice none 0 0) := br.cell 1
  have zo1 : w1.frozen? ⟨w.heap.size + 1 + 1, 1, none⟩ = false := bo.frozen 1
  have zr1 : w1.frozen? ⟨w.heap.size + 1, 1, none⟩ = false := br.frozen 1
  have fp2 : w1.cell? ⟨w.heap.size, 2, none⟩ = some (.int .i64 x.lastSent) := bp.cell 2
  have fo2 : w1.cell? ⟨w.heap.size + 1 + 1, 2, none⟩ = some (.int .i64 0) := bo.cell 2
  have fr2 : w1.cell? ⟨w.heap.size + 1, 2, none⟩ = some (.int .i64 0) := br.cell 2
  have zo2 : w1.frozen? ⟨w.heap.size + 1 + 1, 2, none⟩ = false := bo.frozen 2
  have zr2 : w1.frozen? ⟨w.heap.size + 1, 2, none⟩ = false := br.frozen 2
  go_wp2
  refine bodyPost_ret (v := .agg #[.slice A0 x.name.length k0, .slice A1 x.requesters.length k1, .int .i64 x.lastSent]) (by simp [results, Try.results117, go_sem, fr0, fr1, fr2]) rfl ⟨⟨_, rfl, ?_⟩, ?_⟩
  · have hsz : ∀ (W : World) (p : Addr) (u : Value), (W.setCell p u).heap.size = W.heap.size := fun W p u => by simp [World.setCell]
    simp only [hsz]
    have QF := fun W => fun h : Fr (w.heap.size + 1 + 1 + 1) w1 W => h
    clear QF
    refine Shape.own.via ?_
    refine Shape.own.pair (lo := w.heap.size) (m := w0.heap.size) (m' := w0.heap.size) (cs := [_]) ?_ (by omega) ?_ (by omega) (by omega)
    · refine Shape.own.wide (lo := w.heap.size + 1 + 1 + 1) (hi := w0.heap.size) ?_ (by omega) (by omega)
      exact Shape.own.fr (N := w.heap.size + 1 + 1 + 1) (O0.fr Q1 (by omega) (by omega)) (by (repeat (refine Fr.setCell ?_ (by omega) _)); exact Fr.refl _ _) (by omega) (by omega)
    refine Shape.own.pair (lo := w0.heap.size) (m := w1.heap.size) (m' := w1.heap.size) (cs := [_]) ?_ (by omega) ?_ (by omega) (by omega)
    · refine Shape.own.wide (lo := w0.heap.size) (hi := w1.heap.size) ?_ (by omega) (by omega)
      exact Shape.own.fr (N := w.heap.size + 1 + 1 + 1) O1 (by (repeat (refine Fr.setCell ?_ (by omega) _)); exact Fr.refl _ _) (by omega) (by omega)
    exact Shape.own_int r2
  · (repeat (refine Ext.setCell ?_ (by omega) _)); exact E1

set_option maxHeartbeats 400000 in
theorem toPendingInterestS_c (v : Value) (l : (List DPendingInterest)) (w : World) (h : sPendingInterestL.rd w [v] l) (hs : (szL szPendingInterest) l ≤ 1048576) :
    Calls Try.prog 74 #[v] w (Gives sPendingInterestL w l) := by
  obtain ⟨A, c, rfl, hl, hm⟩ := Shape.sl_form h
  unfold maxLen at hm
  have hlen := szL_len szPendingInterest l
  have H := Lib.hid h; clear h
  obtain ⟨i0, hi, hz0, hz1, hz2⟩ := info_parts info_PendingInterest
  go_enter Try.func74, Try.ntmps74
  go_wp2_with (refine wpList_make_full _ rfl _ _ 67 rfl w.heap.size 170 i0 _ 3 Try.underlying67 hi hz0 hz1 .i64 .i64 _ _ l.length rfl rfl rfl rfl (by rw [hz2]; omega) (by unfold maxLen; omega) (Nat.le_refl _) ?_; intro w1 hown hgr)
  have hF : Shape.Fill sPendingInterest 170 w.heap.size l.length w1 [] := Shape.Fill.start (v := .bool true) hown
  have hX : Ext w w1 := (Ext.refl w).grown hgr (by simp)
  clear hown hgr hi hz0 hz1 hz2
  go_loopw [4] (fun i wr => ∃ k : Nat, k ≤ l.length ∧ i = .int .i64 k ∧ Shape.Fill sPendingInterest 170 w.heap.size l.length wr (l.take k) ∧ Ext w wr) (fun i _ => l.length - (intOf i).toNat)
  case atStart => exact ⟨0, Nat.zero_le _, rfl, hF, hX⟩
  case round =>
    clear hF hX w1
    obtain ⟨k, hk, rfl, hF, hx⟩ := hrel
    by_cases hlt : k < l.length
    · have hkl : (l.take k).length = k := by rw [List.length_take]; omega
      have hroom := fun j hj => hF.room (by rw [hkl]; exact hlt) j hj
      rw [hkl] at hroom
      have hsz := szL_at szPendingInterest l k hlt
      obtain ⟨b, off, es, rfl, hc, hr⟩ := Shape.sl_at (sPendingInterestL.ext hx H.out) hlt
      have hr' := hr
      obtain ⟨c0, c1, rfl, r0, r1, r2⟩ := sPendingInterest_rd hr
      have f0 := hc 0 _ rfl
      have f1 := hc 1 _ rfl
      have f2 := hc 2 _ rfl
      simp only [Nat.add_zero, show sPendingInterest.k = 3 from rfl] at f0 f1 f2
      have HK := Lib.hid hkl; clear hkl hc
      go_wp2_with fail
      refine (toPendingInterest_c _ l[k] _ hr' (by omega)).mono ?_
      rintro e w1 ⟨⟨r, rfl, hO⟩, hx1⟩
      obtain ⟨d0, d1, rfl, s0, s1, s2⟩ := sPendingInterest_rd hO.rd
      have hF1 := hF.ext hx1
      have hroom := fun j hj => hF1.room (by rw [HK.out]; exact hlt) j hj
      rw [HK.out] at hroom
      obtain ⟨⟨u0, hu0⟩, hz0⟩ := hroom 0 (by decide)
      obtain ⟨⟨u1, hu1⟩, hz1⟩ := hroom 1 (by decide)
      obtain ⟨⟨u2, hu2⟩, hz2⟩ := hroom 2 (by decide)
      simp only [Nat.add_zero, show sPendingInterest.k = 3 from rfl] at hu0 hz0 hu1 hz1 hu2 hz2
      obtain ⟨A_0, k_0, rfl, _, _⟩ := Shape.sl_form (sPendingInterest_f0 hO.rd)
      obtain ⟨A_1, k_1, rfl, _, _⟩ := Shape.sl_form (sPendingInterest_f1 hO.rd)
      clear hroom
      have hg : w.heap.size < w1.heap.size := hF1.lt
      go_wp2
      have hkl := HK.out
      have hst := hF.step hx1 hO (by rw [hkl]; exact hlt)
      rw [hkl, ← List.take_succ_eq_append_getElem hlt] at hst
      go_roundw
      case rel => exact ⟨k + 1, by omega, by go_num, by simpa [Shape.putRow, show sPendingInterest.k = 3 from rfl] using hst, (by (repeat (refine Ext.setCell ?_ (Nat.le_refl _) _)); exact hx.trans hx1)⟩
      case measure => simp [intOf]; omega
    · have : k = l.length := by omega
      subst this
      rw [List.take_length] at hF
      go_wp2
      go_ret
      exact ⟨⟨_, rfl, hF.done rfl (by unfold maxLen; omega)⟩, hx⟩

set_option maxHeartbeats 400000 in
theorem toSeenNonce_c (cs : List Value) (x : DSeenNonce) (w : World) (h : sSeenNonce.rd w cs x) (hs : szSeenNonce x ≤ 1048576) :
    Calls Try.prog 118 #[.agg cs.toArray] w (GivesA sSeenNonce w x) := by
  obtain ⟨c0, rfl, r0, r1⟩ := sSeenNonce_rd h
  unfold szSeenNonce at hs
  go_enter Try.func118, Try.ntmps118
  go_wp2_with fail
  refine (toName_c _ x.name _ (strs.ext (by (repeat (refine Ext.setCell ?_ (by omega) _)); exact (((Ext.refl w).alloc _).alloc _).alloc _) r0) (by omega)).mono ?_
  rintro e w0 ⟨⟨r0', rfl, O0'⟩, hx0⟩
  have hn0 : w.heap.size + 1 + 1 + 1 ≤ w0.heap.size := by have := hx0.size; simpa [World.setCell] using this
  obtain ⟨d0, rfl⟩ := one_cell (strs.len O0'.rd)
  obtain ⟨A0, k0, rfl, _, _⟩ := Shape.sl_form O0'.rd
  have O0 : strs.own (w.heap.size + 1 + 1 + 1) w0.heap.size w0 [.slice A0 x.name.length k0] x.name := by simpa [World.setCell] using O0'
  clear O0'
  have bp : Blk w0 (w.heap.size) 157 #[c0, .int .i64 x.nonce] := Blk.ext hx0 (by (repeat (refine Blk.far ?_ (by omega) _)); exact ((Blk.new w _ _).alloc _).alloc _)
  have br : Blk w0 (w.heap.size + 1) 173 #[.slice none 0 0, .int .i64 0] := Blk.ext hx0 (by (repeat (refine Blk.far ?_ (by omega) _)); exact (Blk.new_at (by simp)).alloc _)
  have bo : Blk w0 (w.heap.size + 1 + 1) 173 #[.slice none 0 0, .int .i64 0] := Blk.ext hx0 (Blk.new_at (by simp))
  have E0 : Ext w w0 := Ext.trans (by (repeat (refine Ext.setCell ?_ (by omega) _)); exact (((Ext.refl w).alloc _).alloc _).alloc _) hx0

  clear hx0
  have fp0 : w0.cell? ⟨w.heap.size, 0, none⟩ = some (c0) := bp.cell 0
  have fo0 : w0.cell? ⟨w.heap.size + 1 + 1, 0, none⟩ = some (.slice none 0 0) := bo.cell 0
  have fr0 : w0.cell? ⟨w.heap.size + 1, 0, none⟩ = some (.slice none 0 0) := br.cell 0
  have zo0 : w0.frozen? ⟨w.heap.size + 1 + 1, 0, none⟩ = false := bo.frozen 0
  have zr0 : w0.frozen? ⟨w.heap.size + 1, 0, none⟩ = false := br.frozen 0
  have fp1 : w0.cell? ⟨w.heap.size, 1, none⟩ = some (.int .i64 x.nonce) := bp.cell 1
  have fo1 : w0.cell? ⟨w.heap.size + 1 + 1, 1, none⟩ = some (.int .i64 0) := bo.cell 1
  have fr1 : w0.cell? ⟨w.heap.size + 1, 1, none⟩ = some (.int .i64 0) := br.cell 1
  have zo1 : w0.frozen? ⟨w.heap.size + 1 + 1, 1, none⟩ = false := bo.frozen 1
  have zr1 : w0.frozen? ⟨w.heap.size + 1, 1, none⟩ = false := br.frozen 1
  go_wp2
  refine bodyPost_ret (v := .agg #[.slice A0 x.name.length k0, .int .i64 x.nonce]) (by simp [results, Try.results118, go_sem, fr0, fr1]) rfl ⟨⟨_, rfl, ?_⟩, ?_⟩
  · have hsz : ∀ (W : World) (p : Addr) (u : Value), (W.setCell p u).heap.size = W.heap.size := fun W p u => by simp [World.setCell]
    simp only [hsz]
    have QF := fun W => fun h : Fr (w.heap.size + 1 + 1 + 1) w0 W => h
    clear QF
    refine Shape.own.via ?_
    refine Shape.own.pair (lo := w.heap.size) (m := w0.heap.size) (m' := w0.heap.size) (cs := [_]) ?_ (by omega) ?_ (by omega) (by omega)
    · refine Shape.own.wide (lo := w.heap.size + 1 + 1 + 1) (hi := w0.heap.size) ?_ (by omega) (by omega)
      exact Shape.own.fr (N := w.heap.size + 1 + 1 + 1) O0 (by (repeat (refine Fr.setCell ?_ (by omega) _)); exact Fr.refl _ _) (by omega) (by omega)
    exact Shape.own_int r1
  · (repeat (refine Ext.setCell ?_ (by omega) _)); exact E0

set_option maxHeartbeats 400000 in
theorem toSeenNonceS_c (v : Value) (l : (List DSeenNonce)) (w : World) (h : sSeenNonceL.rd w [v] l) (hs : (szL szSeenNonce) l ≤ 1048576) :
    Calls Try.prog 75 #[v] w (Gives sSeenNonceL w l) := by
  obtain ⟨A, c, rfl, hl, hm⟩ := Shape.sl_form h
  unfold maxLen at hm
  have hlen := szL_len szSeenNonce l
  have H := Lib.hid h; clear h
  obtain ⟨i0, hi, hz0, hz1, hz2⟩ := info_parts info_SeenNonce
  go_enter Try.func75, Try.ntmps75
  go_wp2_with (refine wpList_make_full _ rfl _ _ 68 rfl w.heap.size 173 i0 _ 2 Try.underlying68 hi hz0 hz1 .i64 .i64 _ _ l.length rfl rfl rfl rfl (by rw [hz2]; omega) (by unfold maxLen; omega) (Nat.le_refl _) ?_; intro w1 hown hgr)
  have hF : Shape.Fill sSeenNonce 173 w.heap.size l.length w1 [] := Shape.Fill.start (v := .bool true) hown
  have hX : Ext w w1 := (Ext.refl w).grown hgr (by simp)
  clear hown hgr hi hz0 hz1 hz2
  go_loopw [4] (fun i wr => ∃ k : Nat, k ≤ l.length ∧ i = .int .i64 k ∧ Shape.Fill sSeenNonce 173 w.heap.size l.length wr (l.take k) ∧ Ext w wr) (fun i _ => l.length - (intOf i).toNat)
  case atStart => exact ⟨0, Nat.zero_le _, rfl, hF, hX⟩
  case round =>
    clear hF hX w1
    obtain ⟨k, hk, rfl, hF, hx⟩ := hrel
    by_cases hlt : k < l.length
    · have hkl : (l.take k).length = k := by rw [List.length_take]; omega
      have hroom := fun j hj => hF.room (by rw [hkl]; exact hlt) j hj
      rw [hkl] at hroom
      have hsz := szL_at szSeenNonce l k hlt
      obtain ⟨b, off, es, rfl, hc, hr⟩ := Shape.sl_at (sSeenNonceL.ext hx H.out) hlt
      have hr' := hr
      obtain ⟨c0, rfl, r0, r1⟩ := sSeenNonce_rd hr
      have f0 := hc 0 _ rfl
      have f1 := hc 1 _ rfl
      simp only [Nat.add_zero, show sSeenNonce.k = 2 from rfl] at f0 f1
      have HK := Lib.hid hkl; clear hkl hc
      go_wp2_with fail
      refine (toSeenNonce_c _ l[k] _ hr' (by omega)).mono ?_
      rintro e w1 ⟨⟨r, rfl, hO⟩, hx1⟩
      obtain ⟨d0, rfl, s0, s1⟩ := sSeenNonce_rd hO.rd
      have hF1 := hF.ext hx1
      have hroom := fun j hj => hF1.room (by rw [HK.out]; exact hlt) j hj
      rw [HK.out] at hroom
      obtain ⟨⟨u0, hu0⟩, hz0⟩ := hroom 0 (by decide)
      obtain ⟨⟨u1, hu1⟩, hz1⟩ := hroom 1 (by decide)
      simp only [Nat.add_zero, show sSeenNonce.k = 2 from rfl] at hu0 hz0 hu1 hz1
      obtain ⟨A_0, k_0, rfl, _, _⟩ := Shape.sl_form (sSeenNonce_f0 hO.rd)
      clear hroom
      have hg : w.heap.size < w1.heap.size := hF1.lt
      go_wp2
      have hkl := HK.out
      have hst := hF.step hx1 hO (by rw [hkl]; exact hlt)
      rw [hkl, ← List.take_succ_eq_append_getElem hlt] at hst
      go_roundw
      case rel => exact ⟨k + 1, by omega, by go_num, by simpa [Shape.putRow, show sSeenNonce.k = 2 from rfl] using hst, (by (repeat (refine Ext.setCell ?_ (Nat.le_refl _) _)); exact hx.trans hx1)⟩
      case measure => simp [intOf]; omega
    · have : k = l.length := by omega
      subst this
      rw [List.take_length] at hF
      go_wp2
      go_ret
      exact ⟨⟨_, rfl, hF.done rfl (by unfold maxLen; omega)⟩, hx⟩

set_option maxHeartbeats 400000 in
theorem toRoute_c (cs : List Value) (x : DRoute) (w : World) (h : sRoute.rd w cs x) (hs : szRoute x ≤ 1048576) :
    Calls Try.prog 119 #[.agg cs.toArray] w (GivesA sRoute w x) := by
  obtain ⟨c0, rfl, r0, r1, r2⟩ := sRoute_rd h
  unfold szRoute at hs
  go_enter Try.func119, Try.ntmps119
  go_wp2_with fail
  refine (toName_c _ x.pfx _ (strs.ext (by (repeat (refine Ext.setCell ?_ (by omega) _)); exact (((Ext.refl w).alloc _).alloc _).alloc _) r0) (by omega)).mono ?_
  rintro e w0 ⟨⟨r0', rfl, O0'⟩, hx0⟩
  have hn0 : w.heap.size + 1 + 1 + 1 ≤ w0.heap.size := by have := hx0.size; simpa [World.setCell] using this
  obtain ⟨d0, rfl⟩ := one_cell (strs.len O0'.rd)
  obtain ⟨A0, k0, rfl, _, _⟩ := Shape.sl_form O0'.rd
  have O0 : strs.own (w.heap.size + 1 + 1 + 1) w0.heap.size w0 [.slice A0 x.pfx.length k0] x.pfx := by simpa [World.setCell] using O0'
  clear O0'
  have bp : Blk w0 (w.heap.size) 160 #[c0, .int .i64 x.face, .int .i64 x.cost] := Blk.ext hx0 (by (repeat (refine Blk.far ?_ (by omega) _)); exact ((Blk.new w _ _).alloc _).alloc _)
  have br : Blk w0 (w.heap.size + 1) 176 #[.slice none 0 0, .int .i64 0, .int .i64 0] := Blk.ext hx0 (by (repeat (refine Blk.far ?_ (by omega) _)); exact (Blk.new_at (by simp)).alloc _)
  have bo : Blk w0 (w.heap.size + 1 + 1) 176 #[.slice none 0 0, .int .i64 0, .int .i64 0] := Blk.ext hx0 (Blk.new_at (by simp))
  have E0 : Ext w w0 := Ext.trans (by (repeat (refine Ext.setCell ?_ (by omega) _)); exact (((Ext.refl w).alloc _).alloc _).alloc _) hx0

  clear hx0
  have fp0 : w0.cell? ⟨w.heap.size, 0, none⟩ = some (c0) := bp.cell 0
  have fo0 : w0.cell? ⟨w.heap.size + 1 + 1, 0, none⟩ = some (.slice none 0 0) := bo.cell 0
  have fr0 : w0.cell? ⟨w.heap.size + 1, 0, none⟩ = some (.slice none 0 0) := br.cell 0
  have zo0 : w0.frozen? ⟨w.heap.size + 1 + 1, 0, none⟩ = false := bo.frozen 0
  have zr0 : w0.frozen? ⟨w.heap.size + 1, 0, none⟩ = false := br.frozen 0
  have fp1 : w0.cell? ⟨w.heap.size, 1, none⟩ = some (.int .i64 x.face) := bp.cell 1
  have fo1 : w0.cell? ⟨w.heap.size + 1 + 1, 1, none⟩ = some (.int .i64 0) := bo.cell 1
  have fr1 : w0.cell? ⟨w.heap.size + 1, 1, none⟩ = some (.int .i64 0) := br.cell 1
  have zo1 : w0.frozen? ⟨w.heap.size + 1 + 1, 1, none⟩ = false := bo.frozen 1
  have zr1 : w0.frozen? ⟨w.heap.size + 1, 1, none⟩ = false := br.frozen 1
  have fp2 : w0.cell? ⟨w.heap.size, 2, none⟩ = some (.int .i64 x.cost) := bp.cell 2
  have fo2 : w0.cell? ⟨w.heap.size + 1 + 1, 2, none⟩ = some (.int .i64 0) := bo.cell 2
  have fr2 : w0.cell? ⟨w.heap.size + 1, 2, none⟩ = some (.int .i64 0) := br.cell 2
  have zo2 : w0.frozen? ⟨w.heap.size + 1 + 1, 2, none⟩ = false := bo.frozen 2
  have zr2 : w0.frozen? ⟨w.heap.size + 1, 2, none⟩ = false := br.frozen 2
  go_wp2
  refine bodyPost_ret (v := .agg #[.slice A0 x.pfx.length k0, .int .i64 x.face, .int .i64 x.cost]) (by simp [results, Try.results119, go_sem, fr0, fr1, fr2]) rfl ⟨⟨_, rfl, ?_⟩, ?_⟩
  · have hsz : ∀ (W : World) (p : Addr) (u : Value), (W.setCell p u).heap.size = W.heap.size := fun W p u => by simp [World.setCell]
    simp only [hsz]
    have QF := fun W => fun h : Fr (w.heap.size + 1 + 1 + 1) w0 W => h
    clear QF
    refine Shape.own.via ?_
    refine Shape.own.pair (lo := w.heap.size) (m := w0.heap.size) (m' := w0.heap.size) (cs := [_]) ?_ (by omega) ?_ (by omega) (by omega)
    · refine Shape.own.wide (lo := w.heap.size + 1 + 1 + 1) (hi := w0.heap.size) ?_ (by omega) (by omega)
      exact Shape.own.fr (N := w.heap.size + 1 + 1 + 1) O0 (by (repeat (refine Fr.setCell ?_ (by omega) _)); exact Fr.refl _ _) (by omega) (by omega)
    refine Shape.own.pair (lo := w0.heap.size) (m := w0.heap.size) (m' := w0.heap.size) (cs := [_]) ?_ (by omega) ?_ (by omega) (by omega)
    · exact Shape.own_int r1
    exact Shape.own_int r2
  · (repeat (refine Ext.setCell ?_ (by omega) _)); exact E0

set_option maxHeartbeats 400000 in
theorem toRouteS_c (v : Value) (l : (List DRoute)) (w : World) (h : sRouteL.rd w [v] l) (hs : (szL szRoute) l ≤ 1048576) :
    Calls Try.prog 76 #[v] w (Gives sRouteL w l) := by
  obtain ⟨A, c, rfl, hl, hm⟩ := Shape.sl_form h
  unfold maxLen at hm
  have hlen := szL_len szRoute l
  have H := Lib.hid h; clear h
  obtain ⟨i0, hi, hz0, hz1, hz2⟩ := info_parts info_Route
  go_enter Try.func76, Try.ntmps76
  go_wp2_with (refine wpList_make_full _ rfl _ _ 69 rfl w.heap.size 176 i0 _ 3 Try.underlying69 hi hz0 hz1 .i64 .i64 _ _ l.length rfl rfl rfl rfl (by rw [hz2]; omega) (by unfold maxLen; omega) (Nat.le_refl _) ?_; intro w1 hown hgr)
  have hF : Shape.Fill sRoute 176 w.heap.size l.length w1 [] := Shape.Fill.start (v := .bool true) hown
  have hX : Ext w w1 := (Ext.refl w).grown hgr (by simp)
  clear hown hgr hi hz0 hz1 hz2
  go_loopw [4] (fun i wr => ∃ k : Nat, k ≤ l.length ∧ i = .int .i64 k ∧ Shape.Fill sRoute 176 w.heap.size l.length wr (l.take k) ∧ Ext w wr) (fun i _ => l.length - (intOf i).toNat)
  case atStart => exact ⟨0, Nat.zero_le _, rfl, hF, hX⟩
  case round =>
    clear hF hX w1
    obtain ⟨k, hk, rfl, hF, hx⟩ := hrel
    by_cases hlt : k < l.length
    · have hkl : (l.take k).length = k := by rw [List.length_take]; omega
      have hroom := fun j hj => hF.room (by rw [hkl]; exact hlt) j hj
      rw [hkl] at hroom
      have hsz := szL_at szRoute l k hlt
      obtain ⟨b, off, es, rfl, hc, hr⟩ := Shape.sl_at (sRouteL.ext hx H.out) hlt
      have hr' := hr
      obtain ⟨c0, rfl, r0, r1, r2⟩ := sRoute_rd hr
      have f0 := hc 0 _ rfl
      have f1 := hc 1 _ rfl
      have f2 := hc 2 _ rfl
      simp only [Nat.add_zero, show sRoute.k = 3 from rfl] at f0 f1 f2
      have HK := Lib.hid hkl; clear hkl hc
      go_wp2_with fail
      refine (toRoute_c _ l[k] _ hr' (by omega)).mono ?_
      rintro e w1 ⟨⟨r, rfl, hO⟩, hx1⟩
      obtain ⟨d0, rfl, s0, s1, s2⟩ := sRoute_rd hO.rd
      have hF1 := hF.ext hx1
      have hroom := fun j hj => hF1.room (by rw [HK.out]; exact hlt) j hj
      rw [HK.out] at hroom
      obtain ⟨⟨u0, hu0⟩, hz0⟩ := hroom 0 (by decide)
      obtain ⟨⟨u1, hu1⟩, hz1⟩ := hroom 1 (by decide)
      obtain ⟨⟨u2, hu2⟩, hz2⟩ := hroom 2 (by decide)
      simp only [Nat.add_zero, show sRoute.k = 3 from rfl] at hu0 hz0 hu1 hz1 hu2 hz2
      obtain ⟨A_0, k_0, rfl, _, _⟩ := Shape.sl_form (sRoute_f0 hO.rd)
      clear hroom
      have hg : w.heap.size < w1.heap.size := hF1.lt
      go_wp2
      have hkl := HK.out
      have hst := hF.step hx1 hO (by rw [hkl]; exact hlt)
      rw [hkl, ← List.take_succ_eq_append_getElem hlt] at hst
      go_roundw
      case rel => exact ⟨k + 1, by omega, by go_num, by simpa [Shape.putRow, show sRoute.k = 3 from rfl] using hst, (by (repeat (refine Ext.setCell ?_ (Nat.le_refl _) _)); exact hx.trans hx1)⟩
      case measure => simp [intOf]; omega
    · have : k = l.length := by omega
      subst this
      rw [List.take_length] at hF
      go_wp2
      go_ret
      exact ⟨⟨_, rfl, hF.done rfl (by unfold maxLen; omega)⟩, hx⟩

set_option maxHeartbeats 400000 in
theorem toMeasurement_c (cs : List Value) (x : DMeasurement) (w : World) (h : sMeasurement.rd w cs x) (hs : szMeasurement x ≤ 1048576) :
    Calls Try.prog 120 #[.agg cs.toArray] w (GivesA sMeasurement w x) := by
  obtain ⟨c0, rfl, r0, r1, r2⟩ := sMeasurement_rd h
  unfold szMeasurement at hs
  go_enter Try.func120, Try.ntmps120
  go_wp2_with fail
  refine (toName_c _ x.pfx _ (strs.ext (by (repeat (refine Ext.setCell ?_ (by omega) _)); exact (((Ext.refl w).alloc _).alloc _).alloc _) r0) (by omega)).mono ?_
  rintro e w0 ⟨⟨r0', rfl, O0'⟩, hx0⟩
  have hn0 : w.heap.size + 1 + 1 + 1 ≤ w0.heap.size := by have := hx0.size; simpa [World.setCell] using this
  obtain ⟨d0, rfl⟩ := one_cell (strs.len O0'.rd)
  obtain ⟨A0, k0, rfl, _, _⟩ := Shape.sl_form O0'.rd
  have O0 : strs.own (w.heap.size + 1 + 1 + 1) w0.heap.size w0 [.slice A0 x.pfx.length k0] x.pfx := by simpa [World.setCell] using O0'
  clear O0'
  have bp : Blk w0 (w.heap.size) 163 #[c0, .int .i64 x.face, .int .i64 x.failures] := Blk.ext hx0 (by (repeat (refine Blk.far ?_ (by omega) _)); exact ((Blk.new w _ _).alloc _).alloc _)
  have br : Blk w0 (w.heap.size + 1) 179 #[.slice none 0 0, .int .i64 0, .int .i64 0] := Blk.ext hx0 (by (repeat (refine Blk.far ?_ (by omega) _)); exact (Blk.new_at (by simp)).alloc _)
  have bo : Blk w0 (w.heap.size + 1 + 1) 179 #[.slice none 0 0, .int .i64 0, .int .i64 0] := Blk.ext hx0 (Blk.new_at (by simp))
  have E0 : Ext w w0 := Ext.trans (by (repeat (refine Ext.setCell ?_ (by omega) _)); exact (((Ext.refl w).alloc _).alloc _).alloc _) hx0

  clear hx0
  have fp0 : w0.cell? ⟨w.heap.size, 0, none⟩ = some (c0) := bp.cell 0
  have fo0 : w0.cell? ⟨w.heap.size + 1 + 1, 0, none⟩ = some (.slice none 0 0) := bo.cell 0
  have fr0 : w0.cell? ⟨w.heap.size + 1, 0, none⟩ = some (.slice none 0 0) := br.cell 0
  have zo0 : w0.frozen? ⟨w.heap.size + 1 + 1, 0, none⟩ = false := bo.frozen 0
  have zr0 : w0.frozen? ⟨w.heap.size + 1, 0, none⟩ = false := br.frozen 0
  have fp1 : w0.cell? ⟨w.heap.size, 1, none⟩ = some (.int .i64 x.face) := bp.cell 1
  have fo1 : w0.cell? ⟨w.heap.size + 1 + 1, 1, none⟩ = some (.int .i64 0) := bo.cell 1
  have fr1 : w0.cell? ⟨w.heap.size + 1, 1, none⟩ = some (.int .i64 0) := br.cell 1
  have zo1 : w0.frozen? ⟨w.heap.size + 1 + 1, 1, none⟩ = false := bo.frozen 1
  have zr1 : w0.frozen? ⟨w.heap.size + 1, 1, none⟩ = false := br.frozen 1
  have fp2 : w0.cell? ⟨w.heap.size, 2, none⟩ = some (.int .i64 x.failures) := bp.cell 2
  have fo2 : w0.cell? ⟨w.heap.size + 1 + 1, 2, none⟩ = some (.int .i64 0) := bo.cell 2
  have fr2 : w0.cell? ⟨w.heap.size + 1, 2, none⟩ = some (.int .i64 0) := br.cell 2
  have zo2 : w0.frozen? ⟨w.heap.size + 1 + 1, 2, none⟩ = false := bo.frozen 2
  have zr2 : w0.frozen? ⟨w.heap.size + 1, 2, none⟩ = false := br.frozen 2
  go_wp2
  refine bodyPost_ret (v := .agg #[.slice A0 x.pfx.length k0, .int .i64 x.face, .int .i64 x.failures]) (by simp [results, Try.results120, go_sem, fr0, fr1, fr2]) rfl ⟨⟨_, rfl, ?_⟩, ?_⟩
  · have hsz : ∀ (W : World) (p : Addr) (u : Value), (W.setCell p u).heap.size = W.heap.size := fun W p u => by simp [World.setCell]
    simp only [hsz]
    have QF := fun W => fun h : Fr (w.heap.size + 1 + 1 + 1) w0 W => h
    clear QF
    refine Shape.own.via ?_
    refine Shape.own.pair (lo := w.heap.size) (m := w0.heap.size) (m' := w0.heap.size) (cs := [_]) ?_ (by omega) ?_ (by omega) (by omega)
    · refine Shape.own.wide (lo := w.heap.size + 1 + 1 + 1) (hi := w0.heap.size) ?_ (by omega) (by omega)
      exact Shape.own.fr (N := w.heap.size + 1 + 1 + 1) O0 (by (repeat (refine Fr.setCell ?_ (by omega) _)); exact Fr.refl _ _) (by omega) (by omega)
    refine Shape.own.pair (lo := w0.heap.size) (m := w0.heap.size) (m' := w0.heap.size) (cs := [_]) ?_ (by omega) ?_ (by omega) (by omega)
    · exact Shape.own_int r1
    exact Shape.own_int r2
  · (repeat (refine Ext.setCell ?_ (by omega) _)); exact E0

set_option maxHeartbeats 400000 in
theorem toMeasurementS_c (v : Value) (l : (List DMeasurement)) (w : World) (h : sMeasurementL.rd w [v] l) (hs : (szL szMeasurement) l ≤ 1048576) :
    Calls Try.prog 77 #[v] w (Gives sMeasurementL w l) := by
  obtain ⟨A, c, rfl, hl, hm⟩ := Shape.sl_form h
  unfold maxLen at hm
  have hlen := szL_len szMeasurement l
  have H := Lib.hid h; clear h
  obtain ⟨i0, hi, hz0, hz1, hz2⟩ := info_parts info_Measurement
  go_enter Try.func77, Try.ntmps77
  go_wp2_with (refine wpList_make_full _ rfl _ _ 70 rfl w.heap.size 179 i0 _ 3 Try.underlying70 hi hz0 hz1 .i64 .i64 _ _ l.length rfl rfl rfl rfl (by rw [hz2]; omega) (by unfold maxLen; omega) (Nat.le_refl _) ?_; intro w1 hown hgr)
  have hF : Shape.Fill sMeasurement 179 w.heap.size l.length w1 [] := Shape.Fill.start (v := .bool true) hown
  have hX : Ext w w1 := (Ext.refl w).grown hgr (by simp)
  clear hown hgr hi hz0 hz1 hz2
  go_loopw [4] (fun i wr => ∃ k : Nat, k ≤ l.length ∧ i = .int .i64 k ∧ Shape.Fill sMeasurement 179 w.heap.size l.length wr (l.take k) ∧ Ext w wr) (fun i _ => l.length - (intOf i).toNat)
  case atStart => exact ⟨0, Nat.zero_le _, rfl, hF, hX⟩
  case round =>
    clear hF hX w1
    obtain ⟨k, hk, rfl, hF, hx⟩ := hrel
    by_cases hlt : k < l.length
    · have hkl : (l.take k).length = k := by rw [List.length_take]; omega
      have hroom := fun j hj => hF.room (by rw [hkl]; exact hlt) j hj
      rw [hkl] at hroom
      have hsz := szL_at szMeasurement l k hlt
      obtain ⟨b, off, es, rfl, hc, hr⟩ := Shape.sl_at (sMeasurementL.ext hx H.out) hlt
      have hr' := hr
      obtain ⟨c0, rfl, r0, r1, r2⟩ := sMeasurement_rd hr
      have f0 := hc 0 _ rfl
      have f1 := hc 1 _ rfl
      have f2 := hc 2 _ rfl
      simp only [Nat.add_zero, show sMeasurement.k = 3 from rfl] at f0 f1 f2
      have HK := Lib.hid hkl; clear hkl hc
      go_wp2_with fail
      refine (toMeasurement_c _ l[k] _ hr' (by omega)).mono ?_
      rintro e w1 ⟨⟨r, rfl, hO⟩, hx1⟩
      obtain ⟨d0, rfl, s0, s1, s2⟩ := sMeasurement_rd hO.rd
      have hF1 := hF.ext hx1
      have hroom := fun j hj => hF1.room (by rw [HK.out]; exact hlt) j hj
      rw [HK.out] at hroom
      obtain ⟨⟨u0, hu0⟩, hz0⟩ := hroom 0 (by decide)
      obtain ⟨⟨u1, hu1⟩, hz1⟩ := hroom 1 (by decide)
      obtain ⟨⟨u2, hu2⟩, hz2⟩ := hroom 2 (by decide)
      simp only [Nat.add_zero, show sMeasurement.k = 3 from rfl] at hu0 hz0 hu1 hz1 hu2 hz2
      obtain ⟨A_0, k_0, rfl, _, _⟩ := Shape.sl_form (sMeasurement_f0 hO.rd)
      clear hroom
      have hg : w.heap.size < w1.heap.size := hF1.lt
      go_wp2
      have hkl := HK.out
      have hst := hF.step hx1 hO (by rw [hkl]; exact hlt)
      rw [hkl, ← List.take_succ_eq_append_getElem hlt] at hst
      go_roundw
      case rel => exact ⟨k + 1, by omega, by go_num, by simpa [Shape.putRow, show sMeasurement.k = 3 from rfl] using hst, (by (repeat (refine Ext.setCell ?_ (Nat.le_refl _) _)); exact hx.trans hx1)⟩
      case measure => simp [intOf]; omega
    · have : k = l.length := by omega
      subst this
      rw [List.take_length] at hF
      go_wp2
      go_ret
      exact ⟨⟨_, rfl, hF.done rfl (by unfold maxLen; omega)⟩, hx⟩

set_option maxHeartbeats 400000 in
theorem toNode_c (cs : List Value) (x : DNode) (w : World) (h : sNode.rd w cs x) (hs : szNode x ≤ 1048576) :
    Calls Try.prog 28 #[.agg cs.toArray] w (GivesA sNode w x) := by
  obtain ⟨c0, c2, c3, c4, c5, c6, rfl, r0, r1, r2, r3, r4, r5, r6⟩ := sNode_rd h
  unfold szNode at hs
  go_enter Try.func28, Try.ntmps28
  go_wp2_with fail
  refine (toDataS_c _ x.locals _ (sDataL.ext (by (repeat (refine Ext.setCell ?_ (by omega) _)); exact (((Ext.refl w).alloc _).alloc _).alloc _) r0) (by omega)).mono ?_
  rintro e w0 ⟨⟨r0', rfl, O0'⟩, hx0⟩
  have hn0 : w.heap.size + 1 + 1 + 1 ≤ w0.heap.size := by have := hx0.size; simpa [World.setCell] using this
  obtain ⟨A0, k0, rfl, _, _⟩ := Shape.sl_form O0'.rd
  have O0 : sDataL.own (w.heap.size + 1 + 1 + 1) w0.heap.size w0 [.slice A0 x.locals.length k0] x.locals := by simpa [World.setCell] using O0'
  clear O0'
  have bp : Blk w0 (w.heap.size) 60 #[c0, .int .i64 x.cache.capacity, c2, c3, c4, c5, c6, .int .i64 x.dropped] := Blk.ext hx0 (by (repeat (refine Blk.far ?_ (by omega) _)); exact ((Blk.new w _ _).alloc _).alloc _)
  have br : Blk w0 (w.heap.size + 1) 72 #[.slice none 0 0, .int .i64 0, .slice none 0 0, .slice none 0 0, .slice none 0 0, .slice none 0 0, .slice none 0 0, .int .i64 0] := Blk.ext hx0 (by (repeat (refine Blk.far ?_ (by omega) _)); exact (Blk.new_at (by simp)).alloc _)
  have bo : Blk w0 (w.heap.size + 1 + 1) 72 #[.slice none 0 0, .int .i64 0, .slice none 0 0, .slice none 0 0, .slice none 0 0, .slice none 0 0, .slice none 0 0, .int .i64 0] := Blk.ext hx0 (Blk.new_at (by simp))
  have E0 : Ext w w0 := Ext.trans (by (repeat (refine Ext.setCell ?_ (by omega) _)); exact (((Ext.refl w).alloc _).alloc _).alloc _) hx0

  clear hx0
  have fp0 : w0.cell? ⟨w.heap.size, 0, none⟩ = some (c0) := bp.cell 0
  have fo0 : w0.cell? ⟨w.heap.size + 1 + 1, 0, none⟩ = some (.slice none 0 0) := bo.cell 0
  have fr0 : w0.cell? ⟨w.heap.size + 1, 0, none⟩ = some (.slice none 0 0) := br.cell 0
  have zo0 : w0.frozen? ⟨w.heap.size + 1 + 1, 0, none⟩ = false := bo.frozen 0
  have zr0 : w0.frozen? ⟨w.heap.size + 1, 0, none⟩ = false := br.frozen 0
  have fp1 : w0.cell? ⟨w.heap.size, 1, none⟩ = some (.int .i64 x.cache.capacity) := bp.cell 1
  have fo1 : w0.cell? ⟨w.heap.size + 1 + 1, 1, none⟩ = some (.int .i64 0) := bo.cell 1
  have fr1 : w0.cell? ⟨w.heap.size + 1, 1, none⟩ = some (.int .i64 0) := br.cell 1
  have zo1 : w0.frozen? ⟨w.heap.size + 1 + 1, 1, none⟩ = false := bo.frozen 1
  have zr1 : w0.frozen? ⟨w.heap.size + 1, 1, none⟩ = false := br.frozen 1
  have fp2 : w0.cell? ⟨w.heap.size, 2, none⟩ = some (c2) := bp.cell 2
  have fo2 : w0.cell? ⟨w.heap.size + 1 + 1, 2, none⟩ = some (.slice none 0 0) := bo.cell 2
  have fr2 : w0.cell? ⟨w.heap.size + 1, 2, none⟩ = some (.slice none 0 0) := br.cell 2
  have zo2 : w0.frozen? ⟨w.heap.size + 1 + 1, 2, none⟩ = false := bo.frozen 2
  have zr2 : w0.frozen? ⟨w.heap.size + 1, 2, none⟩ = false := br.frozen 2
  have fp3 : w0.cell? ⟨w.heap.size, 3, none⟩ = some (c3) := bp.cell 3
  have fo3 : w0.cell? ⟨w.heap.size + 1 + 1, 3, none⟩ = some (.slice none 0 0) := bo.cell 3
  have fr3 : w0.cell? ⟨w.heap.size + 1, 3, none⟩ = some (.slice none 0 0) := br.cell 3
  have zo3 : w0.frozen? ⟨w.heap.size + 1 + 1, 3, none⟩ = false := bo.frozen 3
  have zr3 : w0.frozen? ⟨w.heap.size + 1, 3, none⟩ = false := br.frozen 3
  have fp4 : w0.cell? ⟨w.heap.size, 4, none⟩ = some (c4) := bp.cell 4
  have fo4 : w0.cell? ⟨w.heap.size + 1 + 1, 4, none⟩ = some (.slice none 0 0) := bo.cell 4
  have fr4 : w0.cell? ⟨w.heap.size + 1, 4, none⟩ = some (.slice none 0 0) := br.cell 4
  have zo4 : w0.frozen? ⟨w.heap.size + 1 + 1, 4, none⟩ = false := bo.frozen 4
  have zr4 : w0.frozen? ⟨w.heap.size + 1, 4, none⟩ = false := br.frozen 4
  have fp5 : w0.cell? ⟨w.heap.size, 5, none⟩ = some (c5) := bp.cell 5
  have fo5 : w0.cell? ⟨w.heap.size + 1 + 1, 5, none⟩ = some (.slice none 0 0) := bo.cell 5
  have fr5 : w0.cell? ⟨w.heap.size + 1, 5, none⟩ = some (.slice none 0 0) := br.cell 5
  have zo5 : w0.frozen? ⟨w.heap.size + 1 + 1, 5, none⟩ = false := bo.frozen 5
  have zr5 : w0.frozen? ⟨w.heap.size + 1, 5, none⟩ = false := br.frozen 5
  have fp6 : w0.cell? ⟨w.heap.size, 6, none⟩ = some (c6) := bp.cell 6
  have fo6 : w0.cell? ⟨w.heap.size + 1 + 1, 6, none⟩ = some (.slice none 0 0) := bo.cell 6
  have fr6 : w0.cell? ⟨w.heap.size + 1, 6, none⟩ = some (.slice none 0 0) := br.cell 6
  have zo6 : w0.frozen? ⟨w.heap.size + 1 + 1, 6, none⟩ = false := bo.frozen 6
  have zr6 : w0.frozen? ⟨w.heap.size + 1, 6, none⟩ = false := br.frozen 6
  have fp7 : w0.cell? ⟨w.heap.size, 7, none⟩ = some (.int .i64 x.dropped) := bp.cell 7
  have fo7 : w0.cell? ⟨w.heap.size + 1 + 1, 7, none⟩ = some (.int .i64 0) := bo.cell 7
  have fr7 : w0.cell? ⟨w.heap.size + 1, 7, none⟩ = some (.int .i64 0) := br.cell 7
  have zo7 : w0.frozen? ⟨w.heap.size + 1 + 1, 7, none⟩ = false := bo.frozen 7
  have zr7 : w0.frozen? ⟨w.heap.size + 1, 7, none⟩ = false := br.frozen 7
  go_wp2_with fail
  refine (toContentStore_c _ x.cache _ (sContentStore.ext (by (repeat (refine Ext.setCell ?_ (by omega) _)); exact E0) r1) (by omega)).mono ?_
  rintro e w1 ⟨⟨r1', rfl, O1'⟩, hx1⟩
  have hn1 : w0.heap.size ≤ w1.heap.size := by have := hx1.size; simpa [World.setCell] using this
  obtain ⟨d2, rfl, y1_0, y1_1⟩ := sContentStore_rd O1'.rd
  obtain ⟨A1_1, k1_1, rfl, _, _⟩ := Shape.sl_form (sContentStore_f1 O1'.rd)
  have O1 : sContentStore.own (w0.heap.size) w1.heap.size w1 [.int .i64 x.cache.capacity, .slice A1_1 x.cache.entries.length k1_1] x.cache := by simpa [World.setCell] using O1'
  clear O1'
  replace bp : Blk w1 (w.heap.size) 60 #[c0, .int .i64 x.cache.capacity, c2, c3, c4, c5, c6, .int .i64 x.dropped] := Blk.ext hx1 (by (repeat (refine Blk.far ?_ (by omega) _)); exact bp)
  replace br : Blk w1 (w.heap.size + 1) 72 #[.slice none 0 0, .int .i64 0, .slice none 0 0, .slice none 0 0, .slice none 0 0, .slice none 0 0, .slice none 0 0, .int .i64 0] := Blk.ext hx1 (by (repeat (refine Blk.far ?_ (by omega) _)); exact br)
  replace bo : Blk w1 (w.heap.size + 1 + 1) 72 #[.slice A0 x.locals.length k0, .int .i64 0, .slice none 0 0, .slice none 0 0, .slice none 0 0, .slice none 0 0, .slice none 0 0, .int .i64 0] := Blk.ext hx1 (by simpa using (Blk.set_ (bo) 0 _))
  have E1 : Ext w w1 := Ext.trans (by (repeat (refine Ext.setCell ?_ (by omega) _)); exact E0) hx1
  have Q1 : Fr (w.heap.size + 1 + 1 + 1) w0 w1 := Fr.trans (by (repeat (refine Fr.setCell ?_ (by omega) _)); exact Fr.refl _ _) (Fr.ext hx1)
  clear hx1
  clear fp0 fo0 fr0 zo0 zr0 fp1 fo1 fr1 zo1 zr1 fp2 fo2 fr2 zo2 zr2 fp3 fo3 fr3 zo3 zr3 fp4 fo4 fr4 zo4 zr4 fp5 fo5 fr5 zo5 zr5 fp6 fo6 fr6 zo6 zr6 fp7 fo7 fr7 zo7 zr7
  have fp0 : w1.cell? ⟨w.heap.size, 0, none⟩ = some (c0) := bp.cell 0
  have fo0 : w1.cell? ⟨w.heap.size + 1 + 1, 0, none⟩ = some (.slice A0 x.locals.length k0) := bo.cell 0
  have fr0 : w1.cell? ⟨w.heap.size + 1, 0, none⟩ = some (.slice none 0 0) := br.cell 0
  have zo0 : w1.frozen? ⟨w.heap.size + 1 + 1, 0, none⟩ = false := bo.frozen 0
  have zr0 : w1.frozen? ⟨w.heap.size + 1, 0, none⟩ = false := br.frozen 0
  have fp1 : w1.cell? ⟨w.heap.size, 1, none⟩ = some (.int .i64 x.cache.capacity) := bp.cell 1
  have fo1 : w1.cell? ⟨w.heap.size + 1 + 1, 1, none⟩ = some (.int .i64 0) := bo.cell 1
  have fr1 : w1.cell? ⟨w.heap.size + 1, 1, none⟩ = some (.int .i64 0) := br.cell 1
  have zo1 : w1.frozen? ⟨w.heap.size + 1 + 1, 1, none⟩ = false := bo.frozen 1
  have zr1 : w1.frozen? ⟨w.heap.size + 1, 1, none⟩ = false := br.frozen 1
  have fp2 : w1.cell? ⟨w.heap.size, 2, none⟩ = some (c2) := bp.cell 2
  have fo2 : w1.cell? ⟨w.heap.size + 1 + 1, 2, none⟩ = some (.slice none 0 0) := bo.cell 2
  have fr2 : w1.cell? ⟨w.heap.size + 1, 2, none⟩ = some (.slice none 0 0) := br.cell 2
  have zo2 : w1.frozen? ⟨w.heap.size + 1 + 1, 2, none⟩ = false := bo.frozen 2
  have zr2 : w1.frozen? ⟨w.heap.size + 1, 2, none⟩ = false := br.frozen 2
  have fp3 : w1.cell? ⟨w.heap.size, 3, none⟩ = some (c3) := bp.cell 3
  have fo3 : w1.cell? ⟨w.heap.size + 1 + 1, 3, none⟩ = some (.slice none 0 0) := bo.cell 3
  have fr3 : w1.cell? ⟨w.heap.size + 1, 3, none⟩ = some (.slice none 0 0) := br.cell 3
  have zo3 : w1.frozen? ⟨w.heap.size + 1 + 1, 3, none⟩ = false := bo.frozen 3
  have zr3 : w1.frozen? ⟨w.heap.size + 1, 3, none⟩ = false := br.frozen 3
  have fp4 : w1.cell? ⟨w.heap.size, 4, none⟩ = some (c4) := bp.cell 4
  have fo4 : w1.cell? ⟨w.heap.size + 1 + 1, 4, none⟩ = some (.slice none 0 0) := bo.cell 4
  have fr4 : w1.cell? ⟨w.heap.size + 1, 4, none⟩ = some (.slice none 0 0) := br.cell 4
  have zo4 : w1.frozen? ⟨w.heap.size + 1 + 1, 4, none⟩ = false := bo.frozen 4
  have zr4 : w1.frozen? ⟨w.heap.size + 1, 4, none⟩ = false := br.frozen 4
  have fp5 : w1.cell? ⟨w.heap.size, 5, none⟩ = some (c5) := bp.cell 5
  have fo5 : w1.cell? ⟨w.heap.size + 1 + 1, 5, none⟩ = some (.slice none 0 0) := bo.cell 5
  have fr5 : w1.cell? ⟨w.heap.size + 1, 5, none⟩ = some (.slice none 0 0) := br.cell 5
  have zo5 : w1.frozen? ⟨w.heap.size + 1 + 1, 5, none⟩ = false := bo.frozen 5
  have zr5 : w1.frozen? ⟨w.heap.size + 1, 5, none⟩ = false := br.frozen 5
  have fp6 : w1.cell? ⟨w.heap.size, 6, none⟩ = some (c6) := bp.cell 6
  have fo6 : w1.cell? ⟨w.heap.size + 1 + 1, 6, none⟩ = some (.slice none 0 0) := bo.cell 6
  have fr6 : w1.cell? ⟨w.heap.size + 1, 6, none⟩ = some (.slice none 0 0) := br.cell 6
  have zo6 : w1.frozen? ⟨w.heap.size + 1 + 1, 6, none⟩ = false := bo.frozen 6
  have zr6 : w1.frozen? ⟨w.heap.size + 1, 6, none⟩ = false := br.frozen 6
  have fp7 : w1.cell? ⟨w.heap.size, 7, none⟩ = some (.int .i64 x.dropped) := bp.cell 7
  have fo7 : w1.cell? ⟨w.heap.size + 1 + 1, 7, none⟩ = some (.int .i64 0) := bo.cell 7
  have fr7 : w1.cell? ⟨w.heap.size + 1, 7, none⟩ = some (.int .i64 0) := br.cell 7
  have zo7 : w1.frozen? ⟨w.heap.size + 1 + 1, 7, none⟩ = false := bo.frozen 7
  have zr7 : w1.frozen? ⟨w.heap.size + 1, 7, none⟩ = false := br.frozen 7
  go_wp2_with fail
  refine (toPendingInterestS_c _ x.pending _ (sPendingInterestL.ext (by (repeat (refine Ext.setCell ?_ (by omega) _)); exact E1) r2) (by omega)).mono ?_
  rintro e w2 ⟨⟨r2', rfl, O2'⟩, hx2⟩
  have hn2 : w1.heap.size ≤ w2.heap.size := by have := hx2.size; simpa [World.setCell] using this
  obtain ⟨A2, k2, rfl, _, _⟩ := Shape.sl_form O2'.rd
  have O2 : sPendingInterestL.own (w1.heap.size) w2.heap.size w2 [.slice A2 x.pending.length k2] x.pending := by simpa [World.setCell] using O2'
  clear O2'
  replace bp : Blk w2 (w.heap.size) 60 #[c0, .int .i64 x.cache.capacity, c2, c3, c4, c5, c6, .int .i64 x.dropped] := Blk.ext hx2 (by (repeat (refine Blk.far ?_ (by omega) _)); exact bp)
  replace br : Blk w2 (w.heap.size + 1) 72 #[.slice none 0 0, .int .i64 0, .slice none 0 0, .slice none 0 0, .slice none 0 0, .slice none 0 0, .slice none 0 0, .int .i64 0] := Blk.ext hx2 (by (repeat (refine Blk.far ?_ (by omega) _)); exact br)
  replace bo : Blk w2 (w.heap.size + 1 + 1) 72 #[.slice A0 x.locals.length k0, .int .i64 x.cache.capacity, .slice A1_1 x.cache.entries.length k1_1, .slice none 0 0, .slice none 0 0, .slice none 0 0, .slice none 0 0, .int .i64 0] := Blk.ext hx2 (by simpa using (Blk.set_ ((Blk.set_ (bo) 1 _)) 2 _))
  have E2 : Ext w w2 := Ext.trans (by (repeat (refine Ext.setCell ?_ (by omega) _)); exact E1) hx2
  have Q2 : Fr (w.heap.size + 1 + 1 + 1) w1 w2 := Fr.trans (by (repeat (refine Fr.setCell ?_ (by omega) _)); exact Fr.refl _ _) (Fr.ext hx2)
  clear hx2
  clear fp0 fo0 fr0 zo0 zr0 fp1 fo1 fr1 zo1 zr1 fp2 fo2 fr2 zo2 zr2 fp3 fo3 fr3 zo3 zr3 fp4 fo4 fr4 zo4 zr4 fp5 fo5 fr5 zo5 zr5 fp6 fo6 fr6 zo6 zr6 fp7 fo7 fr7 zo7 zr7
  have fp0 : w2.cell? ⟨w.heap.size, 0, none⟩ = some (c0) := bp.cell 0
  have fo0 : w2.cell? ⟨w.heap.size + 1 + 1, 0, none⟩ = some (.slice A0 x.locals.length k0) := bo.cell 0
  have fr0 : w2.cell? ⟨w.heap.size + 1, 0, none⟩ = some (.slice none 0 0) := br.cell 0
  have zo0 : w2.frozen? ⟨w.heap.size + 1 + 1, 0, none⟩ = false := bo.frozen 0
  have zr0 : w2.frozen? ⟨w.heap.size + 1, 0, none⟩ = false := br.frozen 0
  have fp1 : w2.cell? ⟨w.heap.size, 1, none⟩ = some (.int .i64 x.cache.capacity) := bp.cell 1
  have fo1 : w2.cell? ⟨w.heap.size + 1 + 1, 1, none⟩ = some (.int .i64 x.cache.capacity) := bo.cell 1
  have fr1 : w2.cell? ⟨w.heap.size + 1, 1, none⟩ = some (.int .i64 0) := br.cell 1
  have zo1 : w2.frozen? ⟨w.heap.size + 1 + 1, 1, none⟩ = false := bo.frozen 1
  have zr1 : w2.frozen? ⟨w.heap.size + 1, 1, none⟩ = false := br.frozen 1
  have fp2 : w2.cell? ⟨w.heap.size, 2, none⟩ = some (c2) := bp.cell 2
  have fo2 : w2.cell? ⟨w.heap.size + 1 + 1, 2, none⟩ = some (.slice A1_1 x.cache.entries.length k1_1) := bo.cell 2
  have fr2 : w2.cell? ⟨w.heap.size + 1, 2, none⟩ = some (.slice none 0 0) := br.cell 2
  have zo2 : w2.frozen? ⟨w.heap.size + 1 + 1, 2, none⟩ = false := bo.frozen 2
  have zr2 : w2.frozen? ⟨w.heap.size + 1, 2, none⟩ = false := br.frozen 2
  have fp3 : w2.cell? ⟨w.heap.size, 3, none⟩ = some (c3) := bp.cell 3
  have fo3 : w2.cell? ⟨w.heap.size + 1 + 1, 3, none⟩ = some (.slice none 0 0) := bo.cell 3
  have fr3 : w2.cell? ⟨w.heap.size + 1, 3, none⟩ = some (.slice none 0 0) := br.cell 3
  have zo3 : w2.frozen? ⟨w.heap.size + 1 + 1, 3, none⟩ = false := bo.frozen 3
  have zr3 : w2.frozen? ⟨w.heap.size + 1, 3, none⟩ = false := br.frozen 3
  have fp4 : w2.cell? ⟨w.heap.size, 4, none⟩ = some (c4) := bp.cell 4
  have fo4 : w2.cell? ⟨w.heap.size + 1 + 1, 4, none⟩ = some (.slice none 0 0) := bo.cell 4
  have fr4 : w2.cell? ⟨w.heap.size + 1, 4, none⟩ = some (.slice none 0 0) := br.cell 4
  have zo4 : w2.frozen? ⟨w.heap.size + 1 + 1, 4, none⟩ = false := bo.frozen 4
  have zr4 : w2.frozen? ⟨w.heap.size + 1, 4, none⟩ = false := br.frozen 4
  have fp5 : w2.cell? ⟨w.heap.size, 5, none⟩ = some (c5) := bp.cell 5
  have fo5 : w2.cell? ⟨w.heap.size + 1 + 1, 5, none⟩ = some (.slice none 0 0) := bo.cell 5
  have fr5 : w2.cell? ⟨w.heap.size + 1, 5, none⟩ = some (.slice none 0 0) := br.cell 5
  have zo5 : w2.frozen? ⟨w.heap.size + 1 + 1, 5, none⟩ = false := bo.frozen 5
  have zr5 : w2.frozen? ⟨w.heap.size + 1, 5, none⟩ = false := br.frozen 5
  have fp6 : w2.cell? ⟨w.heap.size, 6, none⟩ = some (c6) := bp.cell 6
  have fo6 : w2.cell? ⟨w.heap.size + 1 + 1, 6, none⟩ = some (.slice none 0 0) := bo.cell 6
  have fr6 : w2.cell? ⟨w.heap.size + 1, 6, none⟩ = some (.slice none 0 0) := br.cell 6
  have zo6 : w2.frozen? ⟨w.heap.size + 1 + 1, 6, none⟩ = false := bo.frozen 6
  have zr6 : w2.frozen? ⟨w.heap.size + 1, 6, none⟩ = false := br.frozen 6
  have fp7 : w2.cell? ⟨w.heap.size, 7, none⟩ = some (.int .i64 x.dropped) := bp.cell 7
  have fo7 : w2.cell? ⟨w.heap.size + 1 + 1, 7, none⟩ = some (.int .i64 0) := bo.cell 7
  have fr7 : w2.cell? ⟨w.heap.size + 1, 7, none⟩ = some (.int .i64 0) := br.cell 7
  have zo7 : w2.frozen? ⟨w.heap.size + 1 + 1, 7, none⟩ = false := bo.frozen 7
  have zr7 : w2.frozen? ⟨w.heap.size + 1, 7, none⟩ = false := br.frozen 7
  go_wp2_with fail
  refine (toSeenNonceS_c _ x.seen _ (sSeenNonceL.ext (by (repeat (refine Ext.setCell ?_ (by omega) _)); exact E2) r3) (by omega)).mono ?_
  rintro e w3 ⟨⟨r3', rfl, O3'⟩, hx3⟩
  have hn3 : w2.heap.size ≤ w3.heap.size := by have := hx3.size; simpa [World.setCell] using this
  obtain ⟨A3, k3, rfl, _, _⟩ := Shape.sl_form O3'.rd
  have O3 : sSeenNonceL.own (w2.heap.size) w3.heap.size w3 [.slice A3 x.seen.length k3] x.seen := by simpa [World.setCell] using O3'
  clear O3'
  replace bp : Blk w3 (w.heap.size) 60 #[c0, .int .i64 x.cache.capacity, c2, c3, c4, c5, c6, .int .i64 x.dropped] := Blk.ext hx3 (by (repeat (refine Blk.far ?_ (by omega) _)); exact bp)
  replace br : Blk w3 (w.heap.size + 1) 72 #[.slice none 0 0, .int .i64 0, .slice none 0 0, .slice none 0 0, .slice none 0 0, .slice none 0 0, .slice none 0 0, .int .i64 0] := Blk.ext hx3 (by (repeat (refine Blk.far ?_ (by omega) _)); exact br)
  replace bo : Blk w3 (w.heap.size + 1 + 1) 72 #[.slice A0 x.locals.length k0, .int .i64 x.cache.capacity, .slice A1_1 x.cache.entries.length k1_1, .slice A2 x.pending.length k2, .slice none 0 0, .slice none 0 0, .slice none 0 0, .int .i64 0] := Blk.ext hx3 (by simpa using (Blk.set_ (bo) 3 _))
  have E3 : Ext w w3 := Ext.trans (by (repeat (refine Ext.setCell ?_ (by omega) _)); exact E2) hx3
  have Q3 : Fr (w.heap.size + 1 + 1 + 1) w2 w3 := Fr.trans (by (repeat (refine Fr.setCell ?_ (by omega) _)); exact Fr.refl _ _) (Fr.ext hx3)
  clear hx3
  clear fp0 fo0 fr0 zo0 zr0 fp1 fo1 fr1 zo1 zr1 fp2 fo2 fr2 zo2 zr2 fp3 fo3 fr3 zo3 zr3 fp4 fo4 fr4 zo4 zr4 fp5 fo5 fr5 zo5 zr5 fp6 fo6 fr6 zo6 zr6 fp7 fo7 fr7 zo7 zr7
  have fp0 : w3.cell? ⟨w.heap.size, 0, none⟩ = some (c0) := bp.cell 0
  have fo0 : w3.cell? ⟨w.heap.size + 1 + 1, 0, none⟩ = some (.slice A0 x.locals.length k0) := bo.cell 0
  have fr0 : w3.cell? ⟨w.heap.size + 1, 0, none⟩ = some (.slice none 0 0) := br.cell 0
  have zo0 : w3.frozen? ⟨w.heap.size + 1 + 1, 0, none⟩ = false := bo.frozen 0
  have zr0 : w3.frozen? ⟨w.heap.size + 1, 0, none⟩ = false := br.frozen 0
  have fp1 : w3.cell? ⟨w.heap.size, 1, none⟩ = some (.int .i64 x.cache.capacity) := bp.cell 1
  have fo1 : w3.cell? ⟨w.heap.size + 1 + 1, 1, none⟩ = some (.int .i64 x.cache.capacity) := bo.cell 1
  have fr1 : w3.cell? ⟨w.heap.size + 1, 1, none⟩ = some (.int .i64 0) := br.cell 1
  have zo1 : w3.frozen? ⟨w.heap.size + 1 + 1, 1, none⟩ = false := bo.frozen 1
  have zr1 : w3.frozen? ⟨w.heap.size + 1, 1, none⟩ = false := br.frozen 1
  have fp2 : w3.cell? ⟨w.heap.size, 2, none⟩ = some (c2) := bp.cell 2
  have fo2 : w3.cell? ⟨w.heap.size + 1 + 1, 2, none⟩ = some (.slice A1_1 x.cache.entries.length k1_1) := bo.cell 2
  have fr2 : w3.cell? ⟨w.heap.size + 1, 2, none⟩ = some (.slice none 0 0) := br.cell 2
  have zo2 : w3.frozen? ⟨w.heap.size + 1 + 1, 2, none⟩ = false := bo.frozen 2
  have zr2 : w3.frozen? ⟨w.heap.size + 1, 2, none⟩ = false := br.frozen 2
  have fp3 : w3.cell? ⟨w.heap.size, 3, none⟩ = some (c3) := bp.cell 3
  have fo3 : w3.cell? ⟨w.heap.size + 1 + 1, 3, none⟩ = some (.slice A2 x.pending.length k2) := bo.cell 3
  have fr3 : w3.cell? ⟨w.heap.size + 1, 3, none⟩ = some (.slice none 0 0) := br.cell 3
  have zo3 : w3.frozen? ⟨w.heap.size + 1 + 1, 3, none⟩ = false := bo.frozen 3
  have zr3 : w3.frozen? ⟨w.heap.size + 1, 3, none⟩ = false := br.frozen 3
  have fp4 : w3.cell? ⟨w.heap.size, 4, none⟩ = some (c4) := bp.cell 4
  have fo4 : w3.cell? ⟨w.heap.size + 1 + 1, 4, none⟩ = some (.slice none 0 0) := bo.cell 4
  have fr4 : w3.cell? ⟨w.heap.size + 1, 4, none⟩ = some (.slice none 0 0) := br.cell 4
  have zo4 : w3.frozen? ⟨w.heap.size + 1 + 1, 4, none⟩ = false := bo.frozen 4
  have zr4 : w3.frozen? ⟨w.heap.size + 1, 4, none⟩ = false := br.frozen 4
  have fp5 : w3.cell? ⟨w.heap.size, 5, none⟩ = some (c5) := bp.cell 5
  have fo5 : w3.cell? ⟨w.heap.size + 1 + 1, 5, none⟩ = some (.slice none 0 0) := bo.cell 5
  have fr5 : w3.cell? ⟨w.heap.size + 1, 5, none⟩ = some (.slice none 0 0) := br.cell 5
  have zo5 : w3.frozen? ⟨w.heap.size + 1 + 1, 5, none⟩ = false := bo.frozen 5
  have zr5 : w3.frozen? ⟨w.heap.size + 1, 5, none⟩ = false := br.frozen 5
  have fp6 : w3.cell? ⟨w.heap.size, 6, none⟩ = some (c6) := bp.cell 6
  have fo6 : w3.cell? ⟨w.heap.size + 1 + 1, 6, none⟩ = some (.slice none 0 0) := bo.cell 6
  have fr6 : w3.cell? ⟨w.heap.size + 1, 6, none⟩ = some (.slice none 0 0) := br.cell 6
  have zo6 : w3.frozen? ⟨w.heap.size + 1 + 1, 6, none⟩ = false := bo.frozen 6
  have zr6 : w3.frozen? ⟨w.heap.size + 1, 6, none⟩ = false := br.frozen 6
  have fp7 : w3.cell? ⟨w.heap.size, 7, none⟩ = some (.int .i64 x.dropped) := bp.cell 7
  have fo7 : w3.cell? ⟨w.heap.size + 1 + 1, 7, none⟩ = some (.int .i64 0) := bo.cell 7
  have fr7 : w3.cell? ⟨w.heap.size + 1, 7, none⟩ = some (.int .i64 0) := br.cell 7
  have zo7 : w3.frozen? ⟨w.heap.size + 1 + 1, 7, none⟩ = false := bo.frozen 7
  have zr7 : w3.frozen? ⟨w.heap.size + 1, 7, none⟩ = false := br.frozen 7
  go_wp2_with fail
  refine (toRouteS_c _ x.routes _ (sRouteL.ext (by (repeat (refine Ext.setCell ?_ (by omega) _)); exact E3) r4) (by omega)).mono ?_
  rintro e w4 ⟨⟨r4', rfl, O4'⟩, hx4⟩
  have hn4 : w3.heap.size ≤ w4.heap.size := by have := hx4.size; simpa [World.setCell] using this
  obtain ⟨A4, k4, rfl, _, _⟩ := Shape.sl_form O4'.rd
  have O4 : sRouteL.own (w3.heap.size) w4.heap.size w4 [.slice A4 x.routes.length k4] x.routes := by simpa [World.setCell] using O4'
  clear O4'
  replace bp : Blk w4 (w.heap.size) 60 #[c0, .int .i64 x.cache.capacity, c2, c3, c4, c5, c6, .int .i64 x.dropped] := Blk.ext hx4 (by (repeat (refine Blk.far ?_ (by omega) _)); exact bp)
  replace br : Blk w4 (w.heap.size + 1) 72 #[.slice none 0 0, .int .i64 0, .slice none 0 0, .slice none 0 0, .slice none 0 0, .slice none 0 0, .slice none 0 0, .int .i64 0] := Blk.ext hx4 (by (repeat (refine Blk.far ?_ (by omega) _)); exact br)
  replace bo : Blk w4 (w.heap.size + 1 + 1) 72 #[.slice A0 x.locals.length k0, .int .i64 x.cache.capacity, .slice A1_1 x.cache.entries.length k1_1, .slice A2 x.pending.length k2, .slice A3 x.seen.length k3, .slice none 0 0, .slice none 0 0, .int .i64 0] := Blk.ext hx4 (by simpa using (Blk.set_ (bo) 4 _))
  have E4 : Ext w w4 := Ext.trans (by (repeat (refine Ext.setCell ?_ (by omega) _)); exact E3) hx4
  have Q4 : Fr (w.heap.size + 1 + 1 + 1) w3 w4 := Fr.trans (by (repeat (refine Fr.setCell ?_ (by omega) _)); exact Fr.refl _ _) (Fr.ext hx4)
  clear hx4
  clear fp0 fo0 fr0 zo0 zr0 fp1 fo1 fr1 zo1 zr1 fp2 fo2 fr2 zo2 zr2 fp3 fo3 fr3 zo3 zr3 fp4 fo4 fr4 zo4 zr4 fp5 fo5 fr5 zo5 zr5 fp6 fo6 fr6 zo6 zr6 fp7 fo7 fr7 zo7 zr7
  have fp0 : w4.cell? ⟨w.heap.size, 0, none⟩ = some (c0) := bp.cell 0
  have fo0 : w4.cell? ⟨w.heap.size + 1 + 1, 0, none⟩ = some (.slice A0 x.locals.length k0) := bo.cell 0
  have fr0 : w4.cell? ⟨w.heap.size + 1, 0, none⟩ = some (.slice none 0 0) := br.cell 0
  have zo0 : w4.frozen? ⟨w.heap.size + 1 + 1, 0, none⟩ = false := bo.frozen 0
  have zr0 : w4.frozen? ⟨w.heap.size + 1, 0, none⟩ = false := br.frozen 0
  have fp1 : w4.cell? ⟨w.heap.size, 1, none⟩ = some (.int .i64 x.cache.capacity) := bp.cell 1
  have fo1 : w4.cell? ⟨w.heap.size + 1 + 1, 1, none⟩ = some (.int .i64 x.cache.capacity) := bo.cell 1
  have fr1 : w4.cell? ⟨w.heap.size + 1, 1, none⟩ = some (.int .i64 0) := br.cell 1
  have zo1 : w4.frozen? ⟨w.heap.size + 1 + 1, 1, none⟩ = false := bo.frozen 1
  have zr1 : w4.frozen? ⟨w.heap.size + 1, 1, none⟩ = false := br.frozen 1
  have fp2 : w4.cell? ⟨w.heap.size, 2, none⟩ = some (c2) := bp.cell 2
  have fo2 : w4.cell? ⟨w.heap.size + 1 + 1, 2, none⟩ = some (.slice A1_1 x.cache.entries.length k1_1) := bo.cell 2
  have fr2 : w4.cell? ⟨w.heap.size + 1, 2, none⟩ = some (.slice none 0 0) := br.cell 2
  have zo2 : w4.frozen? ⟨w.heap.size + 1 + 1, 2, none⟩ = false := bo.frozen 2
  have zr2 : w4.frozen? ⟨w.heap.size + 1, 2, none⟩ = false := br.frozen 2
  have fp3 : w4.cell? ⟨w.heap.size, 3, none⟩ = some (c3) := bp.cell 3
  have fo3 : w4.cell? ⟨w.heap.size + 1 + 1, 3, none⟩ = some (.slice A2 x.pending.length k2) := bo.cell 3
  have fr3 : w4.cell? ⟨w.heap.size + 1, 3, none⟩ = some (.slice none 0 0) := br.cell 3
  have zo3 : w4.frozen? ⟨w.heap.size + 1 + 1, 3, none⟩ = false := bo.frozen 3
  have zr3 : w4.frozen? ⟨w.heap.size + 1, 3, none⟩ = false := br.frozen 3
  have fp4 : w4.cell? ⟨w.heap.size, 4, none⟩ = some (c4) := bp.cell 4
  have fo4 : w4.cell? ⟨w.heap.size + 1 + 1, 4, none⟩ = some (.slice A3 x.seen.length k3) := bo.cell 4
  have fr4 : w4.cell? ⟨w.heap.size + 1, 4, none⟩ = some (.slice none 0 0) := br.cell 4
  have zo4 : w4.frozen? ⟨w.heap.size + 1 + 1, 4, none⟩ = false := bo.frozen 4
  have zr4 : w4.frozen? ⟨w.heap.size + 1, 4, none⟩ = false := br.frozen 4
  have fp5 : w4.cell? ⟨w.heap.size, 5, none⟩ = some (c5) := bp.cell 5
  have fo5 : w4.cell? ⟨w.heap.size + 1 + 1, 5, none⟩ = some (.slice none 0 0) := bo.cell 5
  have fr5 : w4.cell? ⟨w.heap.size + 1, 5, none⟩ = some (.slice none 0 0) := br.cell 5
  have zo5 : w4.frozen? ⟨w.heap.size + 1 + 1, 5, none⟩ = false := bo.frozen 5
  have zr5 : w4.frozen? ⟨w.heap.size + 1, 5, none⟩ = false := br.frozen 5
  have fp6 : w4.cell? ⟨w.heap.size, 6, none⟩ = some (c6) := bp.cell 6
  have fo6 : w4.cell? ⟨w.heap.size + 1 + 1, 6, none⟩ = some (.slice none 0 0) := bo.cell 6
  have fr6 : w4.cell? ⟨w.heap.size + 1, 6, none⟩ = some (.slice none 0 0) := br.cell 6
  have zo6 : w4.frozen? ⟨w.heap.size + 1 + 1, 6, none⟩ = false := bo.frozen 6
  have zr6 : w4.frozen? ⟨w.heap.size + 1, 6, none⟩ = false := br.frozen 6
  have fp7 : w4.cell? ⟨w.heap.size, 7, none⟩ = some (.int .i64 x.dropped) := bp.cell 7
  have fo7 : w4.cell? ⟨w.heap.size + 1 + 1, 7, none⟩ = some (.int .i64 0) := bo.cell 7
  have fr7 : w4.cell? ⟨w.heap.size + 1, 7, none⟩ = some (.int .i64 0) := br.cell 7
  have zo7 : w4.frozen? ⟨w.heap.size + 1 + 1, 7, none⟩ = false := bo.frozen 7
  have zr7 : w4.frozen? ⟨w.heap.size + 1, 7, none⟩ = false := br.frozen 7
  go_wp2_with fail
  refine (toMeasurementS_c _ x.measurements _ (sMeasurementL.ext (by (repeat (refine Ext.setCell ?_ (by omega) _)); exact E4) r5) (by omega)).mono ?_
  rintro e w5 ⟨⟨r5', rfl, O5'⟩, hx5⟩
  have hn5 : w4.heap.size ≤ w5.heap.size := by have := hx5.size; simpa [World.setCell] using this
  obtain ⟨A5, k5, rfl, _, _⟩ := Shape.sl_form O5'.rd
  have O5 : sMeasurementL.own (w4.heap.size) w5.heap.size w5 [.slice A5 x.measurements.length k5] x.measurements := by simpa [World.setCell] using O5'
  clear O5'
  replace bp : Blk w5 (w.heap.size) 60 #[c0, .int .i64 x.cache.capacity, c2, c3, c4, c5, c6, .int .i64 x.dropped] := Blk.ext hx5 (by (repeat (refine Blk.far ?_ (by omega) _)); exact bp)
  replace br : Blk w5 (w.heap.size + 1) 72 #[.slice none 0 0, .int .i64 0, .slice none 0 0, .slice none 0 0, .slice none 0 0, .slice none 0 0, .slice none 0 0, .int .i64 0] := Blk.ext hx5 (by (repeat (refine Blk.far ?_ (by omega) _)); exact br)
  replace bo : Blk w5 (w.heap.size + 1 + 1) 72 #[.slice A0 x.locals.length k0, .int .i64 x.cache.capacity, .slice A1_1 x.cache.entries.length k1_1, .slice A2 x.pending.length k2, .slice A3 x.seen.length k3, .slice A4 x.routes.length k4, .slice none 0 0, .int .i64 0] := Blk.ext hx5 (by simpa using (Blk.set_ (bo) 5 _))
  have E5 : Ext w w5 := Ext.trans (by (repeat (refine Ext.setCell ?_ (by omega) _)); exact E4) hx5
  have Q5 : Fr (w.heap.size + 1 + 1 + 1) w4 w5 := Fr.trans (by (repeat (refine Fr.setCell ?_ (by omega) _)); exact Fr.refl _ _) (Fr.ext hx5)
  clear hx5
  clear fp0 fo0 fr0 zo0 zr0 fp1 fo1 fr1 zo1 zr1 fp2 fo2 fr2 zo2 zr2 fp3 fo3 fr3 zo3 zr3 fp4 fo4 fr4 zo4 zr4 fp5 fo5 fr5 zo5 zr5 fp6 fo6 fr6 zo6 zr6 fp7 fo7 fr7 zo7 zr7
  have fp0 : w5.cell? ⟨w.heap.size, 0, none⟩ = some (c0) := bp.cell 0
  have fo0 : w5.cell? ⟨w.heap.size + 1 + 1, 0, none⟩ = some (.slice A0 x.locals.length k0) := bo.cell 0
  have fr0 : w5.cell? ⟨w.heap.size + 1, 0, none⟩ = some (.slice none 0 0) := br.cell 0
  have zo0 : w5.frozen? ⟨w.heap.size + 1 + 1, 0, none⟩ = false := bo.frozen 0
  have zr0 : w5.frozen? ⟨w.heap.size + 1, 0, none⟩ = false := br.frozen 0
  have fp1 : w5.cell? ⟨w.heap.size, 1, none⟩ = some (.int .i64 x.cache.capacity) := bp.cell 1
  have fo1 : w5.cell? ⟨w.heap.size + 1 + 1, 1, none⟩ = some (.int .i64 x.cache.capacity) := bo.cell 1
  have fr1 : w5.cell? ⟨w.heap.size + 1, 1, none⟩ = some (.int .i64 0) := br.cell 1
  have zo1 : w5.frozen? ⟨w.heap.size + 1 + 1, 1, none⟩ = false := bo.frozen 1
  have zr1 : w5.frozen? ⟨w.heap.size + 1, 1, none⟩ = false := br.frozen 1
  have fp2 : w5.cell? ⟨w.heap.size, 2, none⟩ = some (c2) := bp.cell 2
  have fo2 : w5.cell? ⟨w.heap.size + 1 + 1, 2, none⟩ = some (.slice A1_1 x.cache.entries.length k1_1) := bo.cell 2
  have fr2 : w5.cell? ⟨w.heap.size + 1, 2, none⟩ = some (.slice none 0 0) := br.cell 2
  have zo2 : w5.frozen? ⟨w.heap.size + 1 + 1, 2, none⟩ = false := bo.frozen 2
  have zr2 : w5.frozen? ⟨w.heap.size + 1, 2, none⟩ = false := br.frozen 2
  have fp3 : w5.cell? ⟨w.heap.size, 3, none⟩ = some (c3) := bp.cell 3
  have fo3 : w5.cell? ⟨w.heap.size + 1 + 1, 3, none⟩ = some (.slice A2 x.pending.length k2) := bo.cell 3
  have fr3 : w5.cell? ⟨w.heap.size + 1, 3, none⟩ = some (.slice none 0 0) := br.cell 3
  have zo3 : w5.frozen? ⟨w.heap.size + 1 + 1, 3, none⟩ = false := bo.frozen 3
  have zr3 : w5.frozen? ⟨w.heap.size + 1, 3, none⟩ = false := br.frozen 3
  have fp4 : w5.cell? ⟨w.heap.size, 4, none⟩ = some (c4) := bp.cell 4
  have fo4 : w5.cell? ⟨w.heap.size + 1 + 1, 4, none⟩ = some (.slice A3 x.seen.length k3) := bo.cell 4
  have fr4 : w5.cell? ⟨w.heap.size + 1, 4, none⟩ = some (.slice none 0 0) := br.cell 4
  have zo4 : w5.frozen? ⟨w.heap.size + 1 + 1, 4, none⟩ = false := bo.frozen 4
  have zr4 : w5.frozen? ⟨w.heap.size + 1, 4, none⟩ = false := br.frozen 4
  have fp5 : w5.cell? ⟨w.heap.size, 5, none⟩ = some (c5) := bp.cell 5
  have fo5 : w5.cell? ⟨w.heap.size + 1 + 1, 5, none⟩ = some (.slice A4 x.routes.length k4) := bo.cell 5
  have fr5 : w5.cell? ⟨w.heap.size + 1, 5, none⟩ = some (.slice none 0 0) := br.cell 5
  have zo5 : w5.frozen? ⟨w.heap.size + 1 + 1, 5, none⟩ = false := bo.frozen 5
  have zr5 : w5.frozen? ⟨w.heap.size + 1, 5, none⟩ = false := br.frozen 5
  have fp6 : w5.cell? ⟨w.heap.size, 6, none⟩ = some (c6) := bp.cell 6
  have fo6 : w5.cell? ⟨w.heap.size + 1 + 1, 6, none⟩ = some (.slice none 0 0) := bo.cell 6
  have fr6 : w5.cell? ⟨w.heap.size + 1, 6, none⟩ = some (.slice none 0 0) := br.cell 6
  have zo6 : w5.frozen? ⟨w.heap.size + 1 + 1, 6, none⟩ = false := bo.frozen 6
  have zr6 : w5.frozen? ⟨w.heap.size + 1, 6, none⟩ = false := br.frozen 6
  have fp7 : w5.cell? ⟨w.heap.size, 7, none⟩ = some (.int .i64 x.dropped) := bp.cell 7
  have fo7 : w5.cell? ⟨w.heap.size + 1 + 1, 7, none⟩ = some (.int .i64 0) := bo.cell 7
  have fr7 : w5.cell? ⟨w.heap.size + 1, 7, none⟩ = some (.int .i64 0) := br.cell 7
  have zo7 : w5.frozen? ⟨w.heap.size + 1 + 1, 7, none⟩ = false := bo.frozen 7
  have zr7 : w5.frozen? ⟨w.heap.size + 1, 7, none⟩ = false := br.frozen 7
  go_wp2
  refine bodyPost_ret (v := .agg #[.slice A0 x.locals.length k0, .int .i64 x.cache.capacity, .slice A1_1 x.cache.entries.length k1_1, .slice A2 x.pending.length k2, .slice A3 x.seen.length k3, .slice A4 x.routes.length k4, .slice A5 x.measurements.length k5, .int .i64 x.dropped]) (by simp [results, Try.results28, go_sem, fr0, fr1, fr2, fr3, fr4, fr5, fr6, fr7]) rfl ⟨⟨_, rfl, ?_⟩, ?_⟩
  · have hsz : ∀ (W : World) (p : Addr) (u : Value), (W.setCell p u).heap.size = W.heap.size := fun W p u => by simp [World.setCell]
    simp only [hsz]
    have QF := fun W => fun h : Fr (w.heap.size + 1 + 1 + 1) w5 W => h
    clear QF
    refine Shape.own.via ?_
    refine Shape.own.pair (lo := w.heap.size) (m := w0.heap.size) (m' := w0.heap.size) (cs := [_]) ?_ (by omega) ?_ (by omega) (by omega)
    · refine Shape.own.wide (lo := w.heap.size + 1 + 1 + 1) (hi := w0.heap.size) ?_ (by omega) (by omega)
      exact Shape.own.fr (N := w.heap.size + 1 + 1 + 1) (((((O0.fr Q1 (by omega) (by omega)).fr Q2 (by omega) (by omega)).fr Q3 (by omega) (by omega)).fr Q4 (by omega) (by omega)).fr Q5 (by omega) (by omega)) (by (repeat (refine Fr.setCell ?_ (by omega) _)); exact Fr.refl _ _) (by omega) (by omega)
    refine Shape.own.pair (lo := w0.heap.size) (m := w1.heap.size) (m' := w1.heap.size) (cs := [_, _]) ?_ (by omega) ?_ (by omega) (by omega)
    · refine Shape.own.wide (lo := w0.heap.size) (hi := w1.heap.size) ?_ (by omega) (by omega)
      exact Shape.own.fr (N := w.heap.size + 1 + 1 + 1) ((((O1.fr Q2 (by omega) (by omega)).fr Q3 (by omega) (by omega)).fr Q4 (by omega) (by omega)).fr Q5 (by omega) (by omega)) (by (repeat (refine Fr.setCell ?_ (by omega) _)); exact Fr.refl _ _) (by omega) (by omega)
    refine Shape.own.pair (lo := w1.heap.size) (m := w2.heap.size) (m' := w2.heap.size) (cs := [_]) ?_ (by omega) ?_ (by omega) (by omega)
    · refine Shape.own.wide (lo := w1.heap.size) (hi := w2.heap.size) ?_ (by omega) (by omega)
      exact Shape.own.fr (N := w.heap.size + 1 + 1 + 1) (((O2.fr Q3 (by omega) (by omega)).fr Q4 (by omega) (by omega)).fr Q5 (by omega) (by omega)) (by (repeat (refine Fr.setCell ?_ (by omega) _)); exact Fr.refl _ _) (by omega) (by omega)
    refine Shape.own.pair (lo := w2.heap.size) (m := w3.heap.size) (m' := w3.heap.size) (cs := [_]) ?_ (by omega) ?_ (by omega) (by omega)
    · refine Shape.own.wide (lo := w2.heap.size) (hi := w3.heap.size) ?_ (by omega) (by omega)
      exact Shape.own.fr (N := w.heap.size + 1 + 1 + 1) ((O3.fr Q4 (by omega) (by omega)).fr Q5 (by omega) (by omega)) (by (repeat (refine Fr.setCell ?_ (by omega) _)); exact Fr.refl _ _) (by omega) (by omega)
    refine Shape.own.pair (lo := w3.heap.size) (m := w4.heap.size) (m' := w4.heap.size) (cs := [_]) ?_ (by omega) ?_ (by omega) (by omega)
    · refine Shape.own.wide (lo := w3.heap.size) (hi := w4.heap.size) ?_ (by omega) (by omega)
      exact Shape.own.fr (N := w.heap.size + 1 + 1 + 1) (O4.fr Q5 (by omega) (by omega)) (by (repeat (refine Fr.setCell ?_ (by omega) _)); exact Fr.refl _ _) (by omega) (by omega)
    refine Shape.own.pair (lo := w4.heap.size) (m := w5.heap.size) (m' := w5.heap.size) (cs := [_]) ?_ (by omega) ?_ (by omega) (by omega)
    · refine Shape.own.wide (lo := w4.heap.size) (hi := w5.heap.size) ?_ (by omega) (by omega)
      exact Shape.own.fr (N := w.heap.size + 1 + 1 + 1) O5 (by (repeat (refine Fr.setCell ?_ (by omega) _)); exact Fr.refl _ _) (by omega) (by omega)
    exact Shape.own_int r6
  · (repeat (refine Ext.setCell ?_ (by omega) _)); exact E5

set_option maxHeartbeats 400000 in
theorem toInterest_c (cs : List Value) (x : DInterest) (w : World) (h : sInterest.rd w cs x) (hs : szInterest x ≤ 1048576) :
    Calls Try.prog 33 #[.agg cs.toArray] w (GivesA sInterest w x) := by
  obtain ⟨c0, rfl, r0, r1, r2, r3⟩ := sInterest_rd h
  unfold szInterest at hs
  go_enter Try.func33, Try.ntmps33
  go_wp2_with fail
  refine (toName_c _ x.name _ (strs.ext (by (repeat (refine Ext.setCell ?_ (by omega) _)); exact (((Ext.refl w).alloc _).alloc _).alloc _) r0) (by omega)).mono ?_
  rintro e w0 ⟨⟨r0', rfl, O0'⟩, hx0⟩
  have hn0 : w.heap.size + 1 + 1 + 1 ≤ w0.heap.size := by have := hx0.size; simpa [World.setCell] using this
  obtain ⟨d0, rfl⟩ := one_cell (strs.len O0'.rd)
  obtain ⟨A0, k0, rfl, _, _⟩ := Shape.sl_form O0'.rd
  have O0 : strs.own (w.heap.size + 1 + 1 + 1) w0.heap.size w0 [.slice A0 x.name.length k0] x.name := by simpa [World.setCell] using O0'
  clear O0'
  have bp : Blk w0 (w.heap.size) 77 #[c0, .int .i64 x.nonce, .int .i64 x.hopLimit, .int .i64 x.lifetime] := Blk.ext hx0 (by (repeat (refine Blk.far ?_ (by omega) _)); exact ((Blk.new w _ _).alloc _).alloc _)
  have br : Blk w0 (w.heap.size + 1) 81 #[.slice none 0 0, .int .i64 0, .int .i64 0, .int .i64 0] := Blk.ext hx0 (by (repeat (refine Blk.far ?_ (by omega) _)); exact (Blk.new_at (by simp)).alloc _)
  have bo : Blk w0 (w.heap.size + 1 + 1) 81 #[.slice none 0 0, .int .i64 0, .int .i64 0, .int .i64 0] := Blk.ext hx0 (Blk.new_at (by simp))
  have E0 : Ext w w0 := Ext.trans (by (repeat (refine Ext.setCell ?_ (by omega) _)); exact (((Ext.refl w).alloc _).alloc _).alloc _) hx0

  clear hx0
  have fp0 : w0.cell? ⟨w.heap.size, 0, none⟩ = some (c0) := bp.cell 0
  have fo0 : w0.cell? ⟨w.heap.size + 1 + 1, 0, none⟩ = some (.slice none 0 0) := bo.cell 0
  have fr0 : w0.cell? ⟨w.heap.size + 1, 0, none⟩ = some (.slice none 0 0) := br.cell 0
  have zo0 : w0.frozen? ⟨w.heap.size + 1 + 1, 0, none⟩ = false := bo.frozen 0
  have zr0 : w0.frozen? ⟨w.heap.size + 1, 0, none⟩ = false := br.frozen 0
  have fp1 : w0.cell? ⟨w.heap.size, 1, none⟩ = some (.int .i64 x.nonce) := bp.cell 1
  have fo1 : w0.cell? ⟨w.heap.size + 1 + 1, 1, none⟩ = some (.int .i64 0) := bo.cell 1
  have fr1 : w0.cell? ⟨w.heap.size + 1, 1, none⟩ = some (.int .i64 0) := br.cell 1
  have zo1 : w0.frozen? ⟨w.heap.size + 1 + 1, 1, none⟩ = false := bo.frozen 1
  have zr1 : w0.frozen? ⟨w.heap.size + 1, 1, none⟩ = false := br.frozen 1
  have fp2 : w0.cell? ⟨w.heap.size, 2, none⟩ = some (.int .i64 x.hopLimit) := bp.cell 2
  have fo2 : w0.cell? ⟨w.heap.size + 1 + 1, 2, none⟩ = some (.int .i64 0) := bo.cell 2
  have fr2 : w0.cell? ⟨w.heap.size + 1, 2, none⟩ = some (.int .i64 0) := br.cell 2
  have zo2 : w0.frozen? ⟨w.heap.size + 1 + 1, 2, none⟩ = false := bo.frozen 2
  have zr2 : w0.frozen? ⟨w.heap.size + 1, 2, none⟩ = false := br.frozen 2
  have fp3 : w0.cell? ⟨w.heap.size, 3, none⟩ = some (.int .i64 x.lifetime) := bp.cell 3
  have fo3 : w0.cell? ⟨w.heap.size + 1 + 1, 3, none⟩ = some (.int .i64 0) := bo.cell 3
  have fr3 : w0.cell? ⟨w.heap.size + 1, 3, none⟩ = some (.int .i64 0) := br.cell 3
  have zo3 : w0.frozen? ⟨w.heap.size + 1 + 1, 3, none⟩ = false := bo.frozen 3
  have zr3 : w0.frozen? ⟨w.heap.size + 1, 3, none⟩ = false := br.frozen 3
  go_wp2
  refine bodyPost_ret (v := .agg #[.slice A0 x.name.length k0, .int .i64 x.nonce, .int .i64 x.hopLimit, .int .i64 x.lifetime]) (by simp [results, Try.results33, go_sem, fr0, fr1, fr2, fr3]) rfl ⟨⟨_, rfl, ?_⟩, ?_⟩
  · have hsz : ∀ (W : World) (p : Addr) (u : Value), (W.setCell p u).heap.size = W.heap.size := fun W p u => by simp [World.setCell]
    simp only [hsz]
    have QF := fun W => fun h : Fr (w.heap.size + 1 + 1 + 1) w0 W => h
    clear QF
    refine Shape.own.via ?_
    refine Shape.own.pair (lo := w.heap.size) (m := w0.heap.size) (m' := w0.heap.size) (cs := [_]) ?_ (by omega) ?_ (by omega) (by omega)
    · refine Shape.own.wide (lo := w.heap.size + 1 + 1 + 1) (hi := w0.heap.size) ?_ (by omega) (by omega)
      exact Shape.own.fr (N := w.heap.size + 1 + 1 + 1) O0 (by (repeat (refine Fr.setCell ?_ (by omega) _)); exact Fr.refl _ _) (by omega) (by omega)
    refine Shape.own.pair (lo := w0.heap.size) (m := w0.heap.size) (m' := w0.heap.size) (cs := [_]) ?_ (by omega) ?_ (by omega) (by omega)
    · exact Shape.own_int r1
    refine Shape.own.pair (lo := w0.heap.size) (m := w0.heap.size) (m' := w0.heap.size) (cs := [_]) ?_ (by omega) ?_ (by omega) (by omega)
    · exact Shape.own_int r2
    exact Shape.own_int r3
  · (repeat (refine Ext.setCell ?_ (by omega) _)); exact E0

end Go.Proofs.Ythnkggjgblehaaa
