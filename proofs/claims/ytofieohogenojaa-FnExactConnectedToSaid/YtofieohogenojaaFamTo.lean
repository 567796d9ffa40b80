/- What the families laws.to.. give: a copy in memory of its own. Printed by gen.py. -/
import Derived.Test.YtofieohogenojaaProg
import Derived.Test.YtofieohogenojaaTypes
namespace Go.Proofs.Ytofieohogenojaa
open Go.RowKit
set_option linter.unusedVariables false
set_option linter.unusedSimpArgs false
set_option linter.unusedSectionVars false

set_option maxHeartbeats 400000 in
theorem toLink_c (cs : List Value) (x : DLink) (w : World) (h : sLink.rd w cs x) :
    Calls Try.prog 109 #[.agg cs.toArray] w (GivesA sLink w x) := by
  obtain ⟨rfl, r0, r1⟩ := sLink_rd h
  go_enter Try.func109, Try.ntmps109
  go_wp2
  refine bodyPost_ret (v := .agg #[.int .i64 x.a, .int .i64 x.b]) (by simp [results, Try.results109, go_sem]) rfl ⟨⟨_, rfl, ?_⟩, ?_⟩
  · skip
    refine Shape.own.via ?_
    refine Shape.own.pair (lo := w.heap.size) (m := w.heap.size) (m' := w.heap.size) (cs := [_]) ?_ (by omega) ?_ (by omega) (by simp; try omega)
    · exact Shape.own_int r0
    exact Shape.own_int r1
  · (repeat (refine Ext.setCell ?_ (by omega) _)); exact (((Ext.refl w).alloc _).alloc _).alloc _

set_option maxHeartbeats 400000 in
theorem toLinkS_c (v : Value) (l : (List DLink)) (w : World) (h : sLinkL.rd w [v] l) (hs : (szL (fun _ => 0)) l ≤ 1048576) :
    Calls Try.prog 85 #[v] w (Gives sLinkL w l) := by
  obtain ⟨A, c, rfl, hl, hm⟩ := Shape.sl_form h
  unfold maxLen at hm
  have hlen := szL_len (fun _ => 0) l
  have H := Lib.hid h; clear h
  obtain ⟨i0, hi, hz0, hz1, hz2⟩ := info_parts info_Link
  go_enter Try.func85, Try.ntmps85
  go_wp2_with (refine wpList_make_full _ rfl _ _ 53 rfl w.heap.size 132 i0 _ 2 Try.underlying53 hi hz0 hz1 .i64 .i64 _ _ l.length rfl rfl rfl rfl (by rw [hz2]; omega) (by unfold maxLen; omega) (Nat.le_refl _) ?_; intro w1 hown hgr)
  have hF : Shape.Fill sLink 132 w.heap.size l.length w1 [] := Shape.Fill.start (v := .bool true) hown
  have hX : Ext w w1 := (Ext.refl w).grown hgr (by simp)
  clear hown hgr hi hz0 hz1 hz2
  go_loopw [4] (fun i wr => ∃ k : Nat, k ≤ l.length ∧ i = .int .i64 k ∧ Shape.Fill sLink 132 w.heap.size l.length wr (l.take k) ∧ Ext w wr) (fun i _ => l.length - (intOf i).toNat)
  case atStart => exact ⟨0, Nat.zero_le _, rfl, hF, hX⟩
  case round =>
    clear hF hX w1
    obtain ⟨k, hk, rfl, hF, hx⟩ := hrel
    by_cases hlt : k < l.length
    · have hkl : (l.take k).length = k := by rw [List.length_take]; omega
      have hroom := fun j hj => hF.room (by rw [hkl]; exact hlt) j hj
      rw [hkl] at hroom
      have hsz := szL_at (fun _ => 0) l k hlt
      obtain ⟨b, off, es, rfl, hc, hr⟩ := Shape.sl_at (sLinkL.ext hx H.out) hlt
      have hr' := hr
      obtain ⟨rfl, r0, r1⟩ := sLink_rd hr
      have f0 := hc 0 _ rfl
      have f1 := hc 1 _ rfl
      simp only [Nat.add_zero, show sLink.k = 2 from rfl, Nat.mul_one] at f0 f1
      have HK := Lib.hid hkl; clear hkl hc
      go_wp2_with fail
      refine (toLink_c _ l[k] _ hr').mono ?_
      rintro e w1 ⟨⟨r, rfl, hO⟩, hx1⟩
      obtain ⟨rfl, s0, s1⟩ := sLink_rd hO.rd
      have hF1 := hF.ext hx1
      have hroom := fun j hj => hF1.room (by rw [HK.out]; exact hlt) j hj
      rw [HK.out] at hroom
      obtain ⟨⟨u0, hu0⟩, hz0⟩ := hroom 0 (by decide)
      obtain ⟨⟨u1, hu1⟩, hz1⟩ := hroom 1 (by decide)
      simp only [Nat.add_zero, show sLink.k = 2 from rfl, Nat.mul_one] at hu0 hz0 hu1 hz1
      skip
      clear hroom
      have hg : w.heap.size < w1.heap.size := hF1.lt
      go_wp2
      have hkl := HK.out
      have hst := hF.step hx1 hO (by rw [hkl]; exact hlt)
      rw [hkl, ← List.take_succ_eq_append_getElem hlt] at hst
      go_roundw
      case rel => exact ⟨k + 1, by omega, by go_num, by simpa [Shape.putRow, show sLink.k = 2 from rfl] using hst, (by (repeat (refine Ext.setCell ?_ (Nat.le_refl _) _)); exact hx.trans hx1)⟩
      case measure => simp [intOf]; omega
    · have : k = l.length := by omega
      subst this
      rw [List.take_length] at hF
      go_wp2
      go_ret
      exact ⟨⟨_, rfl, hF.done rfl (by unfold maxLen; omega)⟩, hx⟩

set_option maxHeartbeats 400000 in
theorem toTopology_c (cs : List Value) (x : DTopology) (w : World) (h : sTopology.rd w cs x) (hs : szTopology x ≤ 1048576) :
    Calls Try.prog 51 #[.agg cs.toArray] w (GivesA sTopology w x) := by
  obtain ⟨c1, rfl, r0, r1⟩ := sTopology_rd h
  unfold szTopology at hs
  go_enter Try.func51, Try.ntmps51
  go_wp2_with fail
  refine (toLinkS_c _ x.links _ (sLinkL.ext (by (repeat (refine Ext.setCell ?_ (by omega) _)); exact (((Ext.refl w).alloc _).alloc _).alloc _) r1) (by omega)).mono ?_
  rintro e w0 ⟨⟨r1', rfl, O0'⟩, hx0⟩
  have hn0 : w.heap.size + 1 + 1 + 1 ≤ w0.heap.size := by have := hx0.size; simpa [World.setCell] using this
  obtain ⟨A0, k0, rfl, _, _⟩ := Shape.sl_form O0'.rd
  have O0 : sLinkL.own (w.heap.size + 1 + 1 + 1) w0.heap.size w0 [.slice A0 x.links.length k0] x.links := by simpa [World.setCell] using O0'
  clear O0'
  have bp : Blk w0 (w.heap.size) 46 #[.int .i64 x.size, c1] := Blk.ext hx0 (by (repeat (refine Blk.far ?_ (by omega) _)); exact ((Blk.new w _ _).alloc _).alloc _)
  have br : Blk w0 (w.heap.size + 1) 55 #[.int .i64 0, .slice none 0 0] := Blk.ext hx0 (by (repeat (refine Blk.far ?_ (by omega) _)); exact (Blk.new_at (by simp)).alloc _)
  have bo : Blk w0 (w.heap.size + 1 + 1) 55 #[.int .i64 x.size, .slice none 0 0] := Blk.ext hx0 (Blk.new_at (by simp))
  have E0 : Ext w w0 := Ext.trans (by (repeat (refine Ext.setCell ?_ (by omega) _)); exact (((Ext.refl w).alloc _).alloc _).alloc _) hx0

  clear hx0
  have fp0 : w0.cell? ⟨w.heap.size, 0, none⟩ = some (.int .i64 x.size) := bp.cell 0
  have fo0 : w0.cell? ⟨w.heap.size + 1 + 1, 0, none⟩ = some (.int .i64 x.size) := bo.cell 0
  have fr0 : w0.cell? ⟨w.heap.size + 1, 0, none⟩ = some (.int .i64 0) := br.cell 0
  have zo0 : w0.frozen? ⟨w.heap.size + 1 + 1, 0, none⟩ = false := bo.frozen 0
  have zr0 : w0.frozen? ⟨w.heap.size + 1, 0, none⟩ = false := br.frozen 0
  have fp1 : w0.cell? ⟨w.heap.size, 1, none⟩ = some (c1) := bp.cell 1
  have fo1 : w0.cell? ⟨w.heap.size + 1 + 1, 1, none⟩ = some (.slice none 0 0) := bo.cell 1
  have fr1 : w0.cell? ⟨w.heap.size + 1, 1, none⟩ = some (.slice none 0 0) := br.cell 1
  have zo1 : w0.frozen? ⟨w.heap.size + 1 + 1, 1, none⟩ = false := bo.frozen 1
  have zr1 : w0.frozen? ⟨w.heap.size + 1, 1, none⟩ = false := br.frozen 1
  go_wp2
  refine bodyPost_ret (v := .agg #[.int .i64 x.size, .slice A0 x.links.length k0]) (by simp [results, Try.results51, go_sem, fr0, fr1]) rfl ⟨⟨_, rfl, ?_⟩, ?_⟩
  · have hsz : ∀ (W : World) (p : Addr) (u : Value), (W.setCell p u).heap.size = W.heap.size := fun W p u => by simp [World.setCell]
    simp only [hsz]
    have QF := fun W => fun h : Fr (w.heap.size + 1 + 1 + 1) w0 W => h
    clear QF
    refine Shape.own.via ?_
    refine Shape.own.pair (lo := w.heap.size) (m := w.heap.size) (m' := w.heap.size) (cs := [_]) ?_ (by omega) ?_ (by omega) (by omega)
    · exact Shape.own_int r0
    refine Shape.own.wide (lo := w.heap.size + 1 + 1 + 1) (hi := w0.heap.size) ?_ (by omega) (by omega)
    exact Shape.own.fr (N := w.heap.size + 1 + 1 + 1) O0 (by (repeat (refine Fr.setCell ?_ (by omega) _)); exact Fr.refl _ _) (by omega) (by omega)
  · (repeat (refine Ext.setCell ?_ (by omega) _)); exact E0

set_option maxHeartbeats 400000 in
theorem toStringS_c (v : Value) (l : (List ByteArray)) (w : World) (h : strs.rd w [v] l) (hs : (szL ByteArray.size) l ≤ 1048576) :
    Calls Try.prog 34 #[v] w (Gives strs w l) := by
  obtain ⟨A, c, rfl, hl, hm⟩ := Shape.sl_form h
  unfold maxLen at hm
  have hlen := szL_len ByteArray.size l
  have H := Lib.hid h; clear h
  obtain ⟨i0, hi, hz0, hz1, hz2⟩ := info_parts info_string
  go_enter Try.func34, Try.ntmps34
  go_wp2_with (refine wpList_make_full _ rfl _ _ 26 rfl w.heap.size 9 i0 _ 1 Try.underlying26 hi hz0 hz1 .i64 .i64 _ _ l.length rfl rfl rfl rfl (by rw [hz2]; omega) (by unfold maxLen; omega) (Nat.le_refl _) ?_; intro w1 hown hgr)
  have hF : Shape.Fill Shape.str 9 w.heap.size l.length w1 [] := Shape.Fill.start (v := .bool true) hown
  have hX : Ext w w1 := (Ext.refl w).grown hgr (by simp)
  clear hown hgr hi hz0 hz1 hz2
  go_loopw [4] (fun i wr => ∃ k : Nat, k ≤ l.length ∧ i = .int .i64 k ∧ Shape.Fill Shape.str 9 w.heap.size l.length wr (l.take k) ∧ Ext w wr) (fun i _ => l.length - (intOf i).toNat)
  case atStart => exact ⟨0, Nat.zero_le _, rfl, hF, hX⟩
  case round =>
    clear hF hX w1
    obtain ⟨k, hk, rfl, hF, hx⟩ := hrel
    by_cases hlt : k < l.length
    · have hkl : (l.take k).length = k := by rw [List.length_take]; omega
      have hroom := fun j hj => hF.room (by rw [hkl]; exact hlt) j hj
      rw [hkl] at hroom
      have hsz := szL_at ByteArray.size l k hlt
      obtain ⟨b, off, rfl, hcell, hok⟩ := Shape.str_at (strs.ext hx H.out) hlt
      obtain ⟨⟨u0, hu0⟩, hz0⟩ := hroom 0 (by decide)
      simp only [Nat.add_zero, show Shape.str.k = 1 from rfl, Nat.mul_one] at hu0 hz0
      have HK := Lib.hid hkl; clear hkl hroom
      go_wp2
      have hkl := HK.out
      have hst := hF.step (Ext.refl _) (x := l[k]) (Shape.own_str hok) (by rw [hkl]; exact hlt)
      rw [hkl, ← List.take_succ_eq_append_getElem hlt] at hst
      have hlo : w.heap.size ≤ w.heap.size := Nat.le_refl _
      go_roundw
      case rel => exact ⟨k + 1, by omega, by go_num, by simpa [Shape.putRow, Shape.str, Shape.one] using hst, hx.setCell (Nat.le_refl _) _⟩
      case measure => simp [intOf]; omega
    · have : k = l.length := by omega
      subst this
      rw [List.take_length] at hF
      go_wp2
      go_ret
      exact ⟨⟨_, rfl, hF.done rfl (by unfold maxLen; omega)⟩, hx⟩

set_option maxHeartbeats 400000 in
theorem toName_c (cs : List Value) (x : (List ByteArray)) (w : World) (h : strs.rd w cs x) (hs : (szL ByteArray.size) x ≤ 1048576) :
    Calls Try.prog 9 #[.agg cs.toArray] w (GivesA strs w x) := by
  have r0 := h; obtain ⟨c0, rfl⟩ := one_cell (strs.len h)
  go_enter Try.func9, Try.ntmps9
  go_wp2_with fail
  refine (toStringS_c _ x _ (strs.ext (by (repeat (refine Ext.setCell ?_ (by omega) _)); exact (((Ext.refl w).alloc _).alloc _).alloc _) r0) (by omega)).mono ?_
  rintro e w0 ⟨⟨r0', rfl, O0'⟩, hx0⟩
  have hn0 : w.heap.size + 1 + 1 + 1 ≤ w0.heap.size := by have := hx0.size; simpa [World.setCell] using this
  obtain ⟨A0, k0, rfl, _, _⟩ := Shape.sl_form O0'.rd
  have O0 : strs.own (w.heap.size + 1 + 1 + 1) w0.heap.size w0 [.slice A0 x.length k0] x := by simpa [World.setCell] using O0'
  clear O0'
  have bp : Blk w0 (w.heap.size) 28 #[c0] := Blk.ext hx0 (by (repeat (refine Blk.far ?_ (by omega) _)); exact ((Blk.new w _ _).alloc _).alloc _)
  have br : Blk w0 (w.heap.size + 1) 37 #[.slice none 0 0] := Blk.ext hx0 (by (repeat (refine Blk.far ?_ (by omega) _)); exact (Blk.new_at (by simp)).alloc _)
  have bo : Blk w0 (w.heap.size + 1 + 1) 37 #[.slice none 0 0] := Blk.ext hx0 (Blk.new_at (by simp))
  have E0 : Ext w w0 := Ext.trans (by (repeat (refine Ext.setCell ?_ (by omega) _)); exact (((Ext.refl w).alloc _).alloc _).alloc _) hx0

  clear hx0
  have fp0 : w0.cell? ⟨w.heap.size, 0, none⟩ = some (c0) := bp.cell 0
  have fo0 : w0.cell? ⟨w.heap.size + 1 + 1, 0, none⟩ = some (.slice none 0 0) := bo.cell 0
  have fr0 : w0.cell? ⟨w.heap.size + 1, 0, none⟩ = some (.slice none 0 0) := br.cell 0
  have zo0 : w0.frozen? ⟨w.heap.size + 1 + 1, 0, none⟩ = false := bo.frozen 0
  have zr0 : w0.frozen? ⟨w.heap.size + 1, 0, none⟩ = false := br.frozen 0
  go_wp2
  refine bodyPost_ret (v := .agg #[.slice A0 x.length k0]) (by simp [results, Try.results9, go_sem, fr0]) rfl ⟨⟨_, rfl, ?_⟩, ?_⟩
  · have hsz : ∀ (W : World) (p : Addr) (u : Value), (W.setCell p u).heap.size = W.heap.size := fun W p u => by simp [World.setCell]
    simp only [hsz]
    have QF := fun W => fun h : Fr (w.heap.size + 1 + 1 + 1) w0 W => h
    clear QF
    refine Shape.own.wide (lo := w.heap.size + 1 + 1 + 1) (hi := w0.heap.size) ?_ (by omega) (by omega)
    exact Shape.own.fr (N := w.heap.size + 1 + 1 + 1) O0 (by (repeat (refine Fr.setCell ?_ (by omega) _)); exact Fr.refl _ _) (by omega) (by omega)
  · (repeat (refine Ext.setCell ?_ (by omega) _)); exact E0

set_option maxHeartbeats 400000 in
theorem toTableEntry_c (cs : List Value) (x : DTableEntry) (w : World) (h : sTableEntry.rd w cs x) (hs : szTableEntry x ≤ 1048576) :
    Calls Try.prog 142 #[.agg cs.toArray] w (GivesA sTableEntry w x) := by
  obtain ⟨c0, rfl, r0, r1⟩ := sTableEntry_rd h
  unfold szTableEntry at hs
  go_enter Try.func142, Try.ntmps142
  go_wp2_with fail
  refine (toName_c _ x.name _ (strs.ext (by (repeat (refine Ext.setCell ?_ (by omega) _)); exact (((Ext.refl w).alloc _).alloc _).alloc _) r0) (by omega)).mono ?_
  rintro e w0 ⟨⟨r0', rfl, O0'⟩, hx0⟩
  have hn0 : w.heap.size + 1 + 1 + 1 ≤ w0.heap.size := by have := hx0.size; simpa [World.setCell] using this
  obtain ⟨d0, rfl⟩ := one_cell (strs.len O0'.rd)
  obtain ⟨A0, k0, rfl, _, _⟩ := Shape.sl_form O0'.rd
  have O0 : strs.own (w.heap.size + 1 + 1 + 1) w0.heap.size w0 [.slice A0 x.name.length k0] x.name := by simpa [World.setCell] using O0'
  clear O0'
  have bp : Blk w0 (w.heap.size) 186 #[c0, .int .i64 x.value] := Blk.ext hx0 (by (repeat (refine Blk.far ?_ (by omega) _)); exact ((Blk.new w _ _).alloc _).alloc _)
  have br : Blk w0 (w.heap.size + 1) 128 #[.slice none 0 0, .int .i64 0] := Blk.ext hx0 (by (repeat (refine Blk.far ?_ (by omega) _)); exact (Blk.new_at (by simp)).alloc _)
  have bo : Blk w0 (w.heap.size + 1 + 1) 128 #[.slice none 0 0, .int .i64 0] := Blk.ext hx0 (Blk.new_at (by simp))
  have E0 : Ext w w0 := Ext.trans (by (repeat (refine Ext.setCell ?_ (by omega) _)); exact (((Ext.refl w).alloc _).alloc _).alloc _) hx0

  clear hx0
  have fp0 : w0.cell? ⟨w.heap.size, 0, none⟩ = some (c0) := bp.cell 0
  have fo0 : w0.cell? ⟨w.heap.size + 1 + 1, 0, none⟩ = some (.slice none 0 0) := bo.cell 0
  have fr0 : w0.cell? ⟨w.heap.size + 1, 0, none⟩ = some (.slice none 0 0) := br.cell 0
  have zo0 : w0.frozen? ⟨w.heap.size + 1 + 1, 0, none⟩ = false := bo.frozen 0
  have zr0 : w0.frozen? ⟨w.heap.size + 1, 0, none⟩ = false := br.frozen 0
  have fp1 : w0.cell? ⟨w.heap.size, 1, none⟩ = some (.int .i64 x.value) := bp.cell 1
  have fo1 : w0.cell? ⟨w.heap.size + 1 + 1, 1, none⟩ = some (.int .i64 0) := bo.cell 1
  have fr1 : w0.cell? ⟨w.heap.size + 1, 1, none⟩ = some (.int .i64 0) := br.cell 1
  have zo1 : w0.frozen? ⟨w.heap.size + 1 + 1, 1, none⟩ = false := bo.frozen 1
  have zr1 : w0.frozen? ⟨w.heap.size + 1, 1, none⟩ = false := br.frozen 1
  go_wp2
  refine bodyPost_ret (v := .agg #[.slice A0 x.name.length k0, .int .i64 x.value]) (by simp [results, Try.results142, go_sem, fr0, fr1]) rfl ⟨⟨_, rfl, ?_⟩, ?_⟩
  · have hsz : ∀ (W : World) (p : Addr) (u : Value), (W.setCell p u).heap.size = W.heap.size := fun W p u => by simp [World.setCell]
    simp only [hsz]
    have QF := fun W => fun h : Fr (w.heap.size + 1 + 1 + 1) w0 W => h
    clear QF
    refine Shape.own.via ?_
    refine Shape.own.pair (lo := w.heap.size) (m := w0.heap.size) (m' := w0.heap.size) (cs := [_]) ?_ (by omega) ?_ (by omega) (by omega)
    · refine Shape.own.wide (lo := w.heap.size + 1 + 1 + 1) (hi := w0.heap.size) ?_ (by omega) (by omega)
      exact Shape.own.fr (N := w.heap.size + 1 + 1 + 1) O0 (by (repeat (refine Fr.setCell ?_ (by omega) _)); exact Fr.refl _ _) (by omega) (by omega)
    exact Shape.own_int r1
  · (repeat (refine Ext.setCell ?_ (by omega) _)); exact E0

set_option maxHeartbeats 400000 in
theorem toTableEntryS_c (v : Value) (l : (List DTableEntry)) (w : World) (h : sTableEntryL.rd w [v] l) (hs : (szL szTableEntry) l ≤ 1048576) :
    Calls Try.prog 128 #[v] w (Gives sTableEntryL w l) := by
  obtain ⟨A, c, rfl, hl, hm⟩ := Shape.sl_form h
  unfold maxLen at hm
  have hlen := szL_len szTableEntry l
  have H := Lib.hid h; clear h
  obtain ⟨i0, hi, hz0, hz1, hz2⟩ := info_parts info_TableEntry
  go_enter Try.func128, Try.ntmps128
  go_wp2_with (refine wpList_make_full _ rfl _ _ 86 rfl w.heap.size 128 i0 _ 2 Try.underlying86 hi hz0 hz1 .i64 .i64 _ _ l.length rfl rfl rfl rfl (by rw [hz2]; omega) (by unfold maxLen; omega) (Nat.le_refl _) ?_; intro w1 hown hgr)
  have hF : Shape.Fill sTableEntry 128 w.heap.size l.length w1 [] := Shape.Fill.start (v := .bool true) hown
  have hX : Ext w w1 := (Ext.refl w).grown hgr (by simp)
  clear hown hgr hi hz0 hz1 hz2
  go_loopw [4] (fun i wr => ∃ k : Nat, k ≤ l.length ∧ i = .int .i64 k ∧ Shape.Fill sTableEntry 128 w.heap.size l.length wr (l.take k) ∧ Ext w wr) (fun i _ => l.length - (intOf i).toNat)
  case atStart => exact ⟨0, Nat.zero_le _, rfl, hF, hX⟩
  case round =>
    clear hF hX w1
    obtain ⟨k, hk, rfl, hF, hx⟩ := hrel
    by_cases hlt : k < l.length
    · have hkl : (l.take k).length = k := by rw [List.length_take]; omega
      have hroom := fun j hj => hF.room (by rw [hkl]; exact hlt) j hj
      rw [hkl] at hroom
      have hsz := szL_at szTableEntry l k hlt
      obtain ⟨b, off, es, rfl, hc, hr⟩ := Shape.sl_at (sTableEntryL.ext hx H.out) hlt
      have hr' := hr
      obtain ⟨c0, rfl, r0, r1⟩ := sTableEntry_rd hr
      have f0 := hc 0 _ rfl
      have f1 := hc 1 _ rfl
      simp only [Nat.add_zero, show sTableEntry.k = 2 from rfl, Nat.mul_one] at f0 f1
      have HK := Lib.hid hkl; clear hkl hc
      go_wp2_with fail
      refine (toTableEntry_c _ l[k] _ hr' (by omega)).mono ?_
      rintro e w1 ⟨⟨r, rfl, hO⟩, hx1⟩
      obtain ⟨d0, rfl, s0, s1⟩ := sTableEntry_rd hO.rd
      have hF1 := hF.ext hx1
      have hroom := fun j hj => hF1.room (by rw [HK.out]; exact hlt) j hj
      rw [HK.out] at hroom
      obtain ⟨⟨u0, hu0⟩, hz0⟩ := hroom 0 (by decide)
      obtain ⟨⟨u1, hu1⟩, hz1⟩ := hroom 1 (by decide)
      simp only [Nat.add_zero, show sTableEntry.k = 2 from rfl, Nat.mul_one] at hu0 hz0 hu1 hz1
      obtain ⟨A_0, k_0, rfl, _, _⟩ := Shape.sl_form (sTableEntry_f0 hO.rd)
      clear hroom
      have hg : w.heap.size < w1.heap.size := hF1.lt
      go_wp2
      have hkl := HK.out
      have hst := hF.step hx1 hO (by rw [hkl]; exact hlt)
      rw [hkl, ← List.take_succ_eq_append_getElem hlt] at hst
      go_roundw
      case rel => exact ⟨k + 1, by omega, by go_num, by simpa [Shape.putRow, show sTableEntry.k = 2 from rfl] using hst, (by (repeat (refine Ext.setCell ?_ (Nat.le_refl _) _)); exact hx.trans hx1)⟩
      case measure => simp [intOf]; omega
    · have : k = l.length := by omega
      subst this
      rw [List.take_length] at hF
      go_wp2
      go_ret
      exact ⟨⟨_, rfl, hF.done rfl (by unfold maxLen; omega)⟩, hx⟩

set_option maxHeartbeats 400000 in
theorem toStateVector_c (cs : List Value) (x : (List DTableEntry)) (w : World) (h : sTableEntryL.rd w cs x) (hs : (szL szTableEntry) x ≤ 1048576) :
    Calls Try.prog 110 #[.agg cs.toArray] w (GivesA sTableEntryL w x) := by
  have r0 := h; obtain ⟨c0, rfl⟩ := one_cell (sTableEntryL.len h)
  go_enter Try.func110, Try.ntmps110
  go_wp2_with fail
  refine (toTableEntryS_c _ x _ (sTableEntryL.ext (by (repeat (refine Ext.setCell ?_ (by omega) _)); exact (((Ext.refl w).alloc _).alloc _).alloc _) r0) (by omega)).mono ?_
  rintro e w0 ⟨⟨r0', rfl, O0'⟩, hx0⟩
  have hn0 : w.heap.size + 1 + 1 + 1 ≤ w0.heap.size := by have := hx0.size; simpa [World.setCell] using this
  obtain ⟨A0, k0, rfl, _, _⟩ := Shape.sl_form O0'.rd
  have O0 : sTableEntryL.own (w.heap.size + 1 + 1 + 1) w0.heap.size w0 [.slice A0 x.length k0] x := by simpa [World.setCell] using O0'
  clear O0'
  have bp : Blk w0 (w.heap.size) 117 #[c0] := Blk.ext hx0 (by (repeat (refine Blk.far ?_ (by omega) _)); exact ((Blk.new w _ _).alloc _).alloc _)
  have br : Blk w0 (w.heap.size + 1) 135 #[.slice none 0 0] := Blk.ext hx0 (by (repeat (refine Blk.far ?_ (by omega) _)); exact (Blk.new_at (by simp)).alloc _)
  have bo : Blk w0 (w.heap.size + 1 + 1) 135 #[.slice none 0 0] := Blk.ext hx0 (Blk.new_at (by simp))
  have E0 : Ext w w0 := Ext.trans (by (repeat (refine Ext.setCell ?_ (by omega) _)); exact (((Ext.refl w).alloc _).alloc _).alloc _) hx0

  clear hx0
  have fp0 : w0.cell? ⟨w.heap.size, 0, none⟩ = some (c0) := bp.cell 0
  have fo0 : w0.cell? ⟨w.heap.size + 1 + 1, 0, none⟩ = some (.slice none 0 0) := bo.cell 0
  have fr0 : w0.cell? ⟨w.heap.size + 1, 0, none⟩ = some (.slice none 0 0) := br.cell 0
  have zo0 : w0.frozen? ⟨w.heap.size + 1 + 1, 0, none⟩ = false := bo.frozen 0
  have zr0 : w0.frozen? ⟨w.heap.size + 1, 0, none⟩ = false := br.frozen 0
  go_wp2
  refine bodyPost_ret (v := .agg #[.slice A0 x.length k0]) (by simp [results, Try.results110, go_sem, fr0]) rfl ⟨⟨_, rfl, ?_⟩, ?_⟩
  · have hsz : ∀ (W : World) (p : Addr) (u : Value), (W.setCell p u).heap.size = W.heap.size := fun W p u => by simp [World.setCell]
    simp only [hsz]
    have QF := fun W => fun h : Fr (w.heap.size + 1 + 1 + 1) w0 W => h
    clear QF
    refine Shape.own.wide (lo := w.heap.size + 1 + 1 + 1) (hi := w0.heap.size) ?_ (by omega) (by omega)
    exact Shape.own.fr (N := w.heap.size + 1 + 1 + 1) O0 (by (repeat (refine Fr.setCell ?_ (by omega) _)); exact Fr.refl _ _) (by omega) (by omega)
  · (repeat (refine Ext.setCell ?_ (by omega) _)); exact E0

set_option maxHeartbeats 400000 in
theorem toByteS_c (v : Value) (l : (List UInt8)) (w : World) (h : sBytes.rd w [v] l) (hs : (szL (fun _ => 0)) l ≤ 1048576) :
    Calls Try.prog 143 #[v] w (Gives sBytes w l) := by
  obtain ⟨A, c, rfl, hl, hm⟩ := Shape.sl_form h
  unfold maxLen at hm
  have hlen := szL_len (fun _ => 0) l
  have H := Lib.hid h; clear h
  obtain ⟨i0, hi, hz0, hz1, hz2⟩ := info_parts info_byte
  go_enter Try.func143, Try.ntmps143
  go_wp2_with (refine wpList_make_full _ rfl _ _ 147 rfl w.heap.size 5 i0 _ 1 Try.underlying147 hi hz0 hz1 .i64 .i64 _ _ l.length rfl rfl rfl rfl (by rw [hz2]; omega) (by unfold maxLen; omega) (Nat.le_refl _) ?_; intro w1 hown hgr)
  have hF : Shape.Fill Shape.byte 5 w.heap.size l.length w1 [] := Shape.Fill.start (v := .bool true) hown
  have hX : Ext w w1 := (Ext.refl w).grown hgr (by simp)
  clear hown hgr hi hz0 hz1 hz2
  go_loopw [4] (fun i wr => ∃ k : Nat, k ≤ l.length ∧ i = .int .i64 k ∧ Shape.Fill Shape.byte 5 w.heap.size l.length wr (l.take k) ∧ Ext w wr) (fun i _ => l.length - (intOf i).toNat)
  case atStart => exact ⟨0, Nat.zero_le _, rfl, hF, hX⟩
  case round =>
    clear hF hX w1
    obtain ⟨k, hk, rfl, hF, hx⟩ := hrel
    by_cases hlt : k < l.length
    · have hkl : (l.take k).length = k := by rw [List.length_take]; omega
      have hroom := fun j hj => hF.room (by rw [hkl]; exact hlt) j hj
      rw [hkl] at hroom
      have hsz := szL_at (fun _ => 0) l k hlt
      obtain ⟨b, off, rfl, hcell⟩ := Shape.byte_at (sBytes.ext hx H.out) hlt
      obtain ⟨⟨u0, hu0⟩, hz0⟩ := hroom 0 (by decide)
      simp only [Nat.add_zero, show Shape.byte.k = 1 from rfl, Nat.mul_one] at hu0 hz0
      have HK := Lib.hid hkl; clear hkl hroom
      go_wp2
      have hkl := HK.out
      have hst := hF.step (Ext.refl _) (x := l[k]) (Shape.own_byte) (by rw [hkl]; exact hlt)
      rw [hkl, ← List.take_succ_eq_append_getElem hlt] at hst
      have hlo : w.heap.size ≤ w.heap.size := Nat.le_refl _
      go_roundw
      case rel => exact ⟨k + 1, by omega, by go_num, by simpa [Shape.putRow, Shape.byte, Shape.one] using hst, hx.setCell (Nat.le_refl _) _⟩
      case measure => simp [intOf]; omega
    · have : k = l.length := by omega
      subst this
      rw [List.take_length] at hF
      go_wp2
      go_ret
      exact ⟨⟨_, rfl, hF.done rfl (by unfold maxLen; omega)⟩, hx⟩

set_option maxHeartbeats 400000 in
theorem toPublication_c (cs : List Value) (x : DPublication) (w : World) (h : sPublication.rd w cs x) (hs : szPublication x ≤ 1048576) :
    Calls Try.prog 129 #[.agg cs.toArray] w (GivesA sPublication w x) := by
  obtain ⟨c0, c2, rfl, r0, r1, r2⟩ := sPublication_rd h
  unfold szPublication at hs
  go_enter Try.func129, Try.ntmps129
  go_wp2_with fail
  refine (toName_c _ x.publisher _ (strs.ext (by (repeat (refine Ext.setCell ?_ (by omega) _)); exact (((Ext.refl w).alloc _).alloc _).alloc _) r0) (by omega)).mono ?_
  rintro e w0 ⟨⟨r0', rfl, O0'⟩, hx0⟩
  have hn0 : w.heap.size + 1 + 1 + 1 ≤ w0.heap.size := by have := hx0.size; simpa [World.setCell] using this
  obtain ⟨d0, rfl⟩ := one_cell (strs.len O0'.rd)
  obtain ⟨A0, k0, rfl, _, _⟩ := Shape.sl_form O0'.rd
  have O0 : strs.own (w.heap.size + 1 + 1 + 1) w0.heap.size w0 [.slice A0 x.publisher.length k0] x.publisher := by simpa [World.setCell] using O0'
  clear O0'
  have bp : Blk w0 (w.heap.size) 170 #[c0, .int .i64 x.seq, c2] := Blk.ext hx0 (by (repeat (refine Blk.far ?_ (by omega) _)); exact ((Blk.new w _ _).alloc _).alloc _)
  have br : Blk w0 (w.heap.size + 1) 163 #[.slice none 0 0, .int .i64 0, .slice none 0 0] := Blk.ext hx0 (by (repeat (refine Blk.far ?_ (by omega) _)); exact (Blk.new_at (by simp)).alloc _)
  have bo : Blk w0 (w.heap.size + 1 + 1) 163 #[.slice none 0 0, .int .i64 0, .slice none 0 0] := Blk.ext hx0 (Blk.new_at (by simp))
  have E0 : Ext w w0 := Ext.trans (by (repeat (refine Ext.setCell ?_ (by omega) _)); exact (((Ext.refl w).alloc _).alloc _).alloc _) hx0

  clear hx0
  have fp0 : w0.cell? ⟨w.heap.size, 0, none⟩ = some (c0) := bp.cell 0
  have fo0 : w0.cell? ⟨w.heap.size + 1 + 1, 0, none⟩ = some (.slice none 0 0) := bo.cell 0
  have fr0 : w0.cell? ⟨w.heap.size + 1, 0, none⟩ = some (.slice none 0 0) := br.cell 0
  have zo0 : w0.frozen? ⟨w.heap.size + 1 + 1, 0, none⟩ = false := bo.frozen 0
  have zr0 : w0.frozen? ⟨w.heap.size + 1, 0, none⟩ = false := br.frozen 0
  have fp1 : w0.cell? ⟨w.heap.size, 1, none⟩ = some (.int .i64 x.seq) := bp.cell 1
  have fo1 : w0.cell? ⟨w.heap.size + 1 + 1, 1, none⟩ = some (.int .i64 0) := bo.cell 1
  have fr1 : w0.cell? ⟨w.heap.size + 1, 1, none⟩ = some (.int .i64 0) := br.cell 1
  have zo1 : w0.frozen? ⟨w.heap.size + 1 + 1, 1, none⟩ = false := bo.frozen 1
  have zr1 : w0.frozen? ⟨w.heap.size + 1, 1, none⟩ = false := br.frozen 1
  have fp2 : w0.cell? ⟨w.heap.size, 2, none⟩ = some (c2) := bp.cell 2
  have fo2 : w0.cell? ⟨w.heap.size + 1 + 1, 2, none⟩ = some (.slice none 0 0) := bo.cell 2
  have fr2 : w0.cell? ⟨w.heap.size + 1, 2, none⟩ = some (.slice none 0 0) := br.cell 2
  have zo2 : w0.frozen? ⟨w.heap.size + 1 + 1, 2, none⟩ = false := bo.frozen 2
  have zr2 : w0.frozen? ⟨w.heap.size + 1, 2, none⟩ = false := br.frozen 2
  go_wp2_with fail
  refine (toByteS_c _ x.content _ (sBytes.ext (by (repeat (refine Ext.setCell ?_ (by omega) _)); exact E0) r2) (by omega)).mono ?_
  rintro e w1 ⟨⟨r2', rfl, O1'⟩, hx1⟩
  have hn1 : w0.heap.size ≤ w1.heap.size := by have := hx1.size; simpa [World.setCell] using this
  obtain ⟨A1, k1, rfl, _, _⟩ := Shape.sl_form O1'.rd
  have O1 : sBytes.own (w0.heap.size) w1.heap.size w1 [.slice A1 x.content.length k1] x.content := by simpa [World.setCell] using O1'
  clear O1'
  replace bp : Blk w1 (w.heap.size) 170 #[c0, .int .i64 x.seq, c2] := Blk.ext hx1 (by (repeat (refine Blk.far ?_ (by omega) _)); exact bp)
  replace br : Blk w1 (w.heap.size + 1) 163 #[.slice none 0 0, .int .i64 0, .slice none 0 0] := Blk.ext hx1 (by (repeat (refine Blk.far ?_ (by omega) _)); exact br)
  replace bo : Blk w1 (w.heap.size + 1 + 1) 163 #[.slice A0 x.publisher.length k0, .int .i64 x.seq, .slice none 0 0] := Blk.ext hx1 (by simpa using (Blk.set_ ((Blk.set_ (bo) 0 _)) 1 _))
  have E1 : Ext w w1 := Ext.trans (by (repeat (refine Ext.setCell ?_ (by omega) _)); exact E0) hx1
  have Q1 : Fr (w.heap.size + 1 + 1 + 1) w0 w1 := Fr.trans (by (repeat (refine Fr.setCell ?_ (by omega) _)); exact Fr.refl _ _) (Fr.ext hx1)
  clear hx1
  clear fp0 fo0 fr0 zo0 zr0 fp1 fo1 fr1 zo1 zr1 fp2 fo2 fr2 zo2 zr2
  have fp0 : w1.cell? ⟨w.heap.size, 0, none⟩ = some (c0) := bp.cell 0
  have fo0 : w1.cell? ⟨w.heap.size + 1 + 1, 0, none⟩ = some (.slice A0 x.publisher.length k0) := bo.cell 0
  have fr0 : w1.cell? ⟨w.heap.size + 1, 0, none⟩ = some (.slice none 0 0) := br.cell 0
  have zo0 : w1.frozen? ⟨w.heap.size + 1 + 1, 0, none⟩ = false := bo.frozen 0
  have zr0 : w1.frozen? ⟨w.heap.size + 1, 0, none⟩ = false := br.frozen 0
  have fp1 : w1.cell? ⟨w.heap.size, 1, none⟩ = some (.int .i64 x.seq) := bp.cell 1
  have fo1 : w1.cell? ⟨w.heap.size + 1 + 1, 1, none⟩ = some (.int .i64 x.seq) := bo.cell 1
  have fr1 : w1.cell? ⟨w.heap.size + 1, 1, none⟩ = some (.int .i64 0) := br.cell 1
  have zo1 : w1.frozen? ⟨w.heap.size + 1 + 1, 1, none⟩ = false := bo.frozen 1
  have zr1 : w1.frozen? ⟨w.heap.size + 1, 1, none⟩ = false := br.frozen 1
  have fp2 : w1.cell? ⟨w.heap.size, 2, none⟩ = some (c2) := bp.cell 2
  have fo2 : w1.cell? ⟨w.heap.size + 1 + 1, 2, none⟩ = some (.slice none 0 0) := bo.cell 2
  have fr2 : w1.cell? ⟨w.heap.size + 1, 2, none⟩ = some (.slice none 0 0) := br.cell 2
  have zo2 : w1.frozen? ⟨w.heap.size + 1 + 1, 2, none⟩ = false := bo.frozen 2
  have zr2 : w1.frozen? ⟨w.heap.size + 1, 2, none⟩ = false := br.frozen 2
  go_wp2
  refine bodyPost_ret (v := .agg #[.slice A0 x.publisher.length k0, .int .i64 x.seq, .slice A1 x.content.length k1]) (by simp [results, Try.results129, go_sem, fr0, fr1, fr2]) rfl ⟨⟨_, rfl, ?_⟩, ?_⟩
  · have hsz : ∀ (W : World) (p : Addr) (u : Value), (W.setCell p u).heap.size = W.heap.size := fun W p u => by simp [World.setCell]
    simp only [hsz]
    have QF := fun W => fun h : Fr (w.heap.size + 1 + 1 + 1) w1 W => h
    clear QF
    refine Shape.own.via ?_
    refine Shape.own.pair (lo := w.heap.size) (m := w0.heap.size) (m' := w0.heap.size) (cs := [_]) ?_ (by omega) ?_ (by omega) (by omega)
    · refine Shape.own.wide (lo := w.heap.size + 1 + 1 + 1) (hi := w0.heap.size) ?_ (by omega) (by omega)
      exact Shape.own.fr (N := w.heap.size + 1 + 1 + 1) (O0.fr Q1 (by omega) (by omega)) (by (repeat (refine Fr.setCell ?_ (by omega) _)); exact Fr.refl _ _) (by omega) (by omega)
    refine Shape.own.pair (lo := w0.heap.size) (m := w0.heap.size) (m' := w0.heap.size) (cs := [_]) ?_ (by omega) ?_ (by omega) (by omega)
    · exact Shape.own_int r1
    refine Shape.own.wide (lo := w0.heap.size) (hi := w1.heap.size) ?_ (by omega) (by omega)
    exact Shape.own.fr (N := w.heap.size + 1 + 1 + 1) O1 (by (repeat (refine Fr.setCell ?_ (by omega) _)); exact Fr.refl _ _) (by omega) (by omega)
  · (repeat (refine Ext.setCell ?_ (by omega) _)); exact E1

set_option maxHeartbeats 400000 in
theorem toPublicationS_c (v : Value) (l : (List DPublication)) (w : World) (h : sPublicationL.rd w [v] l) (hs : (szL szPublication) l ≤ 1048576) :
    Calls Try.prog 111 #[v] w (Gives sPublicationL w l) := by
  obtain ⟨A, c, rfl, hl, hm⟩ := Shape.sl_form h
  unfold maxLen at hm
  have hlen := szL_len szPublication l
  have H := Lib.hid h; clear h
  obtain ⟨i0, hi, hz0, hz1, hz2⟩ := info_parts info_Publication
  go_enter Try.func111, Try.ntmps111
  go_wp2_with (refine wpList_make_full _ rfl _ _ 136 rfl w.heap.size 163 i0 _ 3 Try.underlying136 hi hz0 hz1 .i64 .i64 _ _ l.length rfl rfl rfl rfl (by rw [hz2]; omega) (by unfold maxLen; omega) (Nat.le_refl _) ?_; intro w1 hown hgr)
  have hF : Shape.Fill sPublication 163 w.heap.size l.length w1 [] := Shape.Fill.start (v := .bool true) hown
  have hX : Ext w w1 := (Ext.refl w).grown hgr (by simp)
  clear hown hgr hi hz0 hz1 hz2
  go_loopw [4] (fun i wr => ∃ k : Nat, k ≤ l.length ∧ i = .int .i64 k ∧ Shape.Fill sPublication 163 w.heap.size l.length wr (l.take k) ∧ Ext w wr) (fun i _ => l.length - (intOf i).toNat)
  case atStart => exact ⟨0, Nat.zero_le _, rfl, hF, hX⟩
  case round =>
    clear hF hX w1
    obtain ⟨k, hk, rfl, hF, hx⟩ := hrel
    by_cases hlt : k < l.length
    · have hkl : (l.take k).length = k := by rw [List.length_take]; omega
      have hroom := fun j hj => hF.room (by rw [hkl]; exact hlt) j hj
      rw [hkl] at hroom
      have hsz := szL_at szPublication l k hlt
      obtain ⟨b, off, es, rfl, hc, hr⟩ := Shape.sl_at (sPublicationL.ext hx H.out) hlt
      have hr' := hr
      obtain ⟨c0, c2, rfl, r0, r1, r2⟩ := sPublication_rd hr
      have f0 := hc 0 _ rfl
      have f1 := hc 1 _ rfl
      have f2 := hc 2 _ rfl
      simp only [Nat.add_zero, show sPublication.k = 3 from rfl, Nat.mul_one] at f0 f1 f2
      have HK := Lib.hid hkl; clear hkl hc
      go_wp2_with fail
      refine (toPublication_c _ l[k] _ hr' (by omega)).mono ?_
      rintro e w1 ⟨⟨r, rfl, hO⟩, hx1⟩
      obtain ⟨d0, d2, rfl, s0, s1, s2⟩ := sPublication_rd hO.rd
      have hF1 := hF.ext hx1
      have hroom := fun j hj => hF1.room (by rw [HK.out]; exact hlt) j hj
      rw [HK.out] at hroom
      obtain ⟨⟨u0, hu0⟩, hz0⟩ := hroom 0 (by decide)
      obtain ⟨⟨u1, hu1⟩, hz1⟩ := hroom 1 (by decide)
      obtain ⟨⟨u2, hu2⟩, hz2⟩ := hroom 2 (by decide)
      simp only [Nat.add_zero, show sPublication.k = 3 from rfl, Nat.mul_one] at hu0 hz0 hu1 hz1 hu2 hz2
      obtain ⟨A_0, k_0, rfl, _, _⟩ := Shape.sl_form (sPublication_f0 hO.rd)
      obtain ⟨A_2, k_2, rfl, _, _⟩ := Shape.sl_form (sPublication_f2 hO.rd)
      clear hroom
      have hg : w.heap.size < w1.heap.size := hF1.lt
      go_wp2
      have hkl := HK.out
      have hst := hF.step hx1 hO (by rw [hkl]; exact hlt)
      rw [hkl, ← List.take_succ_eq_append_getElem hlt] at hst
      go_roundw
      case rel => exact ⟨k + 1, by omega, by go_num, by simpa [Shape.putRow, show sPublication.k = 3 from rfl] using hst, (by (repeat (refine Ext.setCell ?_ (Nat.le_refl _) _)); exact hx.trans hx1)⟩
      case measure => simp [intOf]; omega
    · have : k = l.length := by omega
      subst this
      rw [List.take_length] at hF
      go_wp2
      go_ret
      exact ⟨⟨_, rfl, hF.done rfl (by unfold maxLen; omega)⟩, hx⟩

set_option maxHeartbeats 400000 in
theorem toMember_c (cs : List Value) (x : DMember) (w : World) (h : sMember.rd w cs x) (hs : szMember x ≤ 1048576) :
    Calls Try.prog 86 #[.agg cs.toArray] w (GivesA sMember w x) := by
  obtain ⟨c0, c1, c2, rfl, r0, r1, r2⟩ := sMember_rd h
  unfold szMember at hs
  go_enter Try.func86, Try.ntmps86
  go_wp2_with fail
  refine (toName_c _ x.name _ (strs.ext (by (repeat (refine Ext.setCell ?_ (by omega) _)); exact (((Ext.refl w).alloc _).alloc _).alloc _) r0) (by omega)).mono ?_
  rintro e w0 ⟨⟨r0', rfl, O0'⟩, hx0⟩
  have hn0 : w.heap.size + 1 + 1 + 1 ≤ w0.heap.size := by have := hx0.size; simpa [World.setCell] using this
  obtain ⟨d0, rfl⟩ := one_cell (strs.len O0'.rd)
  obtain ⟨A0, k0, rfl, _, _⟩ := Shape.sl_form O0'.rd
  have O0 : strs.own (w.heap.size + 1 + 1 + 1) w0.heap.size w0 [.slice A0 x.name.length k0] x.name := by simpa [World.setCell] using O0'
  clear O0'
  have bp : Blk w0 (w.heap.size) 120 #[c0, c1, c2] := Blk.ext hx0 (by (repeat (refine Blk.far ?_ (by omega) _)); exact ((Blk.new w _ _).alloc _).alloc _)
  have br : Blk w0 (w.heap.size + 1) 138 #[.slice none 0 0, .slice none 0 0, .slice none 0 0] := Blk.ext hx0 (by (repeat (refine Blk.far ?_ (by omega) _)); exact (Blk.new_at (by simp)).alloc _)
  have bo : Blk w0 (w.heap.size + 1 + 1) 138 #[.slice none 0 0, .slice none 0 0, .slice none 0 0] := Blk.ext hx0 (Blk.new_at (by simp))
  have E0 : Ext w w0 := Ext.trans (by (repeat (refine Ext.setCell ?_ (by omega) _)); exact (((Ext.refl w).alloc _).alloc _).alloc _) hx0

  clear hx0
  have fp0 : w0.cell? ⟨w.heap.size, 0, none⟩ = some (c0) := bp.cell 0
  have fo0 : w0.cell? ⟨w.heap.size + 1 + 1, 0, none⟩ = some (.slice none 0 0) := bo.cell 0
  have fr0 : w0.cell? ⟨w.heap.size + 1, 0, none⟩ = some (.slice none 0 0) := br.cell 0
  have zo0 : w0.frozen? ⟨w.heap.size + 1 + 1, 0, none⟩ = false := bo.frozen 0
  have zr0 : w0.frozen? ⟨w.heap.size + 1, 0, none⟩ = false := br.frozen 0
  have fp1 : w0.cell? ⟨w.heap.size, 1, none⟩ = some (c1) := bp.cell 1
  have fo1 : w0.cell? ⟨w.heap.size + 1 + 1, 1, none⟩ = some (.slice none 0 0) := bo.cell 1
  have fr1 : w0.cell? ⟨w.heap.size + 1, 1, none⟩ = some (.slice none 0 0) := br.cell 1
  have zo1 : w0.frozen? ⟨w.heap.size + 1 + 1, 1, none⟩ = false := bo.frozen 1
  have zr1 : w0.frozen? ⟨w.heap.size + 1, 1, none⟩ = false := br.frozen 1
  have fp2 : w0.cell? ⟨w.heap.size, 2, none⟩ = some (c2) := bp.cell 2
  have fo2 : w0.cell? ⟨w.heap.size + 1 + 1, 2, none⟩ = some (.slice none 0 0) := bo.cell 2
  have fr2 : w0.cell? ⟨w.heap.size + 1, 2, none⟩ = some (.slice none 0 0) := br.cell 2
  have zo2 : w0.frozen? ⟨w.heap.size + 1 + 1, 2, none⟩ = false := bo.frozen 2
  have zr2 : w0.frozen? ⟨w.heap.size + 1, 2, none⟩ = false := br.frozen 2
  go_wp2_with fail
  refine (toStateVector_c _ x.vector _ (sTableEntryL.ext (by (repeat (refine Ext.setCell ?_ (by omega) _)); exact E0) r1) (by omega)).mono ?_
  rintro e w1 ⟨⟨r1', rfl, O1'⟩, hx1⟩
  have hn1 : w0.heap.size ≤ w1.heap.size := by have := hx1.size; simpa [World.setCell] using this
  obtain ⟨d1, rfl⟩ := one_cell (sTableEntryL.len O1'.rd)
  obtain ⟨A1, k1, rfl, _, _⟩ := Shape.sl_form O1'.rd
  have O1 : sTableEntryL.own (w0.heap.size) w1.heap.size w1 [.slice A1 x.vector.length k1] x.vector := by simpa [World.setCell] using O1'
  clear O1'
  replace bp : Blk w1 (w.heap.size) 120 #[c0, c1, c2] := Blk.ext hx1 (by (repeat (refine Blk.far ?_ (by omega) _)); exact bp)
  replace br : Blk w1 (w.heap.size + 1) 138 #[.slice none 0 0, .slice none 0 0, .slice none 0 0] := Blk.ext hx1 (by (repeat (refine Blk.far ?_ (by omega) _)); exact br)
  replace bo : Blk w1 (w.heap.size + 1 + 1) 138 #[.slice A0 x.name.length k0, .slice none 0 0, .slice none 0 0] := Blk.ext hx1 (by simpa using (Blk.set_ (bo) 0 _))
  have E1 : Ext w w1 := Ext.trans (by (repeat (refine Ext.setCell ?_ (by omega) _)); exact E0) hx1
  have Q1 : Fr (w.heap.size + 1 + 1 + 1) w0 w1 := Fr.trans (by (repeat (refine Fr.setCell ?_ (by omega) _)); exact Fr.refl _ _) (Fr.ext hx1)
  clear hx1
  clear fp0 fo0 fr0 zo0 zr0 fp1 fo1 fr1 zo1 zr1 fp2 fo2 fr2 zo2 zr2
  have fp0 : w1.cell? ⟨w.heap.size, 0, none⟩ = some (c0) := bp.cell 0
  have fo0 : w1.cell? ⟨w.heap.size + 1 + 1, 0, none⟩ = some (.slice A0 x.name.length k0) := bo.cell 0
  have fr0 : w1.cell? ⟨w.heap.size + 1, 0, none⟩ = some (.slice none 0 0) := br.cell 0
  have zo0 : w1.frozen? ⟨w.heap.size + 1 + 1, 0, none⟩ = false := bo.frozen 0
  have zr0 : w1.frozen? ⟨w.heap.size + 1, 0, none⟩ = false := br.frozen 0
  have fp1 : w1.cell? ⟨w.heap.size, 1, none⟩ = some (c1) := bp.cell 1
  have fo1 : w1.cell? ⟨w.heap.size + 1 + 1, 1, none⟩ = some (.slice none 0 0) := bo.cell 1
  have fr1 : w1.cell? ⟨w.heap.size + 1, 1, none⟩ = some (.slice none 0 0) := br.cell 1
  have zo1 : w1.frozen? ⟨w.heap.size + 1 + 1, 1, none⟩ = false := bo.frozen 1
  have zr1 : w1.frozen? ⟨w.heap.size + 1, 1, none⟩ = false := br.frozen 1
  have fp2 : w1.cell? ⟨w.heap.size, 2, none⟩ = some (c2) := bp.cell 2
  have fo2 : w1.cell? ⟨w.heap.size + 1 + 1, 2, none⟩ = some (.slice none 0 0) := bo.cell 2
  have fr2 : w1.cell? ⟨w.heap.size + 1, 2, none⟩ = some (.slice none 0 0) := br.cell 2
  have zo2 : w1.frozen? ⟨w.heap.size + 1 + 1, 2, none⟩ = false := bo.frozen 2
  have zr2 : w1.frozen? ⟨w.heap.size + 1, 2, none⟩ = false := br.frozen 2
  go_wp2_with fail
  refine (toPublicationS_c _ x.publications _ (sPublicationL.ext (by (repeat (refine Ext.setCell ?_ (by omega) _)); exact E1) r2) (by omega)).mono ?_
  rintro e w2 ⟨⟨r2', rfl, O2'⟩, hx2⟩
  have hn2 : w1.heap.size ≤ w2.heap.size := by have := hx2.size; simpa [World.setCell] using this
  obtain ⟨A2, k2, rfl, _, _⟩ := Shape.sl_form O2'.rd
  have O2 : sPublicationL.own (w1.heap.size) w2.heap.size w2 [.slice A2 x.publications.length k2] x.publications := by simpa [World.setCell] using O2'
  clear O2'
  replace bp : Blk w2 (w.heap.size) 120 #[c0, c1, c2] := Blk.ext hx2 (by (repeat (refine Blk.far ?_ (by omega) _)); exact bp)
  replace br : Blk w2 (w.heap.size + 1) 138 #[.slice none 0 0, .slice none 0 0, .slice none 0 0] := Blk.ext hx2 (by (repeat (refine Blk.far ?_ (by omega) _)); exact br)
  replace bo : Blk w2 (w.heap.size + 1 + 1) 138 #[.slice A0 x.name.length k0, .slice A1 x.vector.length k1, .slice none 0 0] := Blk.ext hx2 (by simpa using (Blk.set_ (bo) 1 _))
  have E2 : Ext w w2 := Ext.trans (by (repeat (refine Ext.setCell ?_ (by omega) _)); exact E1) hx2
  have Q2 : Fr (w.heap.size + 1 + 1 + 1) w1 w2 := Fr.trans (by (repeat (refine Fr.setCell ?_ (by omega) _)); exact Fr.refl _ _) (Fr.ext hx2)
  clear hx2
  clear fp0 fo0 fr0 zo0 zr0 fp1 fo1 fr1 zo1 zr1 fp2 fo2 fr2 zo2 zr2
  have fp0 : w2.cell? ⟨w.heap.size, 0, none⟩ = some (c0) := bp.cell 0
  have fo0 : w2.cell? ⟨w.heap.size + 1 + 1, 0, none⟩ = some (.slice A0 x.name.length k0) := bo.cell 0
  have fr0 : w2.cell? ⟨w.heap.size + 1, 0, none⟩ = some (.slice none 0 0) := br.cell 0
  have zo0 : w2.frozen? ⟨w.heap.size + 1 + 1, 0, none⟩ = false := bo.frozen 0
  have zr0 : w2.frozen? ⟨w.heap.size + 1, 0, none⟩ = false := br.frozen 0
  have fp1 : w2.cell? ⟨w.heap.size, 1, none⟩ = some (c1) := bp.cell 1
  have fo1 : w2.cell? ⟨w.heap.size + 1 + 1, 1, none⟩ = some (.slice A1 x.vector.length k1) := bo.cell 1
  have fr1 : w2.cell? ⟨w.heap.size + 1, 1, none⟩ = some (.slice none 0 0) := br.cell 1
  have zo1 : w2.frozen? ⟨w.heap.size + 1 + 1, 1, none⟩ = false := bo.frozen 1
  have zr1 : w2.frozen? ⟨w.heap.size + 1, 1, none⟩ = false := br.frozen 1
  have fp2 : w2.cell? ⟨w.heap.size, 2, none⟩ = some (c2) := bp.cell 2
  have fo2 : w2.cell? ⟨w.heap.size + 1 + 1, 2, none⟩ = some (.slice none 0 0) := bo.cell 2
  have fr2 : w2.cell? ⟨w.heap.size + 1, 2, none⟩ = some (.slice none 0 0) := br.cell 2
  have zo2 : w2.frozen? ⟨w.heap.size + 1 + 1, 2, none⟩ = false := bo.frozen 2
  have zr2 : w2.frozen? ⟨w.heap.size + 1, 2, none⟩ = false := br.frozen 2
  go_wp2
  refine bodyPost_ret (v := .agg #[.slice A0 x.name.length k0, .slice A1 x.vector.length k1, .slice A2 x.publications.length k2]) (by simp [results, Try.results86, go_sem, fr0, fr1, fr2]) rfl ⟨⟨_, rfl, ?_⟩, ?_⟩
  · have hsz : ∀ (W : World) (p : Addr) (u : Value), (W.setCell p u).heap.size = W.heap.size := fun W p u => by simp [World.setCell]
    simp only [hsz]
    have QF := fun W => fun h : Fr (w.heap.size + 1 + 1 + 1) w2 W => h
    clear QF
    refine Shape.own.via ?_
    refine Shape.own.pair (lo := w.heap.size) (m := w0.heap.size) (m' := w0.heap.size) (cs := [_]) ?_ (by omega) ?_ (by omega) (by omega)
    · refine Shape.own.wide (lo := w.heap.size + 1 + 1 + 1) (hi := w0.heap.size) ?_ (by omega) (by omega)
      exact Shape.own.fr (N := w.heap.size + 1 + 1 + 1) ((O0.fr Q1 (by omega) (by omega)).fr Q2 (by omega) (by omega)) (by (repeat (refine Fr.setCell ?_ (by omega) _)); exact Fr.refl _ _) (by omega) (by omega)
    refine Shape.own.pair (lo := w0.heap.size) (m := w1.heap.size) (m' := w1.heap.size) (cs := [_]) ?_ (by omega) ?_ (by omega) (by omega)
    · refine Shape.own.wide (lo := w0.heap.size) (hi := w1.heap.size) ?_ (by omega) (by omega)
      exact Shape.own.fr (N := w.heap.size + 1 + 1 + 1) (O1.fr Q2 (by omega) (by omega)) (by (repeat (refine Fr.setCell ?_ (by omega) _)); exact Fr.refl _ _) (by omega) (by omega)
    refine Shape.own.wide (lo := w1.heap.size) (hi := w2.heap.size) ?_ (by omega) (by omega)
    exact Shape.own.fr (N := w.heap.size + 1 + 1 + 1) O2 (by (repeat (refine Fr.setCell ?_ (by omega) _)); exact Fr.refl _ _) (by omega) (by omega)
  · (repeat (refine Ext.setCell ?_ (by omega) _)); exact E2

set_option maxHeartbeats 400000 in
theorem toMemberS_c (v : Value) (l : (List DMember)) (w : World) (h : sMemberL.rd w [v] l) (hs : (szL szMember) l ≤ 1048576) :
    Calls Try.prog 52 #[v] w (Gives sMemberL w l) := by
  obtain ⟨A, c, rfl, hl, hm⟩ := Shape.sl_form h
  unfold maxLen at hm
  have hlen := szL_len szMember l
  have H := Lib.hid h; clear h
  obtain ⟨i0, hi, hz0, hz1, hz2⟩ := info_parts info_Member
  go_enter Try.func52, Try.ntmps52
  go_wp2_with (refine wpList_make_full _ rfl _ _ 56 rfl w.heap.size 138 i0 _ 3 Try.underlying56 hi hz0 hz1 .i64 .i64 _ _ l.length rfl rfl rfl rfl (by rw [hz2]; omega) (by unfold maxLen; omega) (Nat.le_refl _) ?_; intro w1 hown hgr)
  have hF : Shape.Fill sMember 138 w.heap.size l.length w1 [] := Shape.Fill.start (v := .bool true) hown
  have hX : Ext w w1 := (Ext.refl w).grown hgr (by simp)
  clear hown hgr hi hz0 hz1 hz2
  go_loopw [4] (fun i wr => ∃ k : Nat, k ≤ l.length ∧ i = .int .i64 k ∧ Shape.Fill sMember 138 w.heap.size l.length wr (l.take k) ∧ Ext w wr) (fun i _ => l.length - (intOf i).toNat)
  case atStart => exact ⟨0, Nat.zero_le _, rfl, hF, hX⟩
  case round =>
    clear hF hX w1
    obtain ⟨k, hk, rfl, hF, hx⟩ := hrel
    by_cases hlt : k < l.length
    · have hkl : (l.take k).length = k := by rw [List.length_take]; omega
      have hroom := fun j hj => hF.room (by rw [hkl]; exact hlt) j hj
      rw [hkl] at hroom
      have hsz := szL_at szMember l k hlt
      obtain ⟨b, off, es, rfl, hc, hr⟩ := Shape.sl_at (sMemberL.ext hx H.out) hlt
      have hr' := hr
      obtain ⟨c0, c1, c2, rfl, r0, r1, r2⟩ := sMember_rd hr
      have f0 := hc 0 _ rfl
      have f1 := hc 1 _ rfl
      have f2 := hc 2 _ rfl
      simp only [Nat.add_zero, show sMember.k = 3 from rfl, Nat.mul_one] at f0 f1 f2
      have HK := Lib.hid hkl; clear hkl hc
      go_wp2_with fail
      refine (toMember_c _ l[k] _ hr' (by omega)).mono ?_
      rintro e w1 ⟨⟨r, rfl, hO⟩, hx1⟩
      obtain ⟨d0, d1, d2, rfl, s0, s1, s2⟩ := sMember_rd hO.rd
      have hF1 := hF.ext hx1
      have hroom := fun j hj => hF1.room (by rw [HK.out]; exact hlt) j hj
      rw [HK.out] at hroom
      obtain ⟨⟨u0, hu0⟩, hz0⟩ := hroom 0 (by decide)
      obtain ⟨⟨u1, hu1⟩, hz1⟩ := hroom 1 (by decide)
      obtain ⟨⟨u2, hu2⟩, hz2⟩ := hroom 2 (by decide)
      simp only [Nat.add_zero, show sMember.k = 3 from rfl, Nat.mul_one] at hu0 hz0 hu1 hz1 hu2 hz2
      obtain ⟨A_0, k_0, rfl, _, _⟩ := Shape.sl_form (sMember_f0 hO.rd)
      obtain ⟨A_1, k_1, rfl, _, _⟩ := Shape.sl_form (sMember_f1 hO.rd)
      obtain ⟨A_2, k_2, rfl, _, _⟩ := Shape.sl_form (sMember_f2 hO.rd)
      clear hroom
      have hg : w.heap.size < w1.heap.size := hF1.lt
      go_wp2
      have hkl := HK.out
      have hst := hF.step hx1 hO (by rw [hkl]; exact hlt)
      rw [hkl, ← List.take_succ_eq_append_getElem hlt] at hst
      go_roundw
      case rel => exact ⟨k + 1, by omega, by go_num, by simpa [Shape.putRow, show sMember.k = 3 from rfl] using hst, (by (repeat (refine Ext.setCell ?_ (Nat.le_refl _) _)); exact hx.trans hx1)⟩
      case measure => simp [intOf]; omega
    · have : k = l.length := by omega
      subst this
      rw [List.take_length] at hF
      go_wp2
      go_ret
      exact ⟨⟨_, rfl, hF.done rfl (by unfold maxLen; omega)⟩, hx⟩

set_option maxHeartbeats 400000 in
theorem toSyncGroup_c (cs : List Value) (x : DSyncGroup) (w : World) (h : sSyncGroup.rd w cs x) (hs : szSyncGroup x ≤ 1048576) :
    Calls Try.prog 18 #[.agg cs.toArray] w (GivesA sSyncGroup w x) := by
  obtain ⟨c1, c2, rfl, r0, r1⟩ := sSyncGroup_rd h
  unfold szSyncGroup at hs
  go_enter Try.func18, Try.ntmps18
  go_wp2_with fail
  refine (toTopology_c _ x.topology _ (sTopology.ext (by (repeat (refine Ext.setCell ?_ (by omega) _)); exact (((Ext.refl w).alloc _).alloc _).alloc _) r0) (by omega)).mono ?_
  rintro e w0 ⟨⟨r0', rfl, O0'⟩, hx0⟩
  have hn0 : w.heap.size + 1 + 1 + 1 ≤ w0.heap.size := by have := hx0.size; simpa [World.setCell] using this
  obtain ⟨d1, rfl, y0_0, y0_1⟩ := sTopology_rd O0'.rd
  obtain ⟨A0_1, k0_1, rfl, _, _⟩ := Shape.sl_form (sTopology_f1 O0'.rd)
  have O0 : sTopology.own (w.heap.size + 1 + 1 + 1) w0.heap.size w0 [.int .i64 x.topology.size, .slice A0_1 x.topology.links.length k0_1] x.topology := by simpa [World.setCell] using O0'
  clear O0'
  have bp : Blk w0 (w.heap.size) 49 #[.int .i64 x.topology.size, c1, c2] := Blk.ext hx0 (by (repeat (refine Blk.far ?_ (by omega) _)); exact ((Blk.new w _ _).alloc _).alloc _)
  have br : Blk w0 (w.heap.size + 1) 58 #[.int .i64 0, .slice none 0 0, .slice none 0 0] := Blk.ext hx0 (by (repeat (refine Blk.far ?_ (by omega) _)); exact (Blk.new_at (by simp)).alloc _)
  have bo : Blk w0 (w.heap.size + 1 + 1) 58 #[.int .i64 0, .slice none 0 0, .slice none 0 0] := Blk.ext hx0 (Blk.new_at (by simp))
  have E0 : Ext w w0 := Ext.trans (by (repeat (refine Ext.setCell ?_ (by omega) _)); exact (((Ext.refl w).alloc _).alloc _).alloc _) hx0

  clear hx0
  have fp0 : w0.cell? ⟨w.heap.size, 0, none⟩ = some (.int .i64 x.topology.size) := bp.cell 0
  have fo0 : w0.cell? ⟨w.heap.size + 1 + 1, 0, none⟩ = some (.int .i64 0) := bo.cell 0
  have fr0 : w0.cell? ⟨w.heap.size + 1, 0, none⟩ = some (.int .i64 0) := br.cell 0
  have zo0 : w0.frozen? ⟨w.heap.size + 1 + 1, 0, none⟩ = false := bo.frozen 0
  have zr0 : w0.frozen? ⟨w.heap.size + 1, 0, none⟩ = false := br.frozen 0
  have fp1 : w0.cell? ⟨w.heap.size, 1, none⟩ = some (c1) := bp.cell 1
  have fo1 : w0.cell? ⟨w.heap.size + 1 + 1, 1, none⟩ = some (.slice none 0 0) := bo.cell 1
  have fr1 : w0.cell? ⟨w.heap.size + 1, 1, none⟩ = some (.slice none 0 0) := br.cell 1
  have zo1 : w0.frozen? ⟨w.heap.size + 1 + 1, 1, none⟩ = false := bo.frozen 1
  have zr1 : w0.frozen? ⟨w.heap.size + 1, 1, none⟩ = false := br.frozen 1
  have fp2 : w0.cell? ⟨w.heap.size, 2, none⟩ = some (c2) := bp.cell 2
  have fo2 : w0.cell? ⟨w.heap.size + 1 + 1, 2, none⟩ = some (.slice none 0 0) := bo.cell 2
  have fr2 : w0.cell? ⟨w.heap.size + 1, 2, none⟩ = some (.slice none 0 0) := br.cell 2
  have zo2 : w0.frozen? ⟨w.heap.size + 1 + 1, 2, none⟩ = false := bo.frozen 2
  have zr2 : w0.frozen? ⟨w.heap.size + 1, 2, none⟩ = false := br.frozen 2
  go_wp2_with fail
  refine (toMemberS_c _ x.members _ (sMemberL.ext (by (repeat (refine Ext.setCell ?_ (by omega) _)); exact E0) r1) (by omega)).mono ?_
  rintro e w1 ⟨⟨r1', rfl, O1'⟩, hx1⟩
  have hn1 : w0.heap.size ≤ w1.heap.size := by have := hx1.size; simpa [World.setCell] using this
  obtain ⟨A1, k1, rfl, _, _⟩ := Shape.sl_form O1'.rd
  have O1 : sMemberL.own (w0.heap.size) w1.heap.size w1 [.slice A1 x.members.length k1] x.members := by simpa [World.setCell] using O1'
  clear O1'
  replace bp : Blk w1 (w.heap.size) 49 #[.int .i64 x.topology.size, c1, c2] := Blk.ext hx1 (by (repeat (refine Blk.far ?_ (by omega) _)); exact bp)
  replace br : Blk w1 (w.heap.size + 1) 58 #[.int .i64 0, .slice none 0 0, .slice none 0 0] := Blk.ext hx1 (by (repeat (refine Blk.far ?_ (by omega) _)); exact br)
  replace bo : Blk w1 (w.heap.size + 1 + 1) 58 #[.int .i64 x.topology.size, .slice A0_1 x.topology.links.length k0_1, .slice none 0 0] := Blk.ext hx1 (by simpa using (Blk.set_ ((Blk.set_ (bo) 0 _)) 1 _))
  have E1 : Ext w w1 := Ext.trans (by (repeat (refine Ext.setCell ?_ (by omega) _)); exact E0) hx1
  have Q1 : Fr (w.heap.size + 1 + 1 + 1) w0 w1 := Fr.trans (by (repeat (refine Fr.setCell ?_ (by omega) _)); exact Fr.refl _ _) (Fr.ext hx1)
  clear hx1
  clear fp0 fo0 fr0 zo0 zr0 fp1 fo1 fr1 zo1 zr1 fp2 fo2 fr2 zo2 zr2
  have fp0 : w1.cell? ⟨w.heap.size, 0, none⟩ = some (.int .i64 x.topology.size) := bp.cell 0
  have fo0 : w1.cell? ⟨w.heap.size + 1 + 1, 0, none⟩ = some (.int .i64 x.topology.size) := bo.cell 0
  have fr0 : w1.cell? ⟨w.heap.size + 1, 0, none⟩ = some (.int .i64 0) := br.cell 0
  have zo0 : w1.frozen? ⟨w.heap.size + 1 + 1, 0, none⟩ = false := bo.frozen 0
  have zr0 : w1.frozen? ⟨w.heap.size + 1, 0, none⟩ = false := br.frozen 0
  have fp1 : w1.cell? ⟨w.heap.size, 1, none⟩ = some (c1) := bp.cell 1
  have fo1 : w1.cell? ⟨w.heap.size + 1 + 1, 1, none⟩ = some (.slice A0_1 x.topology.links.length k0_1) := bo.cell 1
  have fr1 : w1.cell? ⟨w.heap.size + 1, 1, none⟩ = some (.slice none 0 0) := br.cell 1
  have zo1 : w1.frozen? ⟨w.heap.size + 1 + 1, 1, none⟩ = false := bo.frozen 1
  have zr1 : w1.frozen? ⟨w.heap.size + 1, 1, none⟩ = false := br.frozen 1
  have fp2 : w1.cell? ⟨w.heap.size, 2, none⟩ = some (c2) := bp.cell 2
  have fo2 : w1.cell? ⟨w.heap.size + 1 + 1, 2, none⟩ = some (.slice none 0 0) := bo.cell 2
  have fr2 : w1.cell? ⟨w.heap.size + 1, 2, none⟩ = some (.slice none 0 0) := br.cell 2
  have zo2 : w1.frozen? ⟨w.heap.size + 1 + 1, 2, none⟩ = false := bo.frozen 2
  have zr2 : w1.frozen? ⟨w.heap.size + 1, 2, none⟩ = false := br.frozen 2
  go_wp2
  refine bodyPost_ret (v := .agg #[.int .i64 x.topology.size, .slice A0_1 x.topology.links.length k0_1, .slice A1 x.members.length k1]) (by simp [results, Try.results18, go_sem, fr0, fr1, fr2]) rfl ⟨⟨_, rfl, ?_⟩, ?_⟩
  · have hsz : ∀ (W : World) (p : Addr) (u : Value), (W.setCell p u).heap.size = W.heap.size := fun W p u => by simp [World.setCell]
    simp only [hsz]
    have QF := fun W => fun h : Fr (w.heap.size + 1 + 1 + 1) w1 W => h
    clear QF
    refine Shape.own.via ?_
    refine Shape.own.pair (lo := w.heap.size) (m := w0.heap.size) (m' := w0.heap.size) (cs := [_, _]) ?_ (by omega) ?_ (by omega) (by omega)
    · refine Shape.own.wide (lo := w.heap.size + 1 + 1 + 1) (hi := w0.heap.size) ?_ (by omega) (by omega)
      exact Shape.own.fr (N := w.heap.size + 1 + 1 + 1) (O0.fr Q1 (by omega) (by omega)) (by (repeat (refine Fr.setCell ?_ (by omega) _)); exact Fr.refl _ _) (by omega) (by omega)
    refine Shape.own.wide (lo := w0.heap.size) (hi := w1.heap.size) ?_ (by omega) (by omega)
    exact Shape.own.fr (N := w.heap.size + 1 + 1 + 1) O1 (by (repeat (refine Fr.setCell ?_ (by omega) _)); exact Fr.refl _ _) (by omega) (by omega)
  · (repeat (refine Ext.setCell ?_ (by omega) _)); exact E1

set_option maxHeartbeats 400000 in
theorem toIntS_c (v : Value) (l : (List Int)) (w : World) (h : sInts.rd w [v] l) (hs : (szL (fun _ => 0)) l ≤ 1048576) :
    Calls Try.prog 19 #[v] w (Gives sInts w l) := by
  obtain ⟨A, c, rfl, hl, hm⟩ := Shape.sl_form h
  unfold maxLen at hm
  have hlen := szL_len (fun _ => 0) l
  have H := Lib.hid h; clear h
  obtain ⟨i0, hi, hz0, hz1, hz2⟩ := info_parts info_int
  go_enter Try.func19, Try.ntmps19
  go_wp2_with (refine wpList_make_full _ rfl _ _ 50 rfl w.heap.size 3 i0 _ 1 Try.underlying50 hi hz0 hz1 .i64 .i64 _ _ l.length rfl rfl rfl rfl (by rw [hz2]; omega) (by unfold maxLen; omega) (Nat.le_refl _) ?_; intro w1 hown hgr)
  have hF : Shape.Fill Shape.int 3 w.heap.size l.length w1 [] := Shape.Fill.start (v := .bool true) hown
  have hX : Ext w w1 := (Ext.refl w).grown hgr (by simp)
  clear hown hgr hi hz0 hz1 hz2
  go_loopw [4] (fun i wr => ∃ k : Nat, k ≤ l.length ∧ i = .int .i64 k ∧ Shape.Fill Shape.int 3 w.heap.size l.length wr (l.take k) ∧ Ext w wr) (fun i _ => l.length - (intOf i).toNat)
  case atStart => exact ⟨0, Nat.zero_le _, rfl, hF, hX⟩
  case round =>
    clear hF hX w1
    obtain ⟨k, hk, rfl, hF, hx⟩ := hrel
    by_cases hlt : k < l.length
    · have hkl : (l.take k).length = k := by rw [List.length_take]; omega
      have hroom := fun j hj => hF.room (by rw [hkl]; exact hlt) j hj
      rw [hkl] at hroom
      have hsz := szL_at (fun _ => 0) l k hlt
      obtain ⟨b, off, rfl, hcell, hok⟩ := Shape.int_at (sInts.ext hx H.out) hlt
      obtain ⟨⟨u0, hu0⟩, hz0⟩ := hroom 0 (by decide)
      simp only [Nat.add_zero, show Shape.int.k = 1 from rfl, Nat.mul_one] at hu0 hz0
      have HK := Lib.hid hkl; clear hkl hroom
      go_wp2
      have hkl := HK.out
      have hst := hF.step (Ext.refl _) (x := l[k]) (Shape.own_int hok) (by rw [hkl]; exact hlt)
      rw [hkl, ← List.take_succ_eq_append_getElem hlt] at hst
      have hlo : w.heap.size ≤ w.heap.size := Nat.le_refl _
      go_roundw
      case rel => exact ⟨k + 1, by omega, by go_num, by simpa [Shape.putRow, Shape.int, Shape.one] using hst, hx.setCell (Nat.le_refl _) _⟩
      case measure => simp [intOf]; omega
    · have : k = l.length := by omega
      subst this
      rw [List.take_length] at hF
      go_wp2
      go_ret
      exact ⟨⟨_, rfl, hF.done rfl (by unfold maxLen; omega)⟩, hx⟩

end Go.Proofs.Ytofieohogenojaa
