/- What the families laws.to.. give: a copy in memory of its own. Printed by gen.py. -/
import Derived.Test.YtjdhggkbdognnaaGreatProg
import Derived.Test.YtjdhggkbdognnaaGreatTypes
namespace Go.Proofs.YtjdhggkbdognnaaGreat
open Go.RowKit
set_option linter.unusedVariables false
set_option linter.unusedSimpArgs false
set_option linter.unusedSectionVars false

set_option maxHeartbeats 400000 in
theorem toLink_c (cs : List Value) (x : DLink) (w : World) (h : sLink.rd w cs x) :
    Calls Tryz.prog 128 #[.agg cs.toArray] w (GivesA sLink w x) := by
  obtain ⟨rfl, r0, r1⟩ := sLink_rd h
  go_enter Tryz.func128, Tryz.ntmps128
  go_wp2
  refine bodyPost_ret (v := .agg #[.int .i64 x.a, .int .i64 x.b]) (by simp [results, Tryz.results128, go_sem]) rfl ⟨⟨_, rfl, ?_⟩, ?_⟩
  · skip
    refine Shape.own.via ?_
    refine Shape.own.pair (lo := w.heap.size) (m := w.heap.size) (m' := w.heap.size) (cs := [_]) ?_ (by omega) ?_ (by omega) (by simp; try omega)
    · exact Shape.own_int r0
    exact Shape.own_int r1
  · (repeat (refine Ext.setCell ?_ (by omega) _)); exact (((Ext.refl w).alloc _).alloc _).alloc _

set_option maxHeartbeats 400000 in
theorem toLinkS_c (v : Value) (l : (List DLink)) (w : World) (h : sLinkL.rd w [v] l) (hs : (szL (fun _ => 0)) l ≤ 1048576) :
    Calls Tryz.prog 80 #[v] w (Gives sLinkL w l) := by
  obtain ⟨A, c, rfl, hl, hm⟩ := Shape.sl_form h
  unfold maxLen at hm
  have hlen := szL_len (fun _ => 0) l
  have H := Lib.hid h; clear h
  obtain ⟨i0, hi, hz0, hz1, hz2⟩ := info_parts info_Link
  go_enter Tryz.func80, Tryz.ntmps80
  go_wp2_with (refine wpList_make_full _ rfl _ _ 44 rfl w.heap.size 207 i0 _ 2 Tryz.underlying44 hi hz0 hz1 .i64 .i64 _ _ l.length rfl rfl rfl rfl (by rw [hz2]; omega) (by unfold maxLen; omega) (Nat.le_refl _) ?_; intro w1 hown hgr)
  have hF : Shape.Fill sLink 207 w.heap.size l.length w1 [] := Shape.Fill.start (v := .bool true) hown
  have hX : Ext w w1 := (Ext.refl w).grown hgr (by simp)
  clear hown hgr hi hz0 hz1 hz2
  go_loopw [4] (fun i wr => ∃ k : Nat, k ≤ l.length ∧ i = .int .i64 k ∧ Shape.Fill sLink 207 w.heap.size l.length wr (l.take k) ∧ Ext w wr) (fun i _ => l.length - (intOf i).toNat)
  case atStart => exact ⟨0, Nat.zero_le _, rfl, hF, hX⟩
  case round =>
    clear hF hX w1
    obtain ⟨k, hk, rfl, hF, hx⟩ := hrel
    by_cases hlt : k < l.length
    · have hkl : (l.take k).length = k := by rw [List.length_take]; omega
      have hroom := fun j hj => hF.room (by rw [hkl]; exact hlt) j hj
      rw [hkl] at hroom
      have hsz := szL_at (fun _ => 0) l k hlt
      obtain ⟨b, off, es, rfl, hc, hr⟩ := Shape.sl_at (sLinkL.ext hx H.out) hlt
      have hr' := hr
      obtain ⟨rfl, r0, r1⟩ := sLink_rd hr
      have f0 := hc 0 _ rfl
      have f1 := hc 1 _ rfl
      simp only [Nat.add_zero, show sLink.k = 2 from rfl, Nat.mul_one] at f0 f1
      have HK := Lib.hid hkl; clear hkl hc
      go_wp2_with fail
      refine (toLink_c _ l[k] _ hr').mono ?_
      rintro e w1 ⟨⟨r, rfl, hO⟩, hx1⟩
      obtain ⟨rfl, s0, s1⟩ := sLink_rd hO.rd
      have hF1 := hF.ext hx1
      have hroom := fun j hj => hF1.room (by rw [HK.out]; exact hlt) j hj
      rw [HK.out] at hroom
      obtain ⟨⟨u0, hu0⟩, hz0⟩ := hroom 0 (by decide)
      obtain ⟨⟨u1, hu1⟩, hz1⟩ := hroom 1 (by decide)
      simp only [Nat.add_zero, show sLink.k = 2 from rfl, Nat.mul_one] at hu0 hz0 hu1 hz1
      skip
      clear hroom
      have hg : w.heap.size < w1.heap.size := hF1.lt
      go_wp2
      have hkl := HK.out
      have hst := hF.step hx1 hO (by rw [hkl]; exact hlt)
      rw [hkl, ← List.take_succ_eq_append_getElem hlt] at hst
      go_roundw
      case rel => exact ⟨k + 1, by omega, by go_num, by simpa [Shape.putRow, show sLink.k = 2 from rfl] using hst, (by (repeat (refine Ext.setCell ?_ (Nat.le_refl _) _)); exact hx.trans hx1)⟩
      case measure => simp [intOf]; omega
    · have : k = l.length := by omega
      subst this
      rw [List.take_length] at hF
      go_wp2
      go_ret
      exact ⟨⟨_, rfl, hF.done rfl (by unfold maxLen; omega)⟩, hx⟩

set_option maxHeartbeats 400000 in
theorem toTopology_c (cs : List Value) (x : DTopology) (w : World) (h : sTopology.rd w cs x) (hs : szTopology x ≤ 1048576) :
    Calls Tryz.prog 37 #[.agg cs.toArray] w (GivesA sTopology w x) := by
  obtain ⟨c1, rfl, r0, r1⟩ := sTopology_rd h
  unfold szTopology at hs
  go_enter Tryz.func37, Tryz.ntmps37
  go_wp2_with fail
  refine (toLinkS_c _ x.links _ (sLinkL.ext (by (repeat (refine Ext.setCell ?_ (by omega) _)); exact (((Ext.refl w).alloc _).alloc _).alloc _) r1) (by omega)).mono ?_
  rintro e w0 ⟨⟨r1', rfl, O0'⟩, hx0⟩
  have hn0 : w.heap.size + 1 + 1 + 1 ≤ w0.heap.size := by have := hx0.size; simpa [World.setCell] using this
  obtain ⟨A0, k0, rfl, _, _⟩ := Shape.sl_form O0'.rd
  have O0 : sLinkL.own (w.heap.size + 1 + 1 + 1) w0.heap.size w0 [.slice A0 x.links.length k0] x.links := by simpa [World.setCell] using O0'
  clear O0'
  have bp : Blk w0 (w.heap.size) 24 #[.int .i64 x.size, c1] := Blk.ext hx0 (by (repeat (refine Blk.far ?_ (by omega) _)); exact ((Blk.new w _ _).alloc _).alloc _)
  have br : Blk w0 (w.heap.size + 1) 46 #[.int .i64 0, .slice none 0 0] := Blk.ext hx0 (by (repeat (refine Blk.far ?_ (by omega) _)); exact (Blk.new_at (by simp)).alloc _)
  have bo : Blk w0 (w.heap.size + 1 + 1) 46 #[.int .i64 x.size, .slice none 0 0] := Blk.ext hx0 (Blk.new_at (by simp))
  have E0 : Ext w w0 := Ext.trans (by (repeat (refine Ext.setCell ?_ (by omega) _)); exact (((Ext.refl w).alloc _).alloc _).alloc _) hx0

  clear hx0
  have fp0 : w0.cell? ⟨w.heap.size, 0, none⟩ = some (.int .i64 x.size) := bp.cell 0
  have fo0 : w0.cell? ⟨w.heap.size + 1 + 1, 0, none⟩ = some (.int .i64 x.size) := bo.cell 0
  have fr0 : w0.cell? ⟨w.heap.size + 1, 0, none⟩ = some (.int .i64 0) := br.cell 0
  have zo0 : w0.frozen? ⟨w.heap.size + 1 + 1, 0, none⟩ = false := bo.frozen 0
  have zr0 : w0.frozen? ⟨w.heap.size + 1, 0, none⟩ = false := br.frozen 0
  have fp1 : w0.cell? ⟨w.heap.size, 1, none⟩ = some (c1) := bp.cell 1
  have fo1 : w0.cell? ⟨w.heap.size + 1 + 1, 1, none⟩ = some (.slice none 0 0) := bo.cell 1
  have fr1 : w0.cell? ⟨w.heap.size + 1, 1, none⟩ = some (.slice none 0 0) := br.cell 1
  have zo1 : w0.frozen? ⟨w.heap.size + 1 + 1, 1, none⟩ = false := bo.frozen 1
  have zr1 : w0.frozen? ⟨w.heap.size + 1, 1, none⟩ = false := br.frozen 1
  go_wp2
  refine bodyPost_ret (v := .agg #[.int .i64 x.size, .slice A0 x.links.length k0]) (by simp [results, Tryz.results37, go_sem, fr0, fr1]) rfl ⟨⟨_, rfl, ?_⟩, ?_⟩
  · have hsz : ∀ (W : World) (p : Addr) (u : Value), (W.setCell p u).heap.size = W.heap.size := fun W p u => by simp [World.setCell]
    simp only [hsz]
    have QF := fun W => fun h : Fr (w.heap.size + 1 + 1 + 1) w0 W => h
    clear QF
    refine Shape.own.via ?_
    refine Shape.own.pair (lo := w.heap.size) (m := w.heap.size) (m' := w.heap.size) (cs := [_]) ?_ (by omega) ?_ (by omega) (by omega)
    · exact Shape.own_int r0
    refine Shape.own.wide (lo := w.heap.size + 1 + 1 + 1) (hi := w0.heap.size) ?_ (by omega) (by omega)
    exact Shape.own.fr (N := w.heap.size + 1 + 1 + 1) O0 (by (repeat (refine Fr.setCell ?_ (by omega) _)); exact Fr.refl _ _) (by omega) (by omega)
  · (repeat (refine Ext.setCell ?_ (by omega) _)); exact E0

set_option maxHeartbeats 400000 in
theorem toStringS_c (v : Value) (l : (List ByteArray)) (w : World) (h : strs.rd w [v] l) (hs : (szL ByteArray.size) l ≤ 1048576) :
    Calls Tryz.prog 44 #[v] w (Gives strs w l) := by
  obtain ⟨A, c, rfl, hl, hm⟩ := Shape.sl_form h
  unfold maxLen at hm
  have hlen := szL_len ByteArray.size l
  have H := Lib.hid h; clear h
  obtain ⟨i0, hi, hz0, hz1, hz2⟩ := info_parts info_string
  go_enter Tryz.func44, Tryz.ntmps44
  go_wp2_with (refine wpList_make_full _ rfl _ _ 38 rfl w.heap.size 9 i0 _ 1 Tryz.underlying38 hi hz0 hz1 .i64 .i64 _ _ l.length rfl rfl rfl rfl (by rw [hz2]; omega) (by unfold maxLen; omega) (Nat.le_refl _) ?_; intro w1 hown hgr)
  have hF : Shape.Fill Shape.str 9 w.heap.size l.length w1 [] := Shape.Fill.start (v := .bool true) hown
  have hX : Ext w w1 := (Ext.refl w).grown hgr (by simp)
  clear hown hgr hi hz0 hz1 hz2
  go_loopw [4] (fun i wr => ∃ k : Nat, k ≤ l.length ∧ i = .int .i64 k ∧ Shape.Fill Shape.str 9 w.heap.size l.length wr (l.take k) ∧ Ext w wr) (fun i _ => l.length - (intOf i).toNat)
  case atStart => exact ⟨0, Nat.zero_le _, rfl, hF, hX⟩
  case round =>
    clear hF hX w1
    obtain ⟨k, hk, rfl, hF, hx⟩ := hrel
    by_cases hlt : k < l.length
    · have hkl : (l.take k).length = k := by rw [List.length_take]; omega
      have hroom := fun j hj => hF.room (by rw [hkl]; exact hlt) j hj
      rw [hkl] at hroom
      have hsz := szL_at ByteArray.size l k hlt
      obtain ⟨b, off, rfl, hcell, hok⟩ := Shape.str_at (strs.ext hx H.out) hlt
      obtain ⟨⟨u0, hu0⟩, hz0⟩ := hroom 0 (by decide)
      simp only [Nat.add_zero, show Shape.str.k = 1 from rfl, Nat.mul_one] at hu0 hz0
      have HK := Lib.hid hkl; clear hkl hroom
      go_wp2
      have hkl := HK.out
      have hst := hF.step (Ext.refl _) (x := l[k]) (Shape.own_str hok) (by rw [hkl]; exact hlt)
      rw [hkl, ← List.take_succ_eq_append_getElem hlt] at hst
      have hlo : w.heap.size ≤ w.heap.size := Nat.le_refl _
      go_roundw
      case rel => exact ⟨k + 1, by omega, by go_num, by simpa [Shape.putRow, Shape.str, Shape.one] using hst, hx.setCell (Nat.le_refl _) _⟩
      case measure => simp [intOf]; omega
    · have : k = l.length := by omega
      subst this
      rw [List.take_length] at hF
      go_wp2
      go_ret
      exact ⟨⟨_, rfl, hF.done rfl (by unfold maxLen; omega)⟩, hx⟩

set_option maxHeartbeats 400000 in
theorem toName_c (cs : List Value) (x : (List ByteArray)) (w : World) (h : strs.rd w cs x) (hs : (szL ByteArray.size) x ≤ 1048576) :
    Calls Tryz.prog 11 #[.agg cs.toArray] w (GivesA strs w x) := by
  have r0 := h; obtain ⟨c0, rfl⟩ := one_cell (strs.len h)
  go_enter Tryz.func11, Tryz.ntmps11
  go_wp2_with fail
  refine (toStringS_c _ x _ (strs.ext (by (repeat (refine Ext.setCell ?_ (by omega) _)); exact (((Ext.refl w).alloc _).alloc _).alloc _) r0) (by omega)).mono ?_
  rintro e w0 ⟨⟨r0', rfl, O0'⟩, hx0⟩
  have hn0 : w.heap.size + 1 + 1 + 1 ≤ w0.heap.size := by have := hx0.size; simpa [World.setCell] using this
  obtain ⟨A0, k0, rfl, _, _⟩ := Shape.sl_form O0'.rd
  have O0 : strs.own (w.heap.size + 1 + 1 + 1) w0.heap.size w0 [.slice A0 x.length k0] x := by simpa [World.setCell] using O0'
  clear O0'
  have bp : Blk w0 (w.heap.size) 40 #[c0] := Blk.ext hx0 (by (repeat (refine Blk.far ?_ (by omega) _)); exact ((Blk.new w _ _).alloc _).alloc _)
  have br : Blk w0 (w.heap.size + 1) 60 #[.slice none 0 0] := Blk.ext hx0 (by (repeat (refine Blk.far ?_ (by omega) _)); exact (Blk.new_at (by simp)).alloc _)
  have bo : Blk w0 (w.heap.size + 1 + 1) 60 #[.slice none 0 0] := Blk.ext hx0 (Blk.new_at (by simp))
  have E0 : Ext w w0 := Ext.trans (by (repeat (refine Ext.setCell ?_ (by omega) _)); exact (((Ext.refl w).alloc _).alloc _).alloc _) hx0

  clear hx0
  have fp0 : w0.cell? ⟨w.heap.size, 0, none⟩ = some (c0) := bp.cell 0
  have fo0 : w0.cell? ⟨w.heap.size + 1 + 1, 0, none⟩ = some (.slice none 0 0) := bo.cell 0
  have fr0 : w0.cell? ⟨w.heap.size + 1, 0, none⟩ = some (.slice none 0 0) := br.cell 0
  have zo0 : w0.frozen? ⟨w.heap.size + 1 + 1, 0, none⟩ = false := bo.frozen 0
  have zr0 : w0.frozen? ⟨w.heap.size + 1, 0, none⟩ = false := br.frozen 0
  go_wp2
  refine bodyPost_ret (v := .agg #[.slice A0 x.length k0]) (by simp [results, Tryz.results11, go_sem, fr0]) rfl ⟨⟨_, rfl, ?_⟩, ?_⟩
  · have hsz : ∀ (W : World) (p : Addr) (u : Value), (W.setCell p u).heap.size = W.heap.size := fun W p u => by simp [World.setCell]
    simp only [hsz]
    have QF := fun W => fun h : Fr (w.heap.size + 1 + 1 + 1) w0 W => h
    clear QF
    refine Shape.own.wide (lo := w.heap.size + 1 + 1 + 1) (hi := w0.heap.size) ?_ (by omega) (by omega)
    exact Shape.own.fr (N := w.heap.size + 1 + 1 + 1) O0 (by (repeat (refine Fr.setCell ?_ (by omega) _)); exact Fr.refl _ _) (by omega) (by omega)
  · (repeat (refine Ext.setCell ?_ (by omega) _)); exact E0

set_option maxHeartbeats 400000 in
theorem toKey_c (cs : List Value) (x : DKey) (w : World) (h : sKey.rd w cs x) (hs : szKey x ≤ 1048576) :
    Calls Tryz.prog 129 #[.agg cs.toArray] w (GivesA sKey w x) := by
  obtain ⟨c0, rfl, r0, r1⟩ := sKey_rd h
  unfold szKey at hs
  go_enter Tryz.func129, Tryz.ntmps129
  go_wp2_with fail
  refine (toName_c _ x.name _ (strs.ext (by (repeat (refine Ext.setCell ?_ (by omega) _)); exact (((Ext.refl w).alloc _).alloc _).alloc _) r0) (by omega)).mono ?_
  rintro e w0 ⟨⟨r0', rfl, O0'⟩, hx0⟩
  have hn0 : w.heap.size + 1 + 1 + 1 ≤ w0.heap.size := by have := hx0.size; simpa [World.setCell] using this
  obtain ⟨d0, rfl⟩ := one_cell (strs.len O0'.rd)
  obtain ⟨A0, k0, rfl, _, _⟩ := Shape.sl_form O0'.rd
  have O0 : strs.own (w.heap.size + 1 + 1 + 1) w0.heap.size w0 [.slice A0 x.name.length k0] x.name := by simpa [World.setCell] using O0'
  clear O0'
  have bp : Blk w0 (w.heap.size) 193 #[c0, .int .i64 x.secret] := Blk.ext hx0 (by (repeat (refine Blk.far ?_ (by omega) _)); exact ((Blk.new w _ _).alloc _).alloc _)
  have br : Blk w0 (w.heap.size + 1) 211 #[.slice none 0 0, .int .i64 0] := Blk.ext hx0 (by (repeat (refine Blk.far ?_ (by omega) _)); exact (Blk.new_at (by simp)).alloc _)
  have bo : Blk w0 (w.heap.size + 1 + 1) 211 #[.slice none 0 0, .int .i64 0] := Blk.ext hx0 (Blk.new_at (by simp))
  have E0 : Ext w w0 := Ext.trans (by (repeat (refine Ext.setCell ?_ (by omega) _)); exact (((Ext.refl w).alloc _).alloc _).alloc _) hx0

  clear hx0
  have fp0 : w0.cell? ⟨w.heap.size, 0, none⟩ = some (c0) := bp.cell 0
  have fo0 : w0.cell? ⟨w.heap.size + 1 + 1, 0, none⟩ = some (.slice none 0 0) := bo.cell 0
  have fr0 : w0.cell? ⟨w.heap.size + 1, 0, none⟩ = some (.slice none 0 0) := br.cell 0
  have zo0 : w0.frozen? ⟨w.heap.size + 1 + 1, 0, none⟩ = false := bo.frozen 0
  have zr0 : w0.frozen? ⟨w.heap.size + 1, 0, none⟩ = false := br.frozen 0
  have fp1 : w0.cell? ⟨w.heap.size, 1, none⟩ = some (.int .i64 x.secret) := bp.cell 1
  have fo1 : w0.cell? ⟨w.heap.size + 1 + 1, 1, none⟩ = some (.int .i64 0) := bo.cell 1
  have fr1 : w0.cell? ⟨w.heap.size + 1, 1, none⟩ = some (.int .i64 0) := br.cell 1
  have zo1 : w0.frozen? ⟨w.heap.size + 1 + 1, 1, none⟩ = false := bo.frozen 1
  have zr1 : w0.frozen? ⟨w.heap.size + 1, 1, none⟩ = false := br.frozen 1
  go_wp2
  refine bodyPost_ret (v := .agg #[.slice A0 x.name.length k0, .int .i64 x.secret]) (by simp [results, Tryz.results129, go_sem, fr0, fr1]) rfl ⟨⟨_, rfl, ?_⟩, ?_⟩
  · have hsz : ∀ (W : World) (p : Addr) (u : Value), (W.setCell p u).heap.size = W.heap.size := fun W p u => by simp [World.setCell]
    simp only [hsz]
    have QF := fun W => fun h : Fr (w.heap.size + 1 + 1 + 1) w0 W => h
    clear QF
    refine Shape.own.via ?_
    refine Shape.own.pair (lo := w.heap.size) (m := w0.heap.size) (m' := w0.heap.size) (cs := [_]) ?_ (by omega) ?_ (by omega) (by omega)
    · refine Shape.own.wide (lo := w.heap.size + 1 + 1 + 1) (hi := w0.heap.size) ?_ (by omega) (by omega)
      exact Shape.own.fr (N := w.heap.size + 1 + 1 + 1) O0 (by (repeat (refine Fr.setCell ?_ (by omega) _)); exact Fr.refl _ _) (by omega) (by omega)
    exact Shape.own_int r1
  · (repeat (refine Ext.setCell ?_ (by omega) _)); exact E0

set_option maxHeartbeats 400000 in
theorem toKeyS_c (v : Value) (l : (List DKey)) (w : World) (h : sKeyL.rd w [v] l) (hs : (szL szKey) l ≤ 1048576) :
    Calls Tryz.prog 81 #[v] w (Gives sKeyL w l) := by
  obtain ⟨A, c, rfl, hl, hm⟩ := Shape.sl_form h
  unfold maxLen at hm
  have hlen := szL_len szKey l
  have H := Lib.hid h; clear h
  obtain ⟨i0, hi, hz0, hz1, hz2⟩ := info_parts info_Key
  go_enter Tryz.func81, Tryz.ntmps81
  go_wp2_with (refine wpList_make_full _ rfl _ _ 47 rfl w.heap.size 211 i0 _ 2 Tryz.underlying47 hi hz0 hz1 .i64 .i64 _ _ l.length rfl rfl rfl rfl (by rw [hz2]; omega) (by unfold maxLen; omega) (Nat.le_refl _) ?_; intro w1 hown hgr)
  have hF : Shape.Fill sKey 211 w.heap.size l.length w1 [] := Shape.Fill.start (v := .bool true) hown
  have hX : Ext w w1 := (Ext.refl w).grown hgr (by simp)
  clear hown hgr hi hz0 hz1 hz2
  go_loopw [4] (fun i wr => ∃ k : Nat, k ≤ l.length ∧ i = .int .i64 k ∧ Shape.Fill sKey 211 w.heap.size l.length wr (l.take k) ∧ Ext w wr) (fun i _ => l.length - (intOf i).toNat)
  case atStart => exact ⟨0, Nat.zero_le _, rfl, hF, hX⟩
  case round =>
    clear hF hX w1
    obtain ⟨k, hk, rfl, hF, hx⟩ := hrel
    by_cases hlt : k < l.length
    · have hkl : (l.take k).length = k := by rw [List.length_take]; omega
      have hroom := fun j hj => hF.room (by rw [hkl]; exact hlt) j hj
      rw [hkl] at hroom
      have hsz := szL_at szKey l k hlt
      obtain ⟨b, off, es, rfl, hc, hr⟩ := Shape.sl_at (sKeyL.ext hx H.out) hlt
      have hr' := hr
      obtain ⟨c0, rfl, r0, r1⟩ := sKey_rd hr
      have f0 := hc 0 _ rfl
      have f1 := hc 1 _ rfl
      simp only [Nat.add_zero, show sKey.k = 2 from rfl, Nat.mul_one] at f0 f1
      have HK := Lib.hid hkl; clear hkl hc
      go_wp2_with fail
      refine (toKey_c _ l[k] _ hr' (by omega)).mono ?_
      rintro e w1 ⟨⟨r, rfl, hO⟩, hx1⟩
      obtain ⟨d0, rfl, s0, s1⟩ := sKey_rd hO.rd
      have hF1 := hF.ext hx1
      have hroom := fun j hj => hF1.room (by rw [HK.out]; exact hlt) j hj
      rw [HK.out] at hroom
      obtain ⟨⟨u0, hu0⟩, hz0⟩ := hroom 0 (by decide)
      obtain ⟨⟨u1, hu1⟩, hz1⟩ := hroom 1 (by decide)
      simp only [Nat.add_zero, show sKey.k = 2 from rfl, Nat.mul_one] at hu0 hz0 hu1 hz1
      obtain ⟨A_0, k_0, rfl, _, _⟩ := Shape.sl_form (sKey_f0 hO.rd)
      clear hroom
      have hg : w.heap.size < w1.heap.size := hF1.lt
      go_wp2
      have hkl := HK.out
      have hst := hF.step hx1 hO (by rw [hkl]; exact hlt)
      rw [hkl, ← List.take_succ_eq_append_getElem hlt] at hst
      go_roundw
      case rel => exact ⟨k + 1, by omega, by go_num, by simpa [Shape.putRow, show sKey.k = 2 from rfl] using hst, (by (repeat (refine Ext.setCell ?_ (Nat.le_refl _) _)); exact hx.trans hx1)⟩
      case measure => simp [intOf]; omega
    · have : k = l.length := by omega
      subst this
      rw [List.take_length] at hF
      go_wp2
      go_ret
      exact ⟨⟨_, rfl, hF.done rfl (by unfold maxLen; omega)⟩, hx⟩

set_option maxHeartbeats 400000 in
theorem toPattern_c (cs : List Value) (x : (List ByteArray)) (w : World) (h : strs.rd w cs x) (hs : (szL ByteArray.size) x ≤ 1048576) :
    Calls Tryz.prog 165 #[.agg cs.toArray] w (GivesA strs w x) := by
  have r0 := h; obtain ⟨c0, rfl⟩ := one_cell (strs.len h)
  go_enter Tryz.func165, Tryz.ntmps165
  go_wp2_with fail
  refine (toStringS_c _ x _ (strs.ext (by (repeat (refine Ext.setCell ?_ (by omega) _)); exact (((Ext.refl w).alloc _).alloc _).alloc _) r0) (by omega)).mono ?_
  rintro e w0 ⟨⟨r0', rfl, O0'⟩, hx0⟩
  have hn0 : w.heap.size + 1 + 1 + 1 ≤ w0.heap.size := by have := hx0.size; simpa [World.setCell] using this
  obtain ⟨A0, k0, rfl, _, _⟩ := Shape.sl_form O0'.rd
  have O0 : strs.own (w.heap.size + 1 + 1 + 1) w0.heap.size w0 [.slice A0 x.length k0] x := by simpa [World.setCell] using O0'
  clear O0'
  have bp : Blk w0 (w.heap.size) 195 #[c0] := Blk.ext hx0 (by (repeat (refine Blk.far ?_ (by omega) _)); exact ((Blk.new w _ _).alloc _).alloc _)
  have br : Blk w0 (w.heap.size + 1) 213 #[.slice none 0 0] := Blk.ext hx0 (by (repeat (refine Blk.far ?_ (by omega) _)); exact (Blk.new_at (by simp)).alloc _)
  have bo : Blk w0 (w.heap.size + 1 + 1) 213 #[.slice none 0 0] := Blk.ext hx0 (Blk.new_at (by simp))
  have E0 : Ext w w0 := Ext.trans (by (repeat (refine Ext.setCell ?_ (by omega) _)); exact (((Ext.refl w).alloc _).alloc _).alloc _) hx0

  clear hx0
  have fp0 : w0.cell? ⟨w.heap.size, 0, none⟩ = some (c0) := bp.cell 0
  have fo0 : w0.cell? ⟨w.heap.size + 1 + 1, 0, none⟩ = some (.slice none 0 0) := bo.cell 0
  have fr0 : w0.cell? ⟨w.heap.size + 1, 0, none⟩ = some (.slice none 0 0) := br.cell 0
  have zo0 : w0.frozen? ⟨w.heap.size + 1 + 1, 0, none⟩ = false := bo.frozen 0
  have zr0 : w0.frozen? ⟨w.heap.size + 1, 0, none⟩ = false := br.frozen 0
  go_wp2
  refine bodyPost_ret (v := .agg #[.slice A0 x.length k0]) (by simp [results, Tryz.results165, go_sem, fr0]) rfl ⟨⟨_, rfl, ?_⟩, ?_⟩
  · have hsz : ∀ (W : World) (p : Addr) (u : Value), (W.setCell p u).heap.size = W.heap.size := fun W p u => by simp [World.setCell]
    simp only [hsz]
    have QF := fun W => fun h : Fr (w.heap.size + 1 + 1 + 1) w0 W => h
    clear QF
    refine Shape.own.wide (lo := w.heap.size + 1 + 1 + 1) (hi := w0.heap.size) ?_ (by omega) (by omega)
    exact Shape.own.fr (N := w.heap.size + 1 + 1 + 1) O0 (by (repeat (refine Fr.setCell ?_ (by omega) _)); exact Fr.refl _ _) (by omega) (by omega)
  · (repeat (refine Ext.setCell ?_ (by omega) _)); exact E0

set_option maxHeartbeats 400000 in
theorem toRule_c (cs : List Value) (x : DRule) (w : World) (h : sRule.rd w cs x) (hs : szRule x ≤ 1048576) :
    Calls Tryz.prog 130 #[.agg cs.toArray] w (GivesA sRule w x) := by
  obtain ⟨c0, c1, rfl, r0, r1⟩ := sRule_rd h
  unfold szRule at hs
  go_enter Tryz.func130, Tryz.ntmps130
  go_wp2_with fail
  refine (toPattern_c _ x.dataPattern _ (strs.ext (by (repeat (refine Ext.setCell ?_ (by omega) _)); exact (((Ext.refl w).alloc _).alloc _).alloc _) r0) (by omega)).mono ?_
  rintro e w0 ⟨⟨r0', rfl, O0'⟩, hx0⟩
  have hn0 : w.heap.size + 1 + 1 + 1 ≤ w0.heap.size := by have := hx0.size; simpa [World.setCell] using this
  obtain ⟨d0, rfl⟩ := one_cell (strs.len O0'.rd)
  obtain ⟨A0, k0, rfl, _, _⟩ := Shape.sl_form O0'.rd
  have O0 : strs.own (w.heap.size + 1 + 1 + 1) w0.heap.size w0 [.slice A0 x.dataPattern.length k0] x.dataPattern := by simpa [World.setCell] using O0'
  clear O0'
  have bp : Blk w0 (w.heap.size) 197 #[c0, c1] := Blk.ext hx0 (by (repeat (refine Blk.far ?_ (by omega) _)); exact ((Blk.new w _ _).alloc _).alloc _)
  have br : Blk w0 (w.heap.size + 1) 215 #[.slice none 0 0, .slice none 0 0] := Blk.ext hx0 (by (repeat (refine Blk.far ?_ (by omega) _)); exact (Blk.new_at (by simp)).alloc _)
  have bo : Blk w0 (w.heap.size + 1 + 1) 215 #[.slice none 0 0, .slice none 0 0] := Blk.ext hx0 (Blk.new_at (by simp))
  have E0 : Ext w w0 := Ext.trans (by (repeat (refine Ext.setCell ?_ (by omega) _)); exact (((Ext.refl w).alloc _).alloc _).alloc _) hx0

  clear hx0
  have fp0 : w0.cell? ⟨w.heap.size, 0, none⟩ = some (c0) := bp.cell 0
  have fo0 : w0.cell? ⟨w.heap.size + 1 + 1, 0, none⟩ = some (.slice none 0 0) := bo.cell 0
  have fr0 : w0.cell? ⟨w.heap.size + 1, 0, none⟩ = some (.slice none 0 0) := br.cell 0
  have zo0 : w0.frozen? ⟨w.heap.size + 1 + 1, 0, none⟩ = false := bo.frozen 0
  have zr0 : w0.frozen? ⟨w.heap.size + 1, 0, none⟩ = false := br.frozen 0
  have fp1 : w0.cell? ⟨w.heap.size, 1, none⟩ = some (c1) := bp.cell 1
  have fo1 : w0.cell? ⟨w.heap.size + 1 + 1, 1, none⟩ = some (.slice none 0 0) := bo.cell 1
  have fr1 : w0.cell? ⟨w.heap.size + 1, 1, none⟩ = some (.slice none 0 0) := br.cell 1
  have zo1 : w0.frozen? ⟨w.heap.size + 1 + 1, 1, none⟩ = false := bo.frozen 1
  have zr1 : w0.frozen? ⟨w.heap.size + 1, 1, none⟩ = false := br.frozen 1
  go_wp2_with fail
  refine (toPattern_c _ x.keyPattern _ (strs.ext (by (repeat (refine Ext.setCell ?_ (by omega) _)); exact E0) r1) (by omega)).mono ?_
  rintro e w1 ⟨⟨r1', rfl, O1'⟩, hx1⟩
  have hn1 : w0.heap.size ≤ w1.heap.size := by have := hx1.size; simpa [World.setCell] using this
  obtain ⟨d1, rfl⟩ := one_cell (strs.len O1'.rd)
  obtain ⟨A1, k1, rfl, _, _⟩ := Shape.sl_form O1'.rd
  have O1 : strs.own (w0.heap.size) w1.heap.size w1 [.slice A1 x.keyPattern.length k1] x.keyPattern := by simpa [World.setCell] using O1'
  clear O1'
  replace bp : Blk w1 (w.heap.size) 197 #[c0, c1] := Blk.ext hx1 (by (repeat (refine Blk.far ?_ (by omega) _)); exact bp)
  replace br : Blk w1 (w.heap.size + 1) 215 #[.slice none 0 0, .slice none 0 0] := Blk.ext hx1 (by (repeat (refine Blk.far ?_ (by omega) _)); exact br)
  replace bo : Blk w1 (w.heap.size + 1 + 1) 215 #[.slice A0 x.dataPattern.length k0, .slice none 0 0] := Blk.ext hx1 (by simpa using (Blk.set_ (bo) 0 _))
  have E1 : Ext w w1 := Ext.trans (by (repeat (refine Ext.setCell ?_ (by omega) _)); exact E0) hx1
  have Q1 : Fr (w.heap.size + 1 + 1 + 1) w0 w1 := Fr.trans (by (repeat (refine Fr.setCell ?_ (by omega) _)); exact Fr.refl _ _) (Fr.ext hx1)
  clear hx1
  clear fp0 fo0 fr0 zo0 zr0 fp1 fo1 fr1 zo1 zr1
  have fp0 : w1.cell? ⟨w.heap.size, 0, none⟩ = some (c0) := bp.cell 0
  have fo0 : w1.cell? ⟨w.heap.size + 1 + 1, 0, none⟩ = some (.slice A0 x.dataPattern.length k0) := bo.cell 0
  have fr0 : w1.cell? ⟨w.heap.size + 1, 0, none⟩ = some (.slice none 0 0) := br.cell 0
  have zo0 : w1.frozen? ⟨w.heap.size + 1 + 1, 0, none⟩ = false := bo.frozen 0
  have zr0 : w1.frozen? ⟨w.heap.size + 1, 0, none⟩ = false := br.frozen 0
  have fp1 : w1.cell? ⟨w.heap.size, 1, none⟩ = some (c1) := bp.cell 1
  have fo1 : w1.cell? ⟨w.heap.size + 1 + 1, 1, none⟩ = some (.slice none 0 0) := bo.cell 1
  have fr1 : w1.cell? ⟨w.heap.size + 1, 1, none⟩ = some (.slice none 0 0) := br.cell 1
  have zo1 : w1.frozen? ⟨w.heap.size + 1 + 1, 1, none⟩ = false := bo.frozen 1
  have zr1 : w1.frozen? ⟨w.heap.size + 1, 1, none⟩ = false := br.frozen 1
  go_wp2
  refine bodyPost_ret (v := .agg #[.slice A0 x.dataPattern.length k0, .slice A1 x.keyPattern.length k1]) (by simp [results, Tryz.results130, go_sem, fr0, fr1]) rfl ⟨⟨_, rfl, ?_⟩, ?_⟩
  · have hsz : ∀ (W : World) (p : Addr) (u : Value), (W.setCell p u).heap.size = W.heap.size := fun W p u => by simp [World.setCell]
    simp only [hsz]
    have QF := fun W => fun h : Fr (w.heap.size + 1 + 1 + 1) w1 W => h
    clear QF
    refine Shape.own.via ?_
    refine Shape.own.pair (lo := w.heap.size) (m := w0.heap.size) (m' := w0.heap.size) (cs := [_]) ?_ (by omega) ?_ (by omega) (by omega)
    · refine Shape.own.wide (lo := w.heap.size + 1 + 1 + 1) (hi := w0.heap.size) ?_ (by omega) (by omega)
      exact Shape.own.fr (N := w.heap.size + 1 + 1 + 1) (O0.fr Q1 (by omega) (by omega)) (by (repeat (refine Fr.setCell ?_ (by omega) _)); exact Fr.refl _ _) (by omega) (by omega)
    refine Shape.own.wide (lo := w0.heap.size) (hi := w1.heap.size) ?_ (by omega) (by omega)
    exact Shape.own.fr (N := w.heap.size + 1 + 1 + 1) O1 (by (repeat (refine Fr.setCell ?_ (by omega) _)); exact Fr.refl _ _) (by omega) (by omega)
  · (repeat (refine Ext.setCell ?_ (by omega) _)); exact E1

set_option maxHeartbeats 400000 in
theorem toRuleS_c (v : Value) (l : (List DRule)) (w : World) (h : sRuleL.rd w [v] l) (hs : (szL szRule) l ≤ 1048576) :
    Calls Tryz.prog 82 #[v] w (Gives sRuleL w l) := by
  obtain ⟨A, c, rfl, hl, hm⟩ := Shape.sl_form h
  unfold maxLen at hm
  have hlen := szL_len szRule l
  have H := Lib.hid h; clear h
  obtain ⟨i0, hi, hz0, hz1, hz2⟩ := info_parts info_Rule
  go_enter Tryz.func82, Tryz.ntmps82
  go_wp2_with (refine wpList_make_full _ rfl _ _ 48 rfl w.heap.size 215 i0 _ 2 Tryz.underlying48 hi hz0 hz1 .i64 .i64 _ _ l.length rfl rfl rfl rfl (by rw [hz2]; omega) (by unfold maxLen; omega) (Nat.le_refl _) ?_; intro w1 hown hgr)
  have hF : Shape.Fill sRule 215 w.heap.size l.length w1 [] := Shape.Fill.start (v := .bool true) hown
  have hX : Ext w w1 := (Ext.refl w).grown hgr (by simp)
  clear hown hgr hi hz0 hz1 hz2
  go_loopw [4] (fun i wr => ∃ k : Nat, k ≤ l.length ∧ i = .int .i64 k ∧ Shape.Fill sRule 215 w.heap.size l.length wr (l.take k) ∧ Ext w wr) (fun i _ => l.length - (intOf i).toNat)
  case atStart => exact ⟨0, Nat.zero_le _, rfl, hF, hX⟩
  case round =>
    clear hF hX w1
    obtain ⟨k, hk, rfl, hF, hx⟩ := hrel
    by_cases hlt : k < l.length
    · have hkl : (l.take k).length = k := by rw [List.length_take]; omega
      have hroom := fun j hj => hF.room (by rw [hkl]; exact hlt) j hj
      rw [hkl] at hroom
      have hsz := szL_at szRule l k hlt
      obtain ⟨b, off, es, rfl, hc, hr⟩ := Shape.sl_at (sRuleL.ext hx H.out) hlt
      have hr' := hr
      obtain ⟨c0, c1, rfl, r0, r1⟩ := sRule_rd hr
      have f0 := hc 0 _ rfl
      have f1 := hc 1 _ rfl
      simp only [Nat.add_zero, show sRule.k = 2 from rfl, Nat.mul_one] at f0 f1
      have HK := Lib.hid hkl; clear hkl hc
      go_wp2_with fail
      refine (toRule_c _ l[k] _ hr' (by omega)).mono ?_
      rintro e w1 ⟨⟨r, rfl, hO⟩, hx1⟩
      obtain ⟨d0, d1, rfl, s0, s1⟩ := sRule_rd hO.rd
      have hF1 := hF.ext hx1
      have hroom := fun j hj => hF1.room (by rw [HK.out]; exact hlt) j hj
      rw [HK.out] at hroom
      obtain ⟨⟨u0, hu0⟩, hz0⟩ := hroom 0 (by decide)
      obtain ⟨⟨u1, hu1⟩, hz1⟩ := hroom 1 (by decide)
      simp only [Nat.add_zero, show sRule.k = 2 from rfl, Nat.mul_one] at hu0 hz0 hu1 hz1
      obtain ⟨A_0, k_0, rfl, _, _⟩ := Shape.sl_form (sRule_f0 hO.rd)
      obtain ⟨A_1, k_1, rfl, _, _⟩ := Shape.sl_form (sRule_f1 hO.rd)
      clear hroom
      have hg : w.heap.size < w1.heap.size := hF1.lt
      go_wp2
      have hkl := HK.out
      have hst := hF.step hx1 hO (by rw [hkl]; exact hlt)
      rw [hkl, ← List.take_succ_eq_append_getElem hlt] at hst
      go_roundw
      case rel => exact ⟨k + 1, by omega, by go_num, by simpa [Shape.putRow, show sRule.k = 2 from rfl] using hst, (by (repeat (refine Ext.setCell ?_ (Nat.le_refl _) _)); exact hx.trans hx1)⟩
      case measure => simp [intOf]; omega
    · have : k = l.length := by omega
      subst this
      rw [List.take_length] at hF
      go_wp2
      go_ret
      exact ⟨⟨_, rfl, hF.done rfl (by unfold maxLen; omega)⟩, hx⟩

set_option maxHeartbeats 400000 in
theorem toNameS_c (v : Value) (l : (List (List ByteArray))) (w : World) (h : sNameL.rd w [v] l) (hs : (szL (szL ByteArray.size)) l ≤ 1048576) :
    Calls Tryz.prog 83 #[v] w (Gives sNameL w l) := by
  obtain ⟨A, c, rfl, hl, hm⟩ := Shape.sl_form h
  unfold maxLen at hm
  have hlen := szL_len (szL ByteArray.size) l
  have H := Lib.hid h; clear h
  obtain ⟨i0, hi, hz0, hz1, hz2⟩ := info_parts info_Name
  go_enter Tryz.func83, Tryz.ntmps83
  go_wp2_with (refine wpList_make_full _ rfl _ _ 49 rfl w.heap.size 60 i0 _ 1 Tryz.underlying49 hi hz0 hz1 .i64 .i64 _ _ l.length rfl rfl rfl rfl (by rw [hz2]; omega) (by unfold maxLen; omega) (Nat.le_refl _) ?_; intro w1 hown hgr)
  have hF : Shape.Fill strs 60 w.heap.size l.length w1 [] := Shape.Fill.start (v := .bool true) hown
  have hX : Ext w w1 := (Ext.refl w).grown hgr (by simp)
  clear hown hgr hi hz0 hz1 hz2
  go_loopw [4] (fun i wr => ∃ k : Nat, k ≤ l.length ∧ i = .int .i64 k ∧ Shape.Fill strs 60 w.heap.size l.length wr (l.take k) ∧ Ext w wr) (fun i _ => l.length - (intOf i).toNat)
  case atStart => exact ⟨0, Nat.zero_le _, rfl, hF, hX⟩
  case round =>
    clear hF hX w1
    obtain ⟨k, hk, rfl, hF, hx⟩ := hrel
    by_cases hlt : k < l.length
    · have hkl : (l.take k).length = k := by rw [List.length_take]; omega
      have hroom := fun j hj => hF.room (by rw [hkl]; exact hlt) j hj
      rw [hkl] at hroom
      have hsz := szL_at (szL ByteArray.size) l k hlt
      obtain ⟨b, off, es, rfl, hc, hr⟩ := Shape.sl_at (sNameL.ext hx H.out) hlt
      have hr' := hr
      obtain ⟨c0, rfl⟩ := one_cell (strs.len hr)
      have f0 := hc 0 _ rfl
      simp only [Nat.add_zero, show strs.k = 1 from rfl, Nat.mul_one] at f0
      have HK := Lib.hid hkl; clear hkl hc
      go_wp2_with fail
      refine (toName_c _ l[k] _ hr' (by omega)).mono ?_
      rintro e w1 ⟨⟨r, rfl, hO⟩, hx1⟩
      obtain ⟨d0, rfl⟩ := one_cell (strs.len hO.rd)
      have hF1 := hF.ext hx1
      have hroom := fun j hj => hF1.room (by rw [HK.out]; exact hlt) j hj
      rw [HK.out] at hroom
      obtain ⟨⟨u0, hu0⟩, hz0⟩ := hroom 0 (by decide)
      simp only [Nat.add_zero, show strs.k = 1 from rfl, Nat.mul_one] at hu0 hz0
      obtain ⟨A_0, k_0, rfl, _, _⟩ := Shape.sl_form hO.rd
      clear hroom
      have hg : w.heap.size < w1.heap.size := hF1.lt
      go_wp2
      have hkl := HK.out
      have hst := hF.step hx1 hO (by rw [hkl]; exact hlt)
      rw [hkl, ← List.take_succ_eq_append_getElem hlt] at hst
      go_roundw
      case rel => exact ⟨k + 1, by omega, by go_num, by simpa [Shape.putRow, show strs.k = 1 from rfl] using hst, (by (repeat (refine Ext.setCell ?_ (Nat.le_refl _) _)); exact hx.trans hx1)⟩
      case measure => simp [intOf]; omega
    · have : k = l.length := by omega
      subst this
      rw [List.take_length] at hF
      go_wp2
      go_ret
      exact ⟨⟨_, rfl, hF.done rfl (by unfold maxLen; omega)⟩, hx⟩

set_option maxHeartbeats 400000 in
theorem toByteS_c (v : Value) (l : (List UInt8)) (w : World) (h : sBytes.rd w [v] l) (hs : (szL (fun _ => 0)) l ≤ 1048576) :
    Calls Tryz.prog 166 #[v] w (Gives sBytes w l) := by
  obtain ⟨A, c, rfl, hl, hm⟩ := Shape.sl_form h
  unfold maxLen at hm
  have hlen := szL_len (fun _ => 0) l
  have H := Lib.hid h; clear h
  obtain ⟨i0, hi, hz0, hz1, hz2⟩ := info_parts info_byte
  go_enter Tryz.func166, Tryz.ntmps166
  go_wp2_with (refine wpList_make_full _ rfl _ _ 99 rfl w.heap.size 5 i0 _ 1 Tryz.underlying99 hi hz0 hz1 .i64 .i64 _ _ l.length rfl rfl rfl rfl (by rw [hz2]; omega) (by unfold maxLen; omega) (Nat.le_refl _) ?_; intro w1 hown hgr)
  have hF : Shape.Fill Shape.byte 5 w.heap.size l.length w1 [] := Shape.Fill.start (v := .bool true) hown
  have hX : Ext w w1 := (Ext.refl w).grown hgr (by simp)
  clear hown hgr hi hz0 hz1 hz2
  go_loopw [4] (fun i wr => ∃ k : Nat, k ≤ l.length ∧ i = .int .i64 k ∧ Shape.Fill Shape.byte 5 w.heap.size l.length wr (l.take k) ∧ Ext w wr) (fun i _ => l.length - (intOf i).toNat)
  case atStart => exact ⟨0, Nat.zero_le _, rfl, hF, hX⟩
  case round =>
    clear hF hX w1
    obtain ⟨k, hk, rfl, hF, hx⟩ := hrel
    by_cases hlt : k < l.length
    · have hkl : (l.take k).length = k := by rw [List.length_take]; omega
      have hroom := fun j hj => hF.room (by rw [hkl]; exact hlt) j hj
      rw [hkl] at hroom
      have hsz := szL_at (fun _ => 0) l k hlt
      obtain ⟨b, off, rfl, hcell⟩ := Shape.byte_at (sBytes.ext hx H.out) hlt
      obtain ⟨⟨u0, hu0⟩, hz0⟩ := hroom 0 (by decide)
      simp only [Nat.add_zero, show Shape.byte.k = 1 from rfl, Nat.mul_one] at hu0 hz0
      have HK := Lib.hid hkl; clear hkl hroom
      go_wp2
      have hkl := HK.out
      have hst := hF.step (Ext.refl _) (x := l[k]) (Shape.own_byte) (by rw [hkl]; exact hlt)
      rw [hkl, ← List.take_succ_eq_append_getElem hlt] at hst
      have hlo : w.heap.size ≤ w.heap.size := Nat.le_refl _
      go_roundw
      case rel => exact ⟨k + 1, by omega, by go_num, by simpa [Shape.putRow, Shape.byte, Shape.one] using hst, hx.setCell (Nat.le_refl _) _⟩
      case measure => simp [intOf]; omega
    · have : k = l.length := by omega
      subst this
      rw [List.take_length] at hF
      go_wp2
      go_ret
      exact ⟨⟨_, rfl, hF.done rfl (by unfold maxLen; omega)⟩, hx⟩

set_option maxHeartbeats 400000 in
theorem toData_c (cs : List Value) (x : DData) (w : World) (h : sData.rd w cs x) (hs : szData x ≤ 1048576) :
    Calls Tryz.prog 131 #[.agg cs.toArray] w (GivesA sData w x) := by
  obtain ⟨c0, c1, c2, rfl, r0, r1, r2, r3, r4⟩ := sData_rd h
  unfold szData at hs
  go_enter Tryz.func131, Tryz.ntmps131
  go_wp2_with fail
  refine (toName_c _ x.name _ (strs.ext (by (repeat (refine Ext.setCell ?_ (by omega) _)); exact (((Ext.refl w).alloc _).alloc _).alloc _) r0) (by omega)).mono ?_
  rintro e w0 ⟨⟨r0', rfl, O0'⟩, hx0⟩
  have hn0 : w.heap.size + 1 + 1 + 1 ≤ w0.heap.size := by have := hx0.size; simpa [World.setCell] using this
  obtain ⟨d0, rfl⟩ := one_cell (strs.len O0'.rd)
  obtain ⟨A0, k0, rfl, _, _⟩ := Shape.sl_form O0'.rd
  have O0 : strs.own (w.heap.size + 1 + 1 + 1) w0.heap.size w0 [.slice A0 x.name.length k0] x.name := by simpa [World.setCell] using O0'
  clear O0'
  have bp : Blk w0 (w.heap.size) 148 #[c0, c1, c2, .int .i64 x.freshUntil, .int .i64 x.signature] := Blk.ext hx0 (by (repeat (refine Blk.far ?_ (by omega) _)); exact ((Blk.new w _ _).alloc _).alloc _)
  have br : Blk w0 (w.heap.size + 1) 101 #[.slice none 0 0, .slice none 0 0, .slice none 0 0, .int .i64 0, .int .i64 0] := Blk.ext hx0 (by (repeat (refine Blk.far ?_ (by omega) _)); exact (Blk.new_at (by simp)).alloc _)
  have bo : Blk w0 (w.heap.size + 1 + 1) 101 #[.slice none 0 0, .slice none 0 0, .slice none 0 0, .int .i64 0, .int .i64 0] := Blk.ext hx0 (Blk.new_at (by simp))
  have E0 : Ext w w0 := Ext.trans (by (repeat (refine Ext.setCell ?_ (by omega) _)); exact (((Ext.refl w).alloc _).alloc _).alloc _) hx0

  clear hx0
  have fp0 : w0.cell? ⟨w.heap.size, 0, none⟩ = some (c0) := bp.cell 0
  have fo0 : w0.cell? ⟨w.heap.size + 1 + 1, 0, none⟩ = some (.slice none 0 0) := bo.cell 0
  have fr0 : w0.cell? ⟨w.heap.size + 1, 0, none⟩ = some (.slice none 0 0) := br.cell 0
  have zo0 : w0.frozen? ⟨w.heap.size + 1 + 1, 0, none⟩ = false := bo.frozen 0
  have zr0 : w0.frozen? ⟨w.heap.size + 1, 0, none⟩ = false := br.frozen 0
  have fp1 : w0.cell? ⟨w.heap.size, 1, none⟩ = some (c1) := bp.cell 1
  have fo1 : w0.cell? ⟨w.heap.size + 1 + 1, 1, none⟩ = some (.slice none 0 0) := bo.cell 1
  have fr1 : w0.cell? ⟨w.heap.size + 1, 1, none⟩ = some (.slice none 0 0) := br.cell 1
  have zo1 : w0.frozen? ⟨w.heap.size + 1 + 1, 1, none⟩ = false := bo.frozen 1
  have zr1 : w0.frozen? ⟨w.heap.size + 1, 1, none⟩ = false := br.frozen 1
  have fp2 : w0.cell? ⟨w.heap.size, 2, none⟩ = some (c2) := bp.cell 2
  have fo2 : w0.cell? ⟨w.heap.size + 1 + 1, 2, none⟩ = some (.slice none 0 0) := bo.cell 2
  have fr2 : w0.cell? ⟨w.heap.size + 1, 2, none⟩ = some (.slice none 0 0) := br.cell 2
  have zo2 : w0.frozen? ⟨w.heap.size + 1 + 1, 2, none⟩ = false := bo.frozen 2
  have zr2 : w0.frozen? ⟨w.heap.size + 1, 2, none⟩ = false := br.frozen 2
  have fp3 : w0.cell? ⟨w.heap.size, 3, none⟩ = some (.int .i64 x.freshUntil) := bp.cell 3
  have fo3 : w0.cell? ⟨w.heap.size + 1 + 1, 3, none⟩ = some (.int .i64 0) := bo.cell 3
  have fr3 : w0.cell? ⟨w.heap.size + 1, 3, none⟩ = some (.int .i64 0) := br.cell 3
  have zo3 : w0.frozen? ⟨w.heap.size + 1 + 1, 3, none⟩ = false := bo.frozen 3
  have zr3 : w0.frozen? ⟨w.heap.size + 1, 3, none⟩ = false := br.frozen 3
  have fp4 : w0.cell? ⟨w.heap.size, 4, none⟩ = some (.int .i64 x.signature) := bp.cell 4
  have fo4 : w0.cell? ⟨w.heap.size + 1 + 1, 4, none⟩ = some (.int .i64 0) := bo.cell 4
  have fr4 : w0.cell? ⟨w.heap.size + 1, 4, none⟩ = some (.int .i64 0) := br.cell 4
  have zo4 : w0.frozen? ⟨w.heap.size + 1 + 1, 4, none⟩ = false := bo.frozen 4
  have zr4 : w0.frozen? ⟨w.heap.size + 1, 4, none⟩ = false := br.frozen 4
  go_wp2_with fail
  refine (toByteS_c _ x.content _ (sBytes.ext (by (repeat (refine Ext.setCell ?_ (by omega) _)); exact E0) r1) (by omega)).mono ?_
  rintro e w1 ⟨⟨r1', rfl, O1'⟩, hx1⟩
  have hn1 : w0.heap.size ≤ w1.heap.size := by have := hx1.size; simpa [World.setCell] using this
  obtain ⟨A1, k1, rfl, _, _⟩ := Shape.sl_form O1'.rd
  have O1 : sBytes.own (w0.heap.size) w1.heap.size w1 [.slice A1 x.content.length k1] x.content := by simpa [World.setCell] using O1'
  clear O1'
  replace bp : Blk w1 (w.heap.size) 148 #[c0, c1, c2, .int .i64 x.freshUntil, .int .i64 x.signature] := Blk.ext hx1 (by (repeat (refine Blk.far ?_ (by omega) _)); exact bp)
  replace br : Blk w1 (w.heap.size + 1) 101 #[.slice none 0 0, .slice none 0 0, .slice none 0 0, .int .i64 0, .int .i64 0] := Blk.ext hx1 (by (repeat (refine Blk.far ?_ (by omega) _)); exact br)
  replace bo : Blk w1 (w.heap.size + 1 + 1) 101 #[.slice A0 x.name.length k0, .slice none 0 0, .slice none 0 0, .int .i64 0, .int .i64 0] := Blk.ext hx1 (by simpa using (Blk.set_ (bo) 0 _))
  have E1 : Ext w w1 := Ext.trans (by (repeat (refine Ext.setCell ?_ (by omega) _)); exact E0) hx1
  have Q1 : Fr (w.heap.size + 1 + 1 + 1) w0 w1 := Fr.trans (by (repeat (refine Fr.setCell ?_ (by omega) _)); exact Fr.refl _ _) (Fr.ext hx1)
  clear hx1
  clear fp0 fo0 fr0 zo0 zr0 fp1 fo1 fr1 zo1 zr1 fp2 fo2 fr2 zo2 zr2 fp3 fo3 fr3 zo3 zr3 fp4 fo4 fr4 zo4 zr4
  have fp0 : w1.cell? ⟨w.heap.size, 0, none⟩ = some (c0) := bp.cell 0
  have fo0 : w1.cell? ⟨w.heap.size + 1 + 1, 0, none⟩ = some (.slice A0 x.name.length k0) := bo.cell 0
  have fr0 : w1.cell? ⟨w.heap.size + 1, 0, none⟩ = some (.slice none 0 0) := br.cell 0
  have zo0 : w1.frozen? ⟨w.heap.size + 1 + 1, 0, none⟩ = false := bo.frozen 0
  have zr0 : w1.frozen? ⟨w.heap.size + 1, 0, none⟩ = false := br.frozen 0
  have fp1 : w1.cell? ⟨w.heap.size, 1, none⟩ = some (c1) := bp.cell 1
  have fo1 : w1.cell? ⟨w.heap.size + 1 + 1, 1, none⟩ = some (.slice none 0 0) := bo.cell 1
  have fr1 : w1.cell? ⟨w.heap.size + 1, 1, none⟩ = some (.slice none 0 0) := br.cell 1
  have zo1 : w1.frozen? ⟨w.heap.size + 1 + 1, 1, none⟩ = false := bo.frozen 1
  have zr1 : w1.frozen? ⟨w.heap.size + 1, 1, none⟩ = false := br.frozen 1
  have fp2 : w1.cell? ⟨w.heap.size, 2, none⟩ = some (c2) := bp.cell 2
  have fo2 : w1.cell? ⟨w.heap.size + 1 + 1, 2, none⟩ = some (.slice none 0 0) := bo.cell 2
  have fr2 : w1.cell? ⟨w.heap.size + 1, 2, none⟩ = some (.slice none 0 0) := br.cell 2
  have zo2 : w1.frozen? ⟨w.heap.size + 1 + 1, 2, none⟩ = false := bo.frozen 2
  have zr2 : w1.frozen? ⟨w.heap.size + 1, 2, none⟩ = false := br.frozen 2
  have fp3 : w1.cell? ⟨w.heap.size, 3, none⟩ = some (.int .i64 x.freshUntil) := bp.cell 3
  have fo3 : w1.cell? ⟨w.heap.size + 1 + 1, 3, none⟩ = some (.int .i64 0) := bo.cell 3
  have fr3 : w1.cell? ⟨w.heap.size + 1, 3, none⟩ = some (.int .i64 0) := br.cell 3
  have zo3 : w1.frozen? ⟨w.heap.size + 1 + 1, 3, none⟩ = false := bo.frozen 3
  have zr3 : w1.frozen? ⟨w.heap.size + 1, 3, none⟩ = false := br.frozen 3
  have fp4 : w1.cell? ⟨w.heap.size, 4, none⟩ = some (.int .i64 x.signature) := bp.cell 4
  have fo4 : w1.cell? ⟨w.heap.size + 1 + 1, 4, none⟩ = some (.int .i64 0) := bo.cell 4
  have fr4 : w1.cell? ⟨w.heap.size + 1, 4, none⟩ = some (.int .i64 0) := br.cell 4
  have zo4 : w1.frozen? ⟨w.heap.size + 1 + 1, 4, none⟩ = false := bo.frozen 4
  have zr4 : w1.frozen? ⟨w.heap.size + 1, 4, none⟩ = false := br.frozen 4
  go_wp2_with fail
  refine (toName_c _ x.keyName _ (strs.ext (by (repeat (refine Ext.setCell ?_ (by omega) _)); exact E1) r2) (by omega)).mono ?_
  rintro e w2 ⟨⟨r2', rfl, O2'⟩, hx2⟩
  have hn2 : w1.heap.size ≤ w2.heap.size := by have := hx2.size; simpa [World.setCell] using this
  obtain ⟨d2, rfl⟩ := one_cell (strs.len O2'.rd)
  obtain ⟨A2, k2, rfl, _, _⟩ := Shape.sl_form O2'.rd
  have O2 : strs.own (w1.heap.size) w2.heap.size w2 [.slice A2 x.keyName.length k2] x.keyName := by simpa [World.setCell] using O2'
  clear O2'
  replace bp : Blk w2 (w.heap.size) 148 #[c0, c1, c2, .int .i64 x.freshUntil, .int .i64 x.signature] := Blk.ext hx2 (by (repeat (refine Blk.far ?_ (by omega) _)); exact bp)
  replace br : Blk w2 (w.heap.size + 1) 101 #[.slice none 0 0, .slice none 0 0, .slice none 0 0, .int .i64 0, .int .i64 0] := Blk.ext hx2 (by (repeat (refine Blk.far ?_ (by omega) _)); exact br)
  replace bo : Blk w2 (w.heap.size + 1 + 1) 101 #[.slice A0 x.name.length k0, .slice A1 x.content.length k1, .slice none 0 0, .int .i64 0, .int .i64 0] := Blk.ext hx2 (by simpa using (Blk.set_ (bo) 1 _))
  have E2 : Ext w w2 := Ext.trans (by (repeat (refine Ext.setCell ?_ (by omega) _)); exact E1) hx2
  have Q2 : Fr (w.heap.size + 1 + 1 + 1) w1 w2 := Fr.trans (by (repeat (refine Fr.setCell ?_ (by omega) _)); exact Fr.refl _ _) (Fr.ext hx2)
  clear hx2
  clear fp0 fo0 fr0 zo0 zr0 fp1 fo1 fr1 zo1 zr1 fp2 fo2 fr2 zo2 zr2 fp3 fo3 fr3 zo3 zr3 fp4 fo4 fr4 zo4 zr4
  have fp0 : w2.cell? ⟨w.heap.size, 0, none⟩ = some (c0) := bp.cell 0
  have fo0 : w2.cell? ⟨w.heap.size + 1 + 1, 0, none⟩ = some (.slice A0 x.name.length k0) := bo.cell 0
  have fr0 : w2.cell? ⟨w.heap.size + 1, 0, none⟩ = some (.slice none 0 0) := br.cell 0
  have zo0 : w2.frozen? ⟨w.heap.size + 1 + 1, 0, none⟩ = false := bo.frozen 0
  have zr0 : w2.frozen? ⟨w.heap.size + 1, 0, none⟩ = false := br.frozen 0
  have fp1 : w2.cell? ⟨w.heap.size, 1, none⟩ = some (c1) := bp.cell 1
  have fo1 : w2.cell? ⟨w.heap.size + 1 + 1, 1, none⟩ = some (.slice A1 x.content.length k1) := bo.cell 1
  have fr1 : w2.cell? ⟨w.heap.size + 1, 1, none⟩ = some (.slice none 0 0) := br.cell 1
  have zo1 : w2.frozen? ⟨w.heap.size + 1 + 1, 1, none⟩ = false := bo.frozen 1
  have zr1 : w2.frozen? ⟨w.heap.size + 1, 1, none⟩ = false := br.frozen 1
  have fp2 : w2.cell? ⟨w.heap.size, 2, none⟩ = some (c2) := bp.cell 2
  have fo2 : w2.cell? ⟨w.heap.size + 1 + 1, 2, none⟩ = some (.slice none 0 0) := bo.cell 2
  have fr2 : w2.cell? ⟨w.heap.size + 1, 2, none⟩ = some (.slice none 0 0) := br.cell 2
  have zo2 : w2.frozen? ⟨w.heap.size + 1 + 1, 2, none⟩ = false := bo.frozen 2
  have zr2 : w2.frozen? ⟨w.heap.size + 1, 2, none⟩ = false := br.frozen 2
  have fp3 : w2.cell? ⟨w.heap.size, 3, none⟩ = some (.int .i64 x.freshUntil) := bp.cell 3
  have fo3 : w2.cell? ⟨w.heap.size + 1 + 1, 3, none⟩ = some (.int .i64 0) := bo.cell 3
  have fr3 : w2.cell? ⟨w.heap.size + 1, 3, none⟩ = some (.int .i64 0) := br.cell 3
  have zo3 : w2.frozen? ⟨w.heap.size + 1 + 1, 3, none⟩ = false := bo.frozen 3
  have zr3 : w2.frozen? ⟨w.heap.size + 1, 3, none⟩ = false := br.frozen 3
  have fp4 : w2.cell? ⟨w.heap.size, 4, none⟩ = some (.int .i64 x.signature) := bp.cell 4
  have fo4 : w2.cell? ⟨w.heap.size + 1 + 1, 4, none⟩ = some (.int .i64 0) := bo.cell 4
  have fr4 : w2.cell? ⟨w.heap.size + 1, 4, none⟩ = some (.int .i64 0) := br.cell 4
  have zo4 : w2.frozen? ⟨w.heap.size + 1 + 1, 4, none⟩ = false := bo.frozen 4
  have zr4 : w2.frozen? ⟨w.heap.size + 1, 4, none⟩ = false := br.frozen 4
  go_wp2
  refine bodyPost_ret (v := .agg #[.slice A0 x.name.length k0, .slice A1 x.content.length k1, .slice A2 x.keyName.length k2, .int .i64 x.freshUntil, .int .i64 x.signature]) (by simp [results, Tryz.results131, go_sem, fr0, fr1, fr2, fr3, fr4]) rfl ⟨⟨_, rfl, ?_⟩, ?_⟩
  · have hsz : ∀ (W : World) (p : Addr) (u : Value), (W.setCell p u).heap.size = W.heap.size := fun W p u => by simp [World.setCell]
    simp only [hsz]
    have QF := fun W => fun h : Fr (w.heap.size + 1 + 1 + 1) w2 W => h
    clear QF
    refine Shape.own.via ?_
    refine Shape.own.pair (lo := w.heap.size) (m := w0.heap.size) (m' := w0.heap.size) (cs := [_]) ?_ (by omega) ?_ (by omega) (by omega)
    · refine Shape.own.wide (lo := w.heap.size + 1 + 1 + 1) (hi := w0.heap.size) ?_ (by omega) (by omega)
      exact Shape.own.fr (N := w.heap.size + 1 + 1 + 1) ((O0.fr Q1 (by omega) (by omega)).fr Q2 (by omega) (by omega)) (by (repeat (refine Fr.setCell ?_ (by omega) _)); exact Fr.refl _ _) (by omega) (by omega)
    refine Shape.own.pair (lo := w0.heap.size) (m := w1.heap.size) (m' := w1.heap.size) (cs := [_]) ?_ (by omega) ?_ (by omega) (by omega)
    · refine Shape.own.wide (lo := w0.heap.size) (hi := w1.heap.size) ?_ (by omega) (by omega)
      exact Shape.own.fr (N := w.heap.size + 1 + 1 + 1) (O1.fr Q2 (by omega) (by omega)) (by (repeat (refine Fr.setCell ?_ (by omega) _)); exact Fr.refl _ _) (by omega) (by omega)
    refine Shape.own.pair (lo := w1.heap.size) (m := w2.heap.size) (m' := w2.heap.size) (cs := [_]) ?_ (by omega) ?_ (by omega) (by omega)
    · refine Shape.own.wide (lo := w1.heap.size) (hi := w2.heap.size) ?_ (by omega) (by omega)
      exact Shape.own.fr (N := w.heap.size + 1 + 1 + 1) O2 (by (repeat (refine Fr.setCell ?_ (by omega) _)); exact Fr.refl _ _) (by omega) (by omega)
    refine Shape.own.pair (lo := w2.heap.size) (m := w2.heap.size) (m' := w2.heap.size) (cs := [_]) ?_ (by omega) ?_ (by omega) (by omega)
    · exact Shape.own_int r3
    exact Shape.own_int r4
  · (repeat (refine Ext.setCell ?_ (by omega) _)); exact E2

set_option maxHeartbeats 400000 in
theorem toDataS_c (v : Value) (l : (List DData)) (w : World) (h : sDataL.rd w [v] l) (hs : (szL szData) l ≤ 1048576) :
    Calls Tryz.prog 84 #[v] w (Gives sDataL w l) := by
  obtain ⟨A, c, rfl, hl, hm⟩ := Shape.sl_form h
  unfold maxLen at hm
  have hlen := szL_len szData l
  have H := Lib.hid h; clear h
  obtain ⟨i0, hi, hz0, hz1, hz2⟩ := info_parts info_Data
  go_enter Tryz.func84, Tryz.ntmps84
  go_wp2_with (refine wpList_make_full _ rfl _ _ 50 rfl w.heap.size 101 i0 _ 5 Tryz.underlying50 hi hz0 hz1 .i64 .i64 _ _ l.length rfl rfl rfl rfl (by rw [hz2]; omega) (by unfold maxLen; omega) (Nat.le_refl _) ?_; intro w1 hown hgr)
  have hF : Shape.Fill sData 101 w.heap.size l.length w1 [] := Shape.Fill.start (v := .bool true) hown
  have hX : Ext w w1 := (Ext.refl w).grown hgr (by simp)
  clear hown hgr hi hz0 hz1 hz2
  go_loopw [4] (fun i wr => ∃ k : Nat, k ≤ l.length ∧ i = .int .i64 k ∧ Shape.Fill sData 101 w.heap.size l.length wr (l.take k) ∧ Ext w wr) (fun i _ => l.length - (intOf i).toNat)
  case atStart => exact ⟨0, Nat.zero_le _, rfl, hF, hX⟩
  case round =>
    clear hF hX w1
    obtain ⟨k, hk, rfl, hF, hx⟩ := hrel
    by_cases hlt : k < l.length
    · have hkl : (l.take k).length = k := by rw [List.length_take]; omega
      have hroom := fun j hj => hF.room (by rw [hkl]; exact hlt) j hj
      rw [hkl] at hroom
      have hsz := szL_at szData l k hlt
      obtain ⟨b, off, es, rfl, hc, hr⟩ := Shape.sl_at (sDataL.ext hx H.out) hlt
      have hr' := hr
      obtain ⟨c0, c1, c2, rfl, r0, r1, r2, r3, r4⟩ := sData_rd hr
      have f0 := hc 0 _ rfl
      have f1 := hc 1 _ rfl
      have f2 := hc 2 _ rfl
      have f3 := hc 3 _ rfl
      have f4 := hc 4 _ rfl
      simp only [Nat.add_zero, show sData.k = 5 from rfl, Nat.mul_one] at f0 f1 f2 f3 f4
      have HK := Lib.hid hkl; clear hkl hc
      go_wp2_with fail
      refine (toData_c _ l[k] _ hr' (by omega)).mono ?_
      rintro e w1 ⟨⟨r, rfl, hO⟩, hx1⟩
      obtain ⟨d0, d1, d2, rfl, s0, s1, s2, s3, s4⟩ := sData_rd hO.rd
      have hF1 := hF.ext hx1
      have hroom := fun j hj => hF1.room (by rw [HK.out]; exact hlt) j hj
      rw [HK.out] at hroom
      obtain ⟨⟨u0, hu0⟩, hz0⟩ := hroom 0 (by decide)
      obtain ⟨⟨u1, hu1⟩, hz1⟩ := hroom 1 (by decide)
      obtain ⟨⟨u2, hu2⟩, hz2⟩ := hroom 2 (by decide)
      obtain ⟨⟨u3, hu3⟩, hz3⟩ := hroom 3 (by decide)
      obtain ⟨⟨u4, hu4⟩, hz4⟩ := hroom 4 (by decide)
      simp only [Nat.add_zero, show sData.k = 5 from rfl, Nat.mul_one] at hu0 hz0 hu1 hz1 hu2 hz2 hu3 hz3 hu4 hz4
      obtain ⟨A_0, k_0, rfl, _, _⟩ := Shape.sl_form (sData_f0 hO.rd)
      obtain ⟨A_1, k_1, rfl, _, _⟩ := Shape.sl_form (sData_f1 hO.rd)
      obtain ⟨A_2, k_2, rfl, _, _⟩ := Shape.sl_form (sData_f2 hO.rd)
      clear hroom
      have hg : w.heap.size < w1.heap.size := hF1.lt
      go_wp2
      have hkl := HK.out
      have hst := hF.step hx1 hO (by rw [hkl]; exact hlt)
      rw [hkl, ← List.take_succ_eq_append_getElem hlt] at hst
      go_roundw
      case rel => exact ⟨k + 1, by omega, by go_num, by simpa [Shape.putRow, show sData.k = 5 from rfl] using hst, (by (repeat (refine Ext.setCell ?_ (Nat.le_refl _) _)); exact hx.trans hx1)⟩
      case measure => simp [intOf]; omega
    · have : k = l.length := by omega
      subst this
      rw [List.take_length] at hF
      go_wp2
      go_ret
      exact ⟨⟨_, rfl, hF.done rfl (by unfold maxLen; omega)⟩, hx⟩

set_option maxHeartbeats 400000 in
theorem toTrustPolicy_c (cs : List Value) (x : DTrustPolicy) (w : World) (h : sTrustPolicy.rd w cs x) (hs : szTrustPolicy x ≤ 1048576) :
    Calls Tryz.prog 38 #[.agg cs.toArray] w (GivesA sTrustPolicy w x) := by
  obtain ⟨c0, c1, c2, c3, rfl, r0, r1, r2, r3⟩ := sTrustPolicy_rd h
  unfold szTrustPolicy at hs
  go_enter Tryz.func38, Tryz.ntmps38
  go_wp2_with fail
  refine (toKeyS_c _ x.keys _ (sKeyL.ext (by (repeat (refine Ext.setCell ?_ (by omega) _)); exact (((Ext.refl w).alloc _).alloc _).alloc _) r0) (by omega)).mono ?_
  rintro e w0 ⟨⟨r0', rfl, O0'⟩, hx0⟩
  have hn0 : w.heap.size + 1 + 1 + 1 ≤ w0.heap.size := by have := hx0.size; simpa [World.setCell] using this
  obtain ⟨A0, k0, rfl, _, _⟩ := Shape.sl_form O0'.rd
  have O0 : sKeyL.own (w.heap.size + 1 + 1 + 1) w0.heap.size w0 [.slice A0 x.keys.length k0] x.keys := by simpa [World.setCell] using O0'
  clear O0'
  have bp : Blk w0 (w.heap.size) 30 #[c0, c1, c2, c3] := Blk.ext hx0 (by (repeat (refine Blk.far ?_ (by omega) _)); exact ((Blk.new w _ _).alloc _).alloc _)
  have br : Blk w0 (w.heap.size + 1) 52 #[.slice none 0 0, .slice none 0 0, .slice none 0 0, .slice none 0 0] := Blk.ext hx0 (by (repeat (refine Blk.far ?_ (by omega) _)); exact (Blk.new_at (by simp)).alloc _)
  have bo : Blk w0 (w.heap.size + 1 + 1) 52 #[.slice none 0 0, .slice none 0 0, .slice none 0 0, .slice none 0 0] := Blk.ext hx0 (Blk.new_at (by simp))
  have E0 : Ext w w0 := Ext.trans (by (repeat (refine Ext.setCell ?_ (by omega) _)); exact (((Ext.refl w).alloc _).alloc _).alloc _) hx0

  clear hx0
  have fp0 : w0.cell? ⟨w.heap.size, 0, none⟩ = some (c0) := bp.cell 0
  have fo0 : w0.cell? ⟨w.heap.size + 1 + 1, 0, none⟩ = some (.slice none 0 0) := bo.cell 0
  have fr0 : w0.cell? ⟨w.heap.size + 1, 0, none⟩ = some (.slice none 0 0) := br.cell 0
  have zo0 : w0.frozen? ⟨w.heap.size + 1 + 1, 0, none⟩ = false := bo.frozen 0
  have zr0 : w0.frozen? ⟨w.heap.size + 1, 0, none⟩ = false := br.frozen 0
  have fp1 : w0.cell? ⟨w.heap.size, 1, none⟩ = some (c1) := bp.cell 1
  have fo1 : w0.cell? ⟨w.heap.size + 1 + 1, 1, none⟩ = some (.slice none 0 0) := bo.cell 1
  have fr1 : w0.cell? ⟨w.heap.size + 1, 1, none⟩ = some (.slice none 0 0) := br.cell 1
  have zo1 : w0.frozen? ⟨w.heap.size + 1 + 1, 1, none⟩ = false := bo.frozen 1
  have zr1 : w0.frozen? ⟨w.heap.size + 1, 1, none⟩ = false := br.frozen 1
  have fp2 : w0.cell? ⟨w.heap.size, 2, none⟩ = some (c2) := bp.cell 2
  have fo2 : w0.cell? ⟨w.heap.size + 1 + 1, 2, none⟩ = some (.slice none 0 0) := bo.cell 2
  have fr2 : w0.cell? ⟨w.heap.size + 1, 2, none⟩ = some (.slice none 0 0) := br.cell 2
  have zo2 : w0.frozen? ⟨w.heap.size + 1 + 1, 2, none⟩ = false := bo.frozen 2
  have zr2 : w0.frozen? ⟨w.heap.size + 1, 2, none⟩ = false := br.frozen 2
  have fp3 : w0.cell? ⟨w.heap.size, 3, none⟩ = some (c3) := bp.cell 3
  have fo3 : w0.cell? ⟨w.heap.size + 1 + 1, 3, none⟩ = some (.slice none 0 0) := bo.cell 3
  have fr3 : w0.cell? ⟨w.heap.size + 1, 3, none⟩ = some (.slice none 0 0) := br.cell 3
  have zo3 : w0.frozen? ⟨w.heap.size + 1 + 1, 3, none⟩ = false := bo.frozen 3
  have zr3 : w0.frozen? ⟨w.heap.size + 1, 3, none⟩ = false := br.frozen 3
  go_wp2_with fail
  refine (toRuleS_c _ x.rules _ (sRuleL.ext (by (repeat (refine Ext.setCell ?_ (by omega) _)); exact E0) r1) (by omega)).mono ?_
  rintro e w1 ⟨⟨r1', rfl, O1'⟩, hx1⟩
  have hn1 : w0.heap.size ≤ w1.heap.size := by have := hx1.size; simpa [World.setCell] using this
  obtain ⟨A1, k1, rfl, _, _⟩ := Shape.sl_form O1'.rd
  have O1 : sRuleL.own (w0.heap.size) w1.heap.size w1 [.slice A1 x.rules.length k1] x.rules := by simpa [World.setCell] using O1'
  clear O1'
  replace bp : Blk w1 (w.heap.size) 30 #[c0, c1, c2, c3] := Blk.ext hx1 (by (repeat (refine Blk.far ?_ (by omega) _)); exact bp)
  replace br : Blk w1 (w.heap.size + 1) 52 #[.slice none 0 0, .slice none 0 0, .slice none 0 0, .slice none 0 0] := Blk.ext hx1 (by (repeat (refine Blk.far ?_ (by omega) _)); exact br)
  replace bo : Blk w1 (w.heap.size + 1 + 1) 52 #[.slice A0 x.keys.length k0, .slice none 0 0, .slice none 0 0, .slice none 0 0] := Blk.ext hx1 (by simpa using (Blk.set_ (bo) 0 _))
  have E1 : Ext w w1 := Ext.trans (by (repeat (refine Ext.setCell ?_ (by omega) _)); exact E0) hx1
  have Q1 : Fr (w.heap.size + 1 + 1 + 1) w0 w1 := Fr.trans (by (repeat (refine Fr.setCell ?_ (by omega) _)); exact Fr.refl _ _) (Fr.ext hx1)
  clear hx1
  clear fp0 fo0 fr0 zo0 zr0 fp1 fo1 fr1 zo1 zr1 fp2 fo2 fr2 zo2 zr2 fp3 fo3 fr3 zo3 zr3
  have fp0 : w1.cell? ⟨w.heap.size, 0, none⟩ = some (c0) := bp.cell 0
  have fo0 : w1.cell? ⟨w.heap.size + 1 + 1, 0, none⟩ = some (.slice A0 x.keys.length k0) := bo.cell 0
  have fr0 : w1.cell? ⟨w.heap.size + 1, 0, none⟩ = some (.slice none 0 0) := br.cell 0
  have zo0 : w1.frozen? ⟨w.heap.size + 1 + 1, 0, none⟩ = false := bo.frozen 0
  have zr0 : w1.frozen? ⟨w.heap.size + 1, 0, none⟩ = false := br.frozen 0
  have fp1 : w1.cell? ⟨w.heap.size, 1, none⟩ = some (c1) := bp.cell 1
  have fo1 : w1.cell? ⟨w.heap.size + 1 + 1, 1, none⟩ = some (.slice none 0 0) := bo.cell 1
  have fr1 : w1.cell? ⟨w.heap.size + 1, 1, none⟩ = some (.slice none 0 0) := br.cell 1
  have zo1 : w1.frozen? ⟨w.heap.size + 1 + 1, 1, none⟩ = false := bo.frozen 1
  have zr1 : w1.frozen? ⟨w.heap.size + 1, 1, none⟩ = false := br.frozen 1
  have fp2 : w1.cell? ⟨w.heap.size, 2, none⟩ = some (c2) := bp.cell 2
  have fo2 : w1.cell? ⟨w.heap.size + 1 + 1, 2, none⟩ = some (.slice none 0 0) := bo.cell 2
  have fr2 : w1.cell? ⟨w.heap.size + 1, 2, none⟩ = some (.slice none 0 0) := br.cell 2
  have zo2 : w1.frozen? ⟨w.heap.size + 1 + 1, 2, none⟩ = false := bo.frozen 2
  have zr2 : w1.frozen? ⟨w.heap.size + 1, 2, none⟩ = false := br.frozen 2
  have fp3 : w1.cell? ⟨w.heap.size, 3, none⟩ = some (c3) := bp.cell 3
  have fo3 : w1.cell? ⟨w.heap.size + 1 + 1, 3, none⟩ = some (.slice none 0 0) := bo.cell 3
  have fr3 : w1.cell? ⟨w.heap.size + 1, 3, none⟩ = some (.slice none 0 0) := br.cell 3
  have zo3 : w1.frozen? ⟨w.heap.size + 1 + 1, 3, none⟩ = false := bo.frozen 3
  have zr3 : w1.frozen? ⟨w.heap.size + 1, 3, none⟩ = false := br.frozen 3
  go_wp2_with fail
  refine (toNameS_c _ x.anchors _ (sNameL.ext (by (repeat (refine Ext.setCell ?_ (by omega) _)); exact E1) r2) (by omega)).mono ?_
  rintro e w2 ⟨⟨r2', rfl, O2'⟩, hx2⟩
  have hn2 : w1.heap.size ≤ w2.heap.size := by have := hx2.size; simpa [World.setCell] using this
  obtain ⟨A2, k2, rfl, _, _⟩ := Shape.sl_form O2'.rd
  have O2 : sNameL.own (w1.heap.size) w2.heap.size w2 [.slice A2 x.anchors.length k2] x.anchors := by simpa [World.setCell] using O2'
  clear O2'
  replace bp : Blk w2 (w.heap.size) 30 #[c0, c1, c2, c3] := Blk.ext hx2 (by (repeat (refine Blk.far ?_ (by omega) _)); exact bp)
  replace br : Blk w2 (w.heap.size + 1) 52 #[.slice none 0 0, .slice none 0 0, .slice none 0 0, .slice none 0 0] := Blk.ext hx2 (by (repeat (refine Blk.far ?_ (by omega) _)); exact br)
  replace bo : Blk w2 (w.heap.size + 1 + 1) 52 #[.slice A0 x.keys.length k0, .slice A1 x.rules.length k1, .slice none 0 0, .slice none 0 0] := Blk.ext hx2 (by simpa using (Blk.set_ (bo) 1 _))
  have E2 : Ext w w2 := Ext.trans (by (repeat (refine Ext.setCell ?_ (by omega) _)); exact E1) hx2
  have Q2 : Fr (w.heap.size + 1 + 1 + 1) w1 w2 := Fr.trans (by (repeat (refine Fr.setCell ?_ (by omega) _)); exact Fr.refl _ _) (Fr.ext hx2)
  clear hx2
  clear fp0 fo0 fr0 zo0 zr0 fp1 fo1 fr1 zo1 zr1 fp2 fo2 fr2 zo2 zr2 fp3 fo3 fr3 zo3 zr3
  have fp0 : w2.cell? ⟨w.heap.size, 0, none⟩ = some (c0) := bp.cell 0
  have fo0 : w2.cell? ⟨w.heap.size + 1 + 1, 0, none⟩ = some (.slice A0 x.keys.length k0) := bo.cell 0
  have fr0 : w2.cell? ⟨w.heap.size + 1, 0, none⟩ = some (.slice none 0 0) := br.cell 0
  have zo0 : w2.frozen? ⟨w.heap.size + 1 + 1, 0, none⟩ = false := bo.frozen 0
  have zr0 : w2.frozen? ⟨w.heap.size + 1, 0, none⟩ = false := br.frozen 0
  have fp1 : w2.cell? ⟨w.heap.size, 1, none⟩ = some (c1) := bp.cell 1
  have fo1 : w2.cell? ⟨w.heap.size + 1 + 1, 1, none⟩ = some (.slice A1 x.rules.length k1) := bo.cell 1
  have fr1 : w2.cell? ⟨w.heap.size + 1, 1, none⟩ = some (.slice none 0 0) := br.cell 1
  have zo1 : w2.frozen? ⟨w.heap.size + 1 + 1, 1, none⟩ = false := bo.frozen 1
  have zr1 : w2.frozen? ⟨w.heap.size + 1, 1, none⟩ = false := br.frozen 1
  have fp2 : w2.cell? ⟨w.heap.size, 2, none⟩ = some (c2) := bp.cell 2
  have fo2 : w2.cell? ⟨w.heap.size + 1 + 1, 2, none⟩ = some (.slice none 0 0) := bo.cell 2
  have fr2 : w2.cell? ⟨w.heap.size + 1, 2, none⟩ = some (.slice none 0 0) := br.cell 2
  have zo2 : w2.frozen? ⟨w.heap.size + 1 + 1, 2, none⟩ = false := bo.frozen 2
  have zr2 : w2.frozen? ⟨w.heap.size + 1, 2, none⟩ = false := br.frozen 2
  have fp3 : w2.cell? ⟨w.heap.size, 3, none⟩ = some (c3) := bp.cell 3
  have fo3 : w2.cell? ⟨w.heap.size + 1 + 1, 3, none⟩ = some (.slice none 0 0) := bo.cell 3
  have fr3 : w2.cell? ⟨w.heap.size + 1, 3, none⟩ = some (.slice none 0 0) := br.cell 3
  have zo3 : w2.frozen? ⟨w.heap.size + 1 + 1, 3, none⟩ = false := bo.frozen 3
  have zr3 : w2.frozen? ⟨w.heap.size + 1, 3, none⟩ = false := br.frozen 3
  go_wp2_with fail
  refine (toDataS_c _ x.certificates _ (sDataL.ext (by (repeat (refine Ext.setCell ?_ (by omega) _)); exact E2) r3) (by omega)).mono ?_
  rintro e w3 ⟨⟨r3', rfl, O3'⟩, hx3⟩
  have hn3 : w2.heap.size ≤ w3.heap.size := by have := hx3.size; simpa [World.setCell] using this
  obtain ⟨A3, k3, rfl, _, _⟩ := Shape.sl_form O3'.rd
  have O3 : sDataL.own (w2.heap.size) w3.heap.size w3 [.slice A3 x.certificates.length k3] x.certificates := by simpa [World.setCell] using O3'
  clear O3'
  replace bp : Blk w3 (w.heap.size) 30 #[c0, c1, c2, c3] := Blk.ext hx3 (by (repeat (refine Blk.far ?_ (by omega) _)); exact bp)
  replace br : Blk w3 (w.heap.size + 1) 52 #[.slice none 0 0, .slice none 0 0, .slice none 0 0, .slice none 0 0] := Blk.ext hx3 (by (repeat (refine Blk.far ?_ (by omega) _)); exact br)
  replace bo : Blk w3 (w.heap.size + 1 + 1) 52 #[.slice A0 x.keys.length k0, .slice A1 x.rules.length k1, .slice A2 x.anchors.length k2, .slice none 0 0] := Blk.ext hx3 (by simpa using (Blk.set_ (bo) 2 _))
  have E3 : Ext w w3 := Ext.trans (by (repeat (refine Ext.setCell ?_ (by omega) _)); exact E2) hx3
  have Q3 : Fr (w.heap.size + 1 + 1 + 1) w2 w3 := Fr.trans (by (repeat (refine Fr.setCell ?_ (by omega) _)); exact Fr.refl _ _) (Fr.ext hx3)
  clear hx3
  clear fp0 fo0 fr0 zo0 zr0 fp1 fo1 fr1 zo1 zr1 fp2 fo2 fr2 zo2 zr2 fp3 fo3 fr3 zo3 zr3
  have fp0 : w3.cell? ⟨w.heap.size, 0, none⟩ = some (c0) := bp.cell 0
  have fo0 : w3.cell? ⟨w.heap.size + 1 + 1, 0, none⟩ = some (.slice A0 x.keys.length k0) := bo.cell 0
  have fr0 : w3.cell? ⟨w.heap.size + 1, 0, none⟩ = some (.slice none 0 0) := br.cell 0
  have zo0 : w3.frozen? ⟨w.heap.size + 1 + 1, 0, none⟩ = false := bo.frozen 0
  have zr0 : w3.frozen? ⟨w.heap.size + 1, 0, none⟩ = false := br.frozen 0
  have fp1 : w3.cell? ⟨w.heap.size, 1, none⟩ = some (c1) := bp.cell 1
  have fo1 : w3.cell? ⟨w.heap.size + 1 + 1, 1, none⟩ = some (.slice A1 x.rules.length k1) := bo.cell 1
  have fr1 : w3.cell? ⟨w.heap.size + 1, 1, none⟩ = some (.slice none 0 0) := br.cell 1
  have zo1 : w3.frozen? ⟨w.heap.size + 1 + 1, 1, none⟩ = false := bo.frozen 1
  have zr1 : w3.frozen? ⟨w.heap.size + 1, 1, none⟩ = false := br.frozen 1
  have fp2 : w3.cell? ⟨w.heap.size, 2, none⟩ = some (c2) := bp.cell 2
  have fo2 : w3.cell? ⟨w.heap.size + 1 + 1, 2, none⟩ = some (.slice A2 x.anchors.length k2) := bo.cell 2
  have fr2 : w3.cell? ⟨w.heap.size + 1, 2, none⟩ = some (.slice none 0 0) := br.cell 2
  have zo2 : w3.frozen? ⟨w.heap.size + 1 + 1, 2, none⟩ = false := bo.frozen 2
  have zr2 : w3.frozen? ⟨w.heap.size + 1, 2, none⟩ = false := br.frozen 2
  have fp3 : w3.cell? ⟨w.heap.size, 3, none⟩ = some (c3) := bp.cell 3
  have fo3 : w3.cell? ⟨w.heap.size + 1 + 1, 3, none⟩ = some (.slice none 0 0) := bo.cell 3
  have fr3 : w3.cell? ⟨w.heap.size + 1, 3, none⟩ = some (.slice none 0 0) := br.cell 3
  have zo3 : w3.frozen? ⟨w.heap.size + 1 + 1, 3, none⟩ = false := bo.frozen 3
  have zr3 : w3.frozen? ⟨w.heap.size + 1, 3, none⟩ = false := br.frozen 3
  go_wp2
  refine bodyPost_ret (v := .agg #[.slice A0 x.keys.length k0, .slice A1 x.rules.length k1, .slice A2 x.anchors.length k2, .slice A3 x.certificates.length k3]) (by simp [results, Tryz.results38, go_sem, fr0, fr1, fr2, fr3]) rfl ⟨⟨_, rfl, ?_⟩, ?_⟩
  · have hsz : ∀ (W : World) (p : Addr) (u : Value), (W.setCell p u).heap.size = W.heap.size := fun W p u => by simp [World.setCell]
    simp only [hsz]
    have QF := fun W => fun h : Fr (w.heap.size + 1 + 1 + 1) w3 W => h
    clear QF
    refine Shape.own.via ?_
    refine Shape.own.pair (lo := w.heap.size) (m := w0.heap.size) (m' := w0.heap.size) (cs := [_]) ?_ (by omega) ?_ (by omega) (by omega)
    · refine Shape.own.wide (lo := w.heap.size + 1 + 1 + 1) (hi := w0.heap.size) ?_ (by omega) (by omega)
      exact Shape.own.fr (N := w.heap.size + 1 + 1 + 1) (((O0.fr Q1 (by omega) (by omega)).fr Q2 (by omega) (by omega)).fr Q3 (by omega) (by omega)) (by (repeat (refine Fr.setCell ?_ (by omega) _)); exact Fr.refl _ _) (by omega) (by omega)
    refine Shape.own.pair (lo := w0.heap.size) (m := w1.heap.size) (m' := w1.heap.size) (cs := [_]) ?_ (by omega) ?_ (by omega) (by omega)
    · refine Shape.own.wide (lo := w0.heap.size) (hi := w1.heap.size) ?_ (by omega) (by omega)
      exact Shape.own.fr (N := w.heap.size + 1 + 1 + 1) ((O1.fr Q2 (by omega) (by omega)).fr Q3 (by omega) (by omega)) (by (repeat (refine Fr.setCell ?_ (by omega) _)); exact Fr.refl _ _) (by omega) (by omega)
    refine Shape.own.pair (lo := w1.heap.size) (m := w2.heap.size) (m' := w2.heap.size) (cs := [_]) ?_ (by omega) ?_ (by omega) (by omega)
    · refine Shape.own.wide (lo := w1.heap.size) (hi := w2.heap.size) ?_ (by omega) (by omega)
      exact Shape.own.fr (N := w.heap.size + 1 + 1 + 1) (O2.fr Q3 (by omega) (by omega)) (by (repeat (refine Fr.setCell ?_ (by omega) _)); exact Fr.refl _ _) (by omega) (by omega)
    refine Shape.own.wide (lo := w2.heap.size) (hi := w3.heap.size) ?_ (by omega) (by omega)
    exact Shape.own.fr (N := w.heap.size + 1 + 1 + 1) O3 (by (repeat (refine Fr.setCell ?_ (by omega) _)); exact Fr.refl _ _) (by omega) (by omega)
  · (repeat (refine Ext.setCell ?_ (by omega) _)); exact E3

set_option maxHeartbeats 400000 in
theorem toTableEntry_c (cs : List Value) (x : DTableEntry) (w : World) (h : sTableEntry.rd w cs x) (hs : szTableEntry x ≤ 1048576) :
    Calls Tryz.prog 85 #[.agg cs.toArray] w (GivesA sTableEntry w x) := by
  obtain ⟨c0, rfl, r0, r1⟩ := sTableEntry_rd h
  unfold szTableEntry at hs
  go_enter Tryz.func85, Tryz.ntmps85
  go_wp2_with fail
  refine (toName_c _ x.name _ (strs.ext (by (repeat (refine Ext.setCell ?_ (by omega) _)); exact (((Ext.refl w).alloc _).alloc _).alloc _) r0) (by omega)).mono ?_
  rintro e w0 ⟨⟨r0', rfl, O0'⟩, hx0⟩
  have hn0 : w.heap.size + 1 + 1 + 1 ≤ w0.heap.size := by have := hx0.size; simpa [World.setCell] using this
  obtain ⟨d0, rfl⟩ := one_cell (strs.len O0'.rd)
  obtain ⟨A0, k0, rfl, _, _⟩ := Shape.sl_form O0'.rd
  have O0 : strs.own (w.heap.size + 1 + 1 + 1) w0.heap.size w0 [.slice A0 x.name.length k0] x.name := by simpa [World.setCell] using O0'
  clear O0'
  have bp : Blk w0 (w.heap.size) 133 #[c0, .int .i64 x.value] := Blk.ext hx0 (by (repeat (refine Blk.far ?_ (by omega) _)); exact ((Blk.new w _ _).alloc _).alloc _)
  have br : Blk w0 (w.heap.size + 1) 83 #[.slice none 0 0, .int .i64 0] := Blk.ext hx0 (by (repeat (refine Blk.far ?_ (by omega) _)); exact (Blk.new_at (by simp)).alloc _)
  have bo : Blk w0 (w.heap.size + 1 + 1) 83 #[.slice none 0 0, .int .i64 0] := Blk.ext hx0 (Blk.new_at (by simp))
  have E0 : Ext w w0 := Ext.trans (by (repeat (refine Ext.setCell ?_ (by omega) _)); exact (((Ext.refl w).alloc _).alloc _).alloc _) hx0

  clear hx0
  have fp0 : w0.cell? ⟨w.heap.size, 0, none⟩ = some (c0) := bp.cell 0
  have fo0 : w0.cell? ⟨w.heap.size + 1 + 1, 0, none⟩ = some (.slice none 0 0) := bo.cell 0
  have fr0 : w0.cell? ⟨w.heap.size + 1, 0, none⟩ = some (.slice none 0 0) := br.cell 0
  have zo0 : w0.frozen? ⟨w.heap.size + 1 + 1, 0, none⟩ = false := bo.frozen 0
  have zr0 : w0.frozen? ⟨w.heap.size + 1, 0, none⟩ = false := br.frozen 0
  have fp1 : w0.cell? ⟨w.heap.size, 1, none⟩ = some (.int .i64 x.value) := bp.cell 1
  have fo1 : w0.cell? ⟨w.heap.size + 1 + 1, 1, none⟩ = some (.int .i64 0) := bo.cell 1
  have fr1 : w0.cell? ⟨w.heap.size + 1, 1, none⟩ = some (.int .i64 0) := br.cell 1
  have zo1 : w0.frozen? ⟨w.heap.size + 1 + 1, 1, none⟩ = false := bo.frozen 1
  have zr1 : w0.frozen? ⟨w.heap.size + 1, 1, none⟩ = false := br.frozen 1
  go_wp2
  refine bodyPost_ret (v := .agg #[.slice A0 x.name.length k0, .int .i64 x.value]) (by simp [results, Tryz.results85, go_sem, fr0, fr1]) rfl ⟨⟨_, rfl, ?_⟩, ?_⟩
  · have hsz : ∀ (W : World) (p : Addr) (u : Value), (W.setCell p u).heap.size = W.heap.size := fun W p u => by simp [World.setCell]
    simp only [hsz]
    have QF := fun W => fun h : Fr (w.heap.size + 1 + 1 + 1) w0 W => h
    clear QF
    refine Shape.own.via ?_
    refine Shape.own.pair (lo := w.heap.size) (m := w0.heap.size) (m' := w0.heap.size) (cs := [_]) ?_ (by omega) ?_ (by omega) (by omega)
    · refine Shape.own.wide (lo := w.heap.size + 1 + 1 + 1) (hi := w0.heap.size) ?_ (by omega) (by omega)
      exact Shape.own.fr (N := w.heap.size + 1 + 1 + 1) O0 (by (repeat (refine Fr.setCell ?_ (by omega) _)); exact Fr.refl _ _) (by omega) (by omega)
    exact Shape.own_int r1
  · (repeat (refine Ext.setCell ?_ (by omega) _)); exact E0

set_option maxHeartbeats 400000 in
theorem toTableEntryS_c (v : Value) (l : (List DTableEntry)) (w : World) (h : sTableEntryL.rd w [v] l) (hs : (szL szTableEntry) l ≤ 1048576) :
    Calls Tryz.prog 39 #[v] w (Gives sTableEntryL w l) := by
  obtain ⟨A, c, rfl, hl, hm⟩ := Shape.sl_form h
  unfold maxLen at hm
  have hlen := szL_len szTableEntry l
  have H := Lib.hid h; clear h
  obtain ⟨i0, hi, hz0, hz1, hz2⟩ := info_parts info_TableEntry
  go_enter Tryz.func39, Tryz.ntmps39
  go_wp2_with (refine wpList_make_full _ rfl _ _ 53 rfl w.heap.size 83 i0 _ 2 Tryz.underlying53 hi hz0 hz1 .i64 .i64 _ _ l.length rfl rfl rfl rfl (by rw [hz2]; omega) (by unfold maxLen; omega) (Nat.le_refl _) ?_; intro w1 hown hgr)
  have hF : Shape.Fill sTableEntry 83 w.heap.size l.length w1 [] := Shape.Fill.start (v := .bool true) hown
  have hX : Ext w w1 := (Ext.refl w).grown hgr (by simp)
  clear hown hgr hi hz0 hz1 hz2
  go_loopw [4] (fun i wr => ∃ k : Nat, k ≤ l.length ∧ i = .int .i64 k ∧ Shape.Fill sTableEntry 83 w.heap.size l.length wr (l.take k) ∧ Ext w wr) (fun i _ => l.length - (intOf i).toNat)
  case atStart => exact ⟨0, Nat.zero_le _, rfl, hF, hX⟩
  case round =>
    clear hF hX w1
    obtain ⟨k, hk, rfl, hF, hx⟩ := hrel
    by_cases hlt : k < l.length
    · have hkl : (l.take k).length = k := by rw [List.length_take]; omega
      have hroom := fun j hj => hF.room (by rw [hkl]; exact hlt) j hj
      rw [hkl] at hroom
      have hsz := szL_at szTableEntry l k hlt
      obtain ⟨b, off, es, rfl, hc, hr⟩ := Shape.sl_at (sTableEntryL.ext hx H.out) hlt
      have hr' := hr
      obtain ⟨c0, rfl, r0, r1⟩ := sTableEntry_rd hr
      have f0 := hc 0 _ rfl
      have f1 := hc 1 _ rfl
      simp only [Nat.add_zero, show sTableEntry.k = 2 from rfl, Nat.mul_one] at f0 f1
      have HK := Lib.hid hkl; clear hkl hc
      go_wp2_with fail
      refine (toTableEntry_c _ l[k] _ hr' (by omega)).mono ?_
      rintro e w1 ⟨⟨r, rfl, hO⟩, hx1⟩
      obtain ⟨d0, rfl, s0, s1⟩ := sTableEntry_rd hO.rd
      have hF1 := hF.ext hx1
      have hroom := fun j hj => hF1.room (by rw [HK.out]; exact hlt) j hj
      rw [HK.out] at hroom
      obtain ⟨⟨u0, hu0⟩, hz0⟩ := hroom 0 (by decide)
      obtain ⟨⟨u1, hu1⟩, hz1⟩ := hroom 1 (by decide)
      simp only [Nat.add_zero, show sTableEntry.k = 2 from rfl, Nat.mul_one] at hu0 hz0 hu1 hz1
      obtain ⟨A_0, k_0, rfl, _, _⟩ := Shape.sl_form (sTableEntry_f0 hO.rd)
      clear hroom
      have hg : w.heap.size < w1.heap.size := hF1.lt
      go_wp2
      have hkl := HK.out
      have hst := hF.step hx1 hO (by rw [hkl]; exact hlt)
      rw [hkl, ← List.take_succ_eq_append_getElem hlt] at hst
      go_roundw
      case rel => exact ⟨k + 1, by omega, by go_num, by simpa [Shape.putRow, show sTableEntry.k = 2 from rfl] using hst, (by (repeat (refine Ext.setCell ?_ (Nat.le_refl _) _)); exact hx.trans hx1)⟩
      case measure => simp [intOf]; omega
    · have : k = l.length := by omega
      subst this
      rw [List.take_length] at hF
      go_wp2
      go_ret
      exact ⟨⟨_, rfl, hF.done rfl (by unfold maxLen; omega)⟩, hx⟩

set_option maxHeartbeats 400000 in
theorem toCacheEntry_c (cs : List Value) (x : DCacheEntry) (w : World) (h : sCacheEntry.rd w cs x) (hs : szCacheEntry x ≤ 1048576) :
    Calls Tryz.prog 191 #[.agg cs.toArray] w (GivesA sCacheEntry w x) := by
  obtain ⟨c0, c1, c2, rfl, r0, r1⟩ := sCacheEntry_rd h
  unfold szCacheEntry at hs
  go_enter Tryz.func191, Tryz.ntmps191
  go_wp2_with fail
  refine (toData_c _ x.data _ (sData.ext (by (repeat (refine Ext.setCell ?_ (by omega) _)); exact (((Ext.refl w).alloc _).alloc _).alloc _) r0) (by omega)).mono ?_
  rintro e w0 ⟨⟨r0', rfl, O0'⟩, hx0⟩
  have hn0 : w.heap.size + 1 + 1 + 1 ≤ w0.heap.size := by have := hx0.size; simpa [World.setCell] using this
  obtain ⟨d0, d1, d2, rfl, y0_0, y0_1, y0_2, y0_3, y0_4⟩ := sData_rd O0'.rd
  obtain ⟨A0_0, k0_0, rfl, _, _⟩ := Shape.sl_form (sData_f0 O0'.rd)
  obtain ⟨A0_1, k0_1, rfl, _, _⟩ := Shape.sl_form (sData_f1 O0'.rd)
  obtain ⟨A0_2, k0_2, rfl, _, _⟩ := Shape.sl_form (sData_f2 O0'.rd)
  have O0 : sData.own (w.heap.size + 1 + 1 + 1) w0.heap.size w0 [.slice A0_0 x.data.name.length k0_0, .slice A0_1 x.data.content.length k0_1, .slice A0_2 x.data.keyName.length k0_2, .int .i64 x.data.freshUntil, .int .i64 x.data.signature] x.data := by simpa [World.setCell] using O0'
  clear O0'
  have bp : Blk w0 (w.heap.size) 285 #[c0, c1, c2, .int .i64 x.data.freshUntil, .int .i64 x.data.signature, .int .i64 x.lastUsed] := Blk.ext hx0 (by (repeat (refine Blk.far ?_ (by omega) _)); exact ((Blk.new w _ _).alloc _).alloc _)
  have br : Blk w0 (w.heap.size + 1) 115 #[.slice none 0 0, .slice none 0 0, .slice none 0 0, .int .i64 0, .int .i64 0, .int .i64 0] := Blk.ext hx0 (by (repeat (refine Blk.far ?_ (by omega) _)); exact (Blk.new_at (by simp)).alloc _)
  have bo : Blk w0 (w.heap.size + 1 + 1) 115 #[.slice none 0 0, .slice none 0 0, .slice none 0 0, .int .i64 0, .int .i64 0, .int .i64 0] := Blk.ext hx0 (Blk.new_at (by simp))
  have E0 : Ext w w0 := Ext.trans (by (repeat (refine Ext.setCell ?_ (by omega) _)); exact (((Ext.refl w).alloc _).alloc _).alloc _) hx0

  clear hx0
  have fp0 : w0.cell? ⟨w.heap.size, 0, none⟩ = some (c0) := bp.cell 0
  have fo0 : w0.cell? ⟨w.heap.size + 1 + 1, 0, none⟩ = some (.slice none 0 0) := bo.cell 0
  have fr0 : w0.cell? ⟨w.heap.size + 1, 0, none⟩ = some (.slice none 0 0) := br.cell 0
  have zo0 : w0.frozen? ⟨w.heap.size + 1 + 1, 0, none⟩ = false := bo.frozen 0
  have zr0 : w0.frozen? ⟨w.heap.size + 1, 0, none⟩ = false := br.frozen 0
  have fp1 : w0.cell? ⟨w.heap.size, 1, none⟩ = some (c1) := bp.cell 1
  have fo1 : w0.cell? ⟨w.heap.size + 1 + 1, 1, none⟩ = some (.slice none 0 0) := bo.cell 1
  have fr1 : w0.cell? ⟨w.heap.size + 1, 1, none⟩ = some (.slice none 0 0) := br.cell 1
  have zo1 : w0.frozen? ⟨w.heap.size + 1 + 1, 1, none⟩ = false := bo.frozen 1
  have zr1 : w0.frozen? ⟨w.heap.size + 1, 1, none⟩ = false := br.frozen 1
  have fp2 : w0.cell? ⟨w.heap.size, 2, none⟩ = some (c2) := bp.cell 2
  have fo2 : w0.cell? ⟨w.heap.size + 1 + 1, 2, none⟩ = some (.slice none 0 0) := bo.cell 2
  have fr2 : w0.cell? ⟨w.heap.size + 1, 2, none⟩ = some (.slice none 0 0) := br.cell 2
  have zo2 : w0.frozen? ⟨w.heap.size + 1 + 1, 2, none⟩ = false := bo.frozen 2
  have zr2 : w0.frozen? ⟨w.heap.size + 1, 2, none⟩ = false := br.frozen 2
  have fp3 : w0.cell? ⟨w.heap.size, 3, none⟩ = some (.int .i64 x.data.freshUntil) := bp.cell 3
  have fo3 : w0.cell? ⟨w.heap.size + 1 + 1, 3, none⟩ = some (.int .i64 0) := bo.cell 3
  have fr3 : w0.cell? ⟨w.heap.size + 1, 3, none⟩ = some (.int .i64 0) := br.cell 3
  have zo3 : w0.frozen? ⟨w.heap.size + 1 + 1, 3, none⟩ = false := bo.frozen 3
  have zr3 : w0.frozen? ⟨w.heap.size + 1, 3, none⟩ = false := br.frozen 3
  have fp4 : w0.cell? ⟨w.heap.size, 4, none⟩ = some (.int .i64 x.data.signature) := bp.cell 4
  have fo4 : w0.cell? ⟨w.heap.size + 1 + 1, 4, none⟩ = some (.int .i64 0) := bo.cell 4
  have fr4 : w0.cell? ⟨w.heap.size + 1, 4, none⟩ = some (.int .i64 0) := br.cell 4
  have zo4 : w0.frozen? ⟨w.heap.size + 1 + 1, 4, none⟩ = false := bo.frozen 4
  have zr4 : w0.frozen? ⟨w.heap.size + 1, 4, none⟩ = false := br.frozen 4
  have fp5 : w0.cell? ⟨w.heap.size, 5, none⟩ = some (.int .i64 x.lastUsed) := bp.cell 5
  have fo5 : w0.cell? ⟨w.heap.size + 1 + 1, 5, none⟩ = some (.int .i64 0) := bo.cell 5
  have fr5 : w0.cell? ⟨w.heap.size + 1, 5, none⟩ = some (.int .i64 0) := br.cell 5
  have zo5 : w0.frozen? ⟨w.heap.size + 1 + 1, 5, none⟩ = false := bo.frozen 5
  have zr5 : w0.frozen? ⟨w.heap.size + 1, 5, none⟩ = false := br.frozen 5
  go_wp2
  refine bodyPost_ret (v := .agg #[.slice A0_0 x.data.name.length k0_0, .slice A0_1 x.data.content.length k0_1, .slice A0_2 x.data.keyName.length k0_2, .int .i64 x.data.freshUntil, .int .i64 x.data.signature, .int .i64 x.lastUsed]) (by simp [results, Tryz.results191, go_sem, fr0, fr1, fr2, fr3, fr4, fr5]) rfl ⟨⟨_, rfl, ?_⟩, ?_⟩
  · have hsz : ∀ (W : World) (p : Addr) (u : Value), (W.setCell p u).heap.size = W.heap.size := fun W p u => by simp [World.setCell]
    simp only [hsz]
    have QF := fun W => fun h : Fr (w.heap.size + 1 + 1 + 1) w0 W => h
    clear QF
    refine Shape.own.via ?_
    refine Shape.own.pair (lo := w.heap.size) (m := w0.heap.size) (m' := w0.heap.size) (cs := [_, _, _, _, _]) ?_ (by omega) ?_ (by omega) (by omega)
    · refine Shape.own.wide (lo := w.heap.size + 1 + 1 + 1) (hi := w0.heap.size) ?_ (by omega) (by omega)
      exact Shape.own.fr (N := w.heap.size + 1 + 1 + 1) O0 (by (repeat (refine Fr.setCell ?_ (by omega) _)); exact Fr.refl _ _) (by omega) (by omega)
    exact Shape.own_int r1
  · (repeat (refine Ext.setCell ?_ (by omega) _)); exact E0

set_option maxHeartbeats 400000 in
theorem toCacheEntryS_c (v : Value) (l : (List DCacheEntry)) (w : World) (h : sCacheEntryL.rd w [v] l) (hs : (szL szCacheEntry) l ≤ 1048576) :
    Calls Tryz.prog 167 #[v] w (Gives sCacheEntryL w l) := by
  obtain ⟨A, c, rfl, hl, hm⟩ := Shape.sl_form h
  unfold maxLen at hm
  have hlen := szL_len szCacheEntry l
  have H := Lib.hid h; clear h
  obtain ⟨i0, hi, hz0, hz1, hz2⟩ := info_parts info_CacheEntry
  go_enter Tryz.func167, Tryz.ntmps167
  go_wp2_with (refine wpList_make_full _ rfl _ _ 105 rfl w.heap.size 115 i0 _ 6 Tryz.underlying105 hi hz0 hz1 .i64 .i64 _ _ l.length rfl rfl rfl rfl (by rw [hz2]; omega) (by unfold maxLen; omega) (Nat.le_refl _) ?_; intro w1 hown hgr)
  have hF : Shape.Fill sCacheEntry 115 w.heap.size l.length w1 [] := Shape.Fill.start (v := .bool true) hown
  have hX : Ext w w1 := (Ext.refl w).grown hgr (by simp)
  clear hown hgr hi hz0 hz1 hz2
  go_loopw [4] (fun i wr => ∃ k : Nat, k ≤ l.length ∧ i = .int .i64 k ∧ Shape.Fill sCacheEntry 115 w.heap.size l.length wr (l.take k) ∧ Ext w wr) (fun i _ => l.length - (intOf i).toNat)
  case atStart => exact ⟨0, Nat.zero_le _, rfl, hF, hX⟩
  case round =>
    clear hF hX w1
    obtain ⟨k, hk, rfl, hF, hx⟩ := hrel
    by_cases hlt : k < l.length
    · have hkl : (l.take k).length = k := by rw [List.length_take]; omega
      have hroom := fun j hj => hF.room (by rw [hkl]; exact hlt) j hj
      rw [hkl] at hroom
      have hsz := szL_at szCacheEntry l k hlt
      obtain ⟨b, off, es, rfl, hc, hr⟩ := Shape.sl_at (sCacheEntryL.ext hx H.out) hlt
      have hr' := hr
      obtain ⟨c0, c1, c2, rfl, r0, r1⟩ := sCacheEntry_rd hr
      have f0 := hc 0 _ rfl
      have f1 := hc 1 _ rfl
      have f2 := hc 2 _ rfl
      have f3 := hc 3 _ rfl
      have f4 := hc 4 _ rfl
      have f5 := hc 5 _ rfl
      simp only [Nat.add_zero, show sCacheEntry.k = 6 from rfl, Nat.mul_one] at f0 f1 f2 f3 f4 f5
      have HK := Lib.hid hkl; clear hkl hc
      go_wp2_with fail
      refine (toCacheEntry_c _ l[k] _ hr' (by omega)).mono ?_
      rintro e w1 ⟨⟨r, rfl, hO⟩, hx1⟩
      obtain ⟨d0, d1, d2, rfl, s0, s1⟩ := sCacheEntry_rd hO.rd
      have hF1 := hF.ext hx1
      have hroom := fun j hj => hF1.room (by rw [HK.out]; exact hlt) j hj
      rw [HK.out] at hroom
      obtain ⟨⟨u0, hu0⟩, hz0⟩ := hroom 0 (by decide)
      obtain ⟨⟨u1, hu1⟩, hz1⟩ := hroom 1 (by decide)
      obtain ⟨⟨u2, hu2⟩, hz2⟩ := hroom 2 (by decide)
      obtain ⟨⟨u3, hu3⟩, hz3⟩ := hroom 3 (by decide)
      obtain ⟨⟨u4, hu4⟩, hz4⟩ := hroom 4 (by decide)
      obtain ⟨⟨u5, hu5⟩, hz5⟩ := hroom 5 (by decide)
      simp only [Nat.add_zero, show sCacheEntry.k = 6 from rfl, Nat.mul_one] at hu0 hz0 hu1 hz1 hu2 hz2 hu3 hz3 hu4 hz4 hu5 hz5
      obtain ⟨A_0, k_0, rfl, _, _⟩ := Shape.sl_form (sData_f0 (sCacheEntry_f0 hO.rd))
      obtain ⟨A_1, k_1, rfl, _, _⟩ := Shape.sl_form (sData_f1 (sCacheEntry_f0 hO.rd))
      obtain ⟨A_2, k_2, rfl, _, _⟩ := Shape.sl_form (sData_f2 (sCacheEntry_f0 hO.rd))
      clear hroom
      have hg : w.heap.size < w1.heap.size := hF1.lt
      go_wp2
      have hkl := HK.out
      have hst := hF.step hx1 hO (by rw [hkl]; exact hlt)
      rw [hkl, ← List.take_succ_eq_append_getElem hlt] at hst
      go_roundw
      case rel => exact ⟨k + 1, by omega, by go_num, by simpa [Shape.putRow, show sCacheEntry.k = 6 from rfl] using hst, (by (repeat (refine Ext.setCell ?_ (Nat.le_refl _) _)); exact hx.trans hx1)⟩
      case measure => simp [intOf]; omega
    · have : k = l.length := by omega
      subst this
      rw [List.take_length] at hF
      go_wp2
      go_ret
      exact ⟨⟨_, rfl, hF.done rfl (by unfold maxLen; omega)⟩, hx⟩

set_option maxHeartbeats 400000 in
theorem toContentStore_c (cs : List Value) (x : DContentStore) (w : World) (h : sContentStore.rd w cs x) (hs : szContentStore x ≤ 1048576) :
    Calls Tryz.prog 132 #[.agg cs.toArray] w (GivesA sContentStore w x) := by
  obtain ⟨c1, rfl, r0, r1⟩ := sContentStore_rd h
  unfold szContentStore at hs
  go_enter Tryz.func132, Tryz.ntmps132
  go_wp2_with fail
  refine (toCacheEntryS_c _ x.entries _ (sCacheEntryL.ext (by (repeat (refine Ext.setCell ?_ (by omega) _)); exact (((Ext.refl w).alloc _).alloc _).alloc _) r1) (by omega)).mono ?_
  rintro e w0 ⟨⟨r1', rfl, O0'⟩, hx0⟩
  have hn0 : w.heap.size + 1 + 1 + 1 ≤ w0.heap.size := by have := hx0.size; simpa [World.setCell] using this
  obtain ⟨A0, k0, rfl, _, _⟩ := Shape.sl_form O0'.rd
  have O0 : sCacheEntryL.own (w.heap.size + 1 + 1 + 1) w0.heap.size w0 [.slice A0 x.entries.length k0] x.entries := by simpa [World.setCell] using O0'
  clear O0'
  have bp : Blk w0 (w.heap.size) 137 #[.int .i64 x.capacity, c1] := Blk.ext hx0 (by (repeat (refine Blk.far ?_ (by omega) _)); exact ((Blk.new w _ _).alloc _).alloc _)
  have br : Blk w0 (w.heap.size + 1) 107 #[.int .i64 0, .slice none 0 0] := Blk.ext hx0 (by (repeat (refine Blk.far ?_ (by omega) _)); exact (Blk.new_at (by simp)).alloc _)
  have bo : Blk w0 (w.heap.size + 1 + 1) 107 #[.int .i64 x.capacity, .slice none 0 0] := Blk.ext hx0 (Blk.new_at (by simp))
  have E0 : Ext w w0 := Ext.trans (by (repeat (refine Ext.setCell ?_ (by omega) _)); exact (((Ext.refl w).alloc _).alloc _).alloc _) hx0

  clear hx0
  have fp0 : w0.cell? ⟨w.heap.size, 0, none⟩ = some (.int .i64 x.capacity) := bp.cell 0
  have fo0 : w0.cell? ⟨w.heap.size + 1 + 1, 0, none⟩ = some (.int .i64 x.capacity) := bo.cell 0
  have fr0 : w0.cell? ⟨w.heap.size + 1, 0, none⟩ = some (.int .i64 0) := br.cell 0
  have zo0 : w0.frozen? ⟨w.heap.size + 1 + 1, 0, none⟩ = false := bo.frozen 0
  have zr0 : w0.frozen? ⟨w.heap.size + 1, 0, none⟩ = false := br.frozen 0
  have fp1 : w0.cell? ⟨w.heap.size, 1, none⟩ = some (c1) := bp.cell 1
  have fo1 : w0.cell? ⟨w.heap.size + 1 + 1, 1, none⟩ = some (.slice none 0 0) := bo.cell 1
  have fr1 : w0.cell? ⟨w.heap.size + 1, 1, none⟩ = some (.slice none 0 0) := br.cell 1
  have zo1 : w0.frozen? ⟨w.heap.size + 1 + 1, 1, none⟩ = false := bo.frozen 1
  have zr1 : w0.frozen? ⟨w.heap.size + 1, 1, none⟩ = false := br.frozen 1
  go_wp2
  refine bodyPost_ret (v := .agg #[.int .i64 x.capacity, .slice A0 x.entries.length k0]) (by simp [results, Tryz.results132, go_sem, fr0, fr1]) rfl ⟨⟨_, rfl, ?_⟩, ?_⟩
  · have hsz : ∀ (W : World) (p : Addr) (u : Value), (W.setCell p u).heap.size = W.heap.size := fun W p u => by simp [World.setCell]
    simp only [hsz]
    have QF := fun W => fun h : Fr (w.heap.size + 1 + 1 + 1) w0 W => h
    clear QF
    refine Shape.own.via ?_
    refine Shape.own.pair (lo := w.heap.size) (m := w.heap.size) (m' := w.heap.size) (cs := [_]) ?_ (by omega) ?_ (by omega) (by omega)
    · exact Shape.own_int r0
    refine Shape.own.wide (lo := w.heap.size + 1 + 1 + 1) (hi := w0.heap.size) ?_ (by omega) (by omega)
    exact Shape.own.fr (N := w.heap.size + 1 + 1 + 1) O0 (by (repeat (refine Fr.setCell ?_ (by omega) _)); exact Fr.refl _ _) (by omega) (by omega)
  · (repeat (refine Ext.setCell ?_ (by omega) _)); exact E0

set_option maxHeartbeats 400000 in
theorem toRequester_c (cs : List Value) (x : DRequester) (w : World) (h : sRequester.rd w cs x) :
    Calls Tryz.prog 208 #[.agg cs.toArray] w (GivesA sRequester w x) := by
  obtain ⟨rfl, r0, r1, r2⟩ := sRequester_rd h
  go_enter Tryz.func208, Tryz.ntmps208
  go_wp2
  refine bodyPost_ret (v := .agg #[.int .i64 x.face, .int .i64 x.nonce, .int .i64 x.expiry]) (by simp [results, Tryz.results208, go_sem]) rfl ⟨⟨_, rfl, ?_⟩, ?_⟩
  · skip
    refine Shape.own.via ?_
    refine Shape.own.pair (lo := w.heap.size) (m := w.heap.size) (m' := w.heap.size) (cs := [_]) ?_ (by omega) ?_ (by omega) (by simp; try omega)
    · exact Shape.own_int r0
    refine Shape.own.pair (lo := w.heap.size) (m := w.heap.size) (m' := w.heap.size) (cs := [_]) ?_ (by omega) ?_ (by omega) (by simp; try omega)
    · exact Shape.own_int r1
    exact Shape.own_int r2
  · (repeat (refine Ext.setCell ?_ (by omega) _)); exact (((Ext.refl w).alloc _).alloc _).alloc _

set_option maxHeartbeats 400000 in
theorem toRequesterS_c (v : Value) (l : (List DRequester)) (w : World) (h : sRequesterL.rd w [v] l) (hs : (szL (fun _ => 0)) l ≤ 1048576) :
    Calls Tryz.prog 192 #[v] w (Gives sRequesterL w l) := by
  obtain ⟨A, c, rfl, hl, hm⟩ := Shape.sl_form h
  unfold maxLen at hm
  have hlen := szL_len (fun _ => 0) l
  have H := Lib.hid h; clear h
  obtain ⟨i0, hi, hz0, hz1, hz2⟩ := info_parts info_Requester
  go_enter Tryz.func192, Tryz.ntmps192
  go_wp2_with (refine wpList_make_full _ rfl _ _ 237 rfl w.heap.size 282 i0 _ 3 Tryz.underlying237 hi hz0 hz1 .i64 .i64 _ _ l.length rfl rfl rfl rfl (by rw [hz2]; omega) (by unfold maxLen; omega) (Nat.le_refl _) ?_; intro w1 hown hgr)
  have hF : Shape.Fill sRequester 282 w.heap.size l.length w1 [] := Shape.Fill.start (v := .bool true) hown
  have hX : Ext w w1 := (Ext.refl w).grown hgr (by simp)
  clear hown hgr hi hz0 hz1 hz2
  go_loopw [4] (fun i wr => ∃ k : Nat, k ≤ l.length ∧ i = .int .i64 k ∧ Shape.Fill sRequester 282 w.heap.size l.length wr (l.take k) ∧ Ext w wr) (fun i _ => l.length - (intOf i).toNat)
  case atStart => exact ⟨0, Nat.zero_le _, rfl, hF, hX⟩
  case round =>
    clear hF hX w1
    obtain ⟨k, hk, rfl, hF, hx⟩ := hrel
    by_cases hlt : k < l.length
    · have hkl : (l.take k).length = k := by rw [List.length_take]; omega
      have hroom := fun j hj => hF.room (by rw [hkl]; exact hlt) j hj
      rw [hkl] at hroom
      have hsz := szL_at (fun _ => 0) l k hlt
      obtain ⟨b, off, es, rfl, hc, hr⟩ := Shape.sl_at (sRequesterL.ext hx H.out) hlt
      have hr' := hr
      obtain ⟨rfl, r0, r1, r2⟩ := sRequester_rd hr
      have f0 := hc 0 _ rfl
      have f1 := hc 1 _ rfl
      have f2 := hc 2 _ rfl
      simp only [Nat.add_zero, show sRequester.k = 3 from rfl, Nat.mul_one] at f0 f1 f2
      have HK := Lib.hid hkl; clear hkl hc
      go_wp2_with fail
      refine (toRequester_c _ l[k] _ hr').mono ?_
      rintro e w1 ⟨⟨r, rfl, hO⟩, hx1⟩
      obtain ⟨rfl, s0, s1, s2⟩ := sRequester_rd hO.rd
      have hF1 := hF.ext hx1
      have hroom := fun j hj => hF1.room (by rw [HK.out]; exact hlt) j hj
      rw [HK.out] at hroom
      obtain ⟨⟨u0, hu0⟩, hz0⟩ := hroom 0 (by decide)
      obtain ⟨⟨u1, hu1⟩, hz1⟩ := hroom 1 (by decide)
      obtain ⟨⟨u2, hu2⟩, hz2⟩ := hroom 2 (by decide)
      simp only [Nat.add_zero, show sRequester.k = 3 from rfl, Nat.mul_one] at hu0 hz0 hu1 hz1 hu2 hz2
      skip
      clear hroom
      have hg : w.heap.size < w1.heap.size := hF1.lt
      go_wp2
      have hkl := HK.out
      have hst := hF.step hx1 hO (by rw [hkl]; exact hlt)
      rw [hkl, ← List.take_succ_eq_append_getElem hlt] at hst
      go_roundw
      case rel => exact ⟨k + 1, by omega, by go_num, by simpa [Shape.putRow, show sRequester.k = 3 from rfl] using hst, (by (repeat (refine Ext.setCell ?_ (Nat.le_refl _) _)); exact hx.trans hx1)⟩
      case measure => simp [intOf]; omega
    · have : k = l.length := by omega
      subst this
      rw [List.take_length] at hF
      go_wp2
      go_ret
      exact ⟨⟨_, rfl, hF.done rfl (by unfold maxLen; omega)⟩, hx⟩

set_option maxHeartbeats 400000 in
theorem toPendingInterest_c (cs : List Value) (x : DPendingInterest) (w : World) (h : sPendingInterest.rd w cs x) (hs : szPendingInterest x ≤ 1048576) :
    Calls Tryz.prog 168 #[.agg cs.toArray] w (GivesA sPendingInterest w x) := by
  obtain ⟨c0, c1, rfl, r0, r1, r2⟩ := sPendingInterest_rd h
  unfold szPendingInterest at hs
  go_enter Tryz.func168, Tryz.ntmps168
  go_wp2_with fail
  refine (toName_c _ x.name _ (strs.ext (by (repeat (refine Ext.setCell ?_ (by omega) _)); exact (((Ext.refl w).alloc _).alloc _).alloc _) r0) (by omega)).mono ?_
  rintro e w0 ⟨⟨r0', rfl, O0'⟩, hx0⟩
  have hn0 : w.heap.size + 1 + 1 + 1 ≤ w0.heap.size := by have := hx0.size; simpa [World.setCell] using this
  obtain ⟨d0, rfl⟩ := one_cell (strs.len O0'.rd)
  obtain ⟨A0, k0, rfl, _, _⟩ := Shape.sl_form O0'.rd
  have O0 : strs.own (w.heap.size + 1 + 1 + 1) w0.heap.size w0 [.slice A0 x.name.length k0] x.name := by simpa [World.setCell] using O0'
  clear O0'
  have bp : Blk w0 (w.heap.size) 252 #[c0, c1, .int .i64 x.lastSent] := Blk.ext hx0 (by (repeat (refine Blk.far ?_ (by omega) _)); exact ((Blk.new w _ _).alloc _).alloc _)
  have br : Blk w0 (w.heap.size + 1) 239 #[.slice none 0 0, .slice none 0 0, .int .i64 0] := Blk.ext hx0 (by (repeat (refine Blk.far ?_ (by omega) _)); exact (Blk.new_at (by simp)).alloc _)
  have bo : Blk w0 (w.heap.size + 1 + 1) 239 #[.slice none 0 0, .slice none 0 0, .int .i64 0] := Blk.ext hx0 (Blk.new_at (by simp))
  have E0 : Ext w w0 := Ext.trans (by (repeat (refine Ext.setCell ?_ (by omega) _)); exact (((Ext.refl w).alloc _).alloc _).alloc _) hx0

  clear hx0
  have fp0 : w0.cell? ⟨w.heap.size, 0, none⟩ = some (c0) := bp.cell 0
  have fo0 : w0.cell? ⟨w.heap.size + 1 + 1, 0, none⟩ = some (.slice none 0 0) := bo.cell 0
  have fr0 : w0.cell? ⟨w.heap.size + 1, 0, none⟩ = some (.slice none 0 0) := br.cell 0
  have zo0 : w0.frozen? ⟨w.heap.size + 1 + 1, 0, none⟩ = false := bo.frozen 0
  have zr0 : w0.frozen? ⟨w.heap.size + 1, 0, none⟩ = false := br.frozen 0
  have fp1 : w0.cell? ⟨w.heap.size, 1, none⟩ = some (c1) := bp.cell 1
  have fo1 : w0.cell? ⟨w.heap.size + 1 + 1, 1, none⟩ = some (.slice none 0 0) := bo.cell 1
  have fr1 : w0.cell? ⟨w.heap.size + 1, 1, none⟩ = some (.slice none 0 0) := br.cell 1
  have zo1 : w0.frozen? ⟨w.heap.size + 1 + 1, 1, none⟩ = false := bo.frozen 1
  have zr1 : w0.frozen? ⟨w.heap.size + 1, 1, none⟩ = false := br.frozen 1
  have fp2 : w0.cell? ⟨w.heap.size, 2, none⟩ = some (.int .i64 x.lastSent) := bp.cell 2
  have fo2 : w0.cell? ⟨w.heap.size + 1 + 1, 2, none⟩ = some (.int .i64 0) := bo.cell 2
  have fr2 : w0.cell? ⟨w.heap.size + 1, 2, none⟩ = some (.int .i64 0) := br.cell 2
  have zo2 : w0.frozen? ⟨w.heap.size + 1 + 1, 2, none⟩ = false := bo.frozen 2
  have zr2 : w0.frozen? ⟨w.heap.size + 1, 2, none⟩ = false := br.frozen 2
  go_wp2_with fail
  refine (toRequesterS_c _ x.requesters _ (sRequesterL.ext (by (repeat (refine Ext.setCell ?_ (by omega) _)); exact E0) r1) (by omega)).mono ?_
  rintro e w1 ⟨⟨r1', rfl, O1'⟩, hx1⟩
  have hn1 : w0.heap.size ≤ w1.heap.size := by have := hx1.size; simpa [World.setCell] using this
  obtain ⟨A1, k1, rfl, _, _⟩ := Shape.sl_form O1'.rd
  have O1 : sRequesterL.own (w0.heap.size) w1.heap.size w1 [.slice A1 x.requesters.length k1] x.requesters := by simpa [World.setCell] using O1'
  clear O1'
  replace bp : Blk w1 (w.heap.size) 252 #[c0, c1, .int .i64 x.lastSent] := Blk.ext hx1 (by (repeat (refine Blk.far ?_ (by omega) _)); exact bp)
  replace br : Blk w1 (w.heap.size + 1) 239 #[.slice none 0 0, .slice none 0 0, .int .i64 0] := Blk.ext hx1 (by (repeat (refine Blk.far ?_ (by omega) _)); exact br)
  replace bo : Blk w1 (w.heap.size + 1 + 1) 239 #[.slice A0 x.name.length k0, .slice none 0 0, .int .i64 0] := Blk.ext hx1 (by simpa using (Blk.set_ (bo) 0 _))
  have E1 : Ext w w1 := Ext.trans (by (repeat (refine Ext.setCell ?_ (by omega) _)); exact E0) hx1
  have Q1 : Fr (w.heap.size + 1 + 1 + 1) w0 w1 := Fr.trans (by (repeat (refine Fr.setCell ?_ (by omega) _)); exact Fr.refl _ _) (Fr.ext hx1)
  clear hx1
  clear fp0 fo0 fr0 zo0 zr0 fp1 fo1 fr1 zo1 zr1 fp2 fo2 fr2 zo2 zr2
  have fp0 : w1.cell? ⟨w.heap.size, 0, none⟩ = some (c0) := bp.cell 0
  have fo0 : w1.cell? ⟨w.heap.size + 1 + 1, 0, none⟩ = some (.slice A0 x.name.length k0) := bo.cell 0
  have fr0 : w1.cell? ⟨w.heap.size + 1, 0, none⟩ = some (.slice none 0 0) := br.cell 0
  have zo0 : w1.frozen? ⟨w.heap.size + 1 + 1, 0, none⟩ = false := bo.frozen 0
  have zr0 : w1.frozen? ⟨w.heap.size + 1, 0, none⟩ = false := br.frozen 0
  have fp1 : w1.cell? ⟨w.heap.size, 1, none⟩ = some (c1) := bp.cell 1
  have fo1 : w1.cell? ⟨w.heap.size + 1 + 1, 1, none⟩ = some (.slice none 0 0) := bo.cell 1
  have fr1 : w1.cell? ⟨w.heap.size + 1, 1, none⟩ = some (.slice none 0 0) := br.cell 1
  have zo1 : w1.frozen? ⟨w.heap.size + 1 + 1, 1, none⟩ = false := bo.frozen 1
  have zr1 : w1.frozen? ⟨w.heap.size + 1, 1, none⟩ = false := br.frozen 1
  have fp2 : w1.cell? ⟨w.heap.size, 2, none⟩ = some (.int .i64 x.lastSent) := bp.cell 2
  have fo2 : w1.cell? ⟨w.heap.size + 1 + 1, 2, none⟩ = some (.int .i64 0) := bo.cell 2
  have fr2 : w1.cell? ⟨w.heap.size + 1, 2, none⟩ = some (.int .i64 0) := br.cell 2
  have zo2 : w1.frozen? ⟨w.heap.size + 1 + 1, 2, none⟩ = false := bo.frozen 2
  have zr2 : w1.frozen? ⟨w.heap.size + 1, 2, none⟩ = false := br.frozen 2
  go_wp2
  refine bodyPost_ret (v := .agg #[.slice A0 x.name.length k0, .slice A1 x.requesters.length k1, .int .i64 x.lastSent]) (by simp [results, Tryz.results168, go_sem, fr0, fr1, fr2]) rfl ⟨⟨_, rfl, ?_⟩, ?_⟩
  · have hsz : ∀ (W : World) (p : Addr) (u : Value), (W.setCell p u).heap.size = W.heap.size := fun W p u => by simp [World.setCell]
    simp only [hsz]
    have QF := fun W => fun h : Fr (w.heap.size + 1 + 1 + 1) w1 W => h
    clear QF
    refine Shape.own.via ?_
    refine Shape.own.pair (lo := w.heap.size) (m := w0.heap.size) (m' := w0.heap.size) (cs := [_]) ?_ (by omega) ?_ (by omega) (by omega)
    · refine Shape.own.wide (lo := w.heap.size + 1 + 1 + 1) (hi := w0.heap.size) ?_ (by omega) (by omega)
      exact Shape.own.fr (N := w.heap.size + 1 + 1 + 1) (O0.fr Q1 (by omega) (by omega)) (by (repeat (refine Fr.setCell ?_ (by omega) _)); exact Fr.refl _ _) (by omega) (by omega)
    refine Shape.own.pair (lo := w0.heap.size) (m := w1.heap.size) (m' := w1.heap.size) (cs := [_]) ?_ (by omega) ?_ (by omega) (by omega)
    · refine Shape.own.wide (lo := w0.heap.size) (hi := w1.heap.size) ?_ (by omega) (by omega)
      exact Shape.own.fr (N := w.heap.size + 1 + 1 + 1) O1 (by (repeat (refine Fr.setCell ?_ (by omega) _)); exact Fr.refl _ _) (by omega) (by omega)
    exact Shape.own_int r2
  · (repeat (refine Ext.setCell ?_ (by omega) _)); exact E1

set_option maxHeartbeats 400000 in
theorem toPendingInterestS_c (v : Value) (l : (List DPendingInterest)) (w : World) (h : sPendingInterestL.rd w [v] l) (hs : (szL szPendingInterest) l ≤ 1048576) :
    Calls Tryz.prog 133 #[v] w (Gives sPendingInterestL w l) := by
  obtain ⟨A, c, rfl, hl, hm⟩ := Shape.sl_form h
  unfold maxLen at hm
  have hlen := szL_len szPendingInterest l
  have H := Lib.hid h; clear h
  obtain ⟨i0, hi, hz0, hz1, hz2⟩ := info_parts info_PendingInterest
  go_enter Tryz.func133, Tryz.ntmps133
  go_wp2_with (refine wpList_make_full _ rfl _ _ 108 rfl w.heap.size 239 i0 _ 3 Tryz.underlying108 hi hz0 hz1 .i64 .i64 _ _ l.length rfl rfl rfl rfl (by rw [hz2]; omega) (by unfold maxLen; omega) (Nat.le_refl _) ?_; intro w1 hown hgr)
  have hF : Shape.Fill sPendingInterest 239 w.heap.size l.length w1 [] := Shape.Fill.start (v := .bool true) hown
  have hX : Ext w w1 := (Ext.refl w).grown hgr (by simp)
  clear hown hgr hi hz0 hz1 hz2
  go_loopw [4] (fun i wr => ∃ k : Nat, k ≤ l.length ∧ i = .int .i64 k ∧ Shape.Fill sPendingInterest 239 w.heap.size l.length wr (l.take k) ∧ Ext w wr) (fun i _ => l.length - (intOf i).toNat)
  case atStart => exact ⟨0, Nat.zero_le _, rfl, hF, hX⟩
  case round =>
    clear hF hX w1
    obtain ⟨k, hk, rfl, hF, hx⟩ := hrel
    by_cases hlt : k < l.length
    · have hkl : (l.take k).length = k := by rw [List.length_take]; omega
      have hroom := fun j hj => hF.room (by rw [hkl]; exact hlt) j hj
      rw [hkl] at hroom
      have hsz := szL_at szPendingInterest l k hlt
      obtain ⟨b, off, es, rfl, hc, hr⟩ := Shape.sl_at (sPendingInterestL.ext hx H.out) hlt
      have hr' := hr
      obtain ⟨c0, c1, rfl, r0, r1, r2⟩ := sPendingInterest_rd hr
      have f0 := hc 0 _ rfl
      have f1 := hc 1 _ rfl
      have f2 := hc 2 _ rfl
      simp only [Nat.add_zero, show sPendingInterest.k = 3 from rfl, Nat.mul_one] at f0 f1 f2
      have HK := Lib.hid hkl; clear hkl hc
      go_wp2_with fail
      refine (toPendingInterest_c _ l[k] _ hr' (by omega)).mono ?_
      rintro e w1 ⟨⟨r, rfl, hO⟩, hx1⟩
      obtain ⟨d0, d1, rfl, s0, s1, s2⟩ := sPendingInterest_rd hO.rd
      have hF1 := hF.ext hx1
      have hroom := fun j hj => hF1.room (by rw [HK.out]; exact hlt) j hj
      rw [HK.out] at hroom
      obtain ⟨⟨u0, hu0⟩, hz0⟩ := hroom 0 (by decide)
      obtain ⟨⟨u1, hu1⟩, hz1⟩ := hroom 1 (by decide)
      obtain ⟨⟨u2, hu2⟩, hz2⟩ := hroom 2 (by decide)
      simp only [Nat.add_zero, show sPendingInterest.k = 3 from rfl, Nat.mul_one] at hu0 hz0 hu1 hz1 hu2 hz2
      obtain ⟨A_0, k_0, rfl, _, _⟩ := Shape.sl_form (sPendingInterest_f0 hO.rd)
      obtain ⟨A_1, k_1, rfl, _, _⟩ := Shape.sl_form (sPendingInterest_f1 hO.rd)
      clear hroom
      have hg : w.heap.size < w1.heap.size := hF1.lt
      go_wp2
      have hkl := HK.out
      have hst := hF.step hx1 hO (by rw [hkl]; exact hlt)
      rw [hkl, ← List.take_succ_eq_append_getElem hlt] at hst
      go_roundw
      case rel => exact ⟨k + 1, by omega, by go_num, by simpa [Shape.putRow, show sPendingInterest.k = 3 from rfl] using hst, (by (repeat (refine Ext.setCell ?_ (Nat.le_refl _) _)); exact hx.trans hx1)⟩
      case measure => simp [intOf]; omega
    · have : k = l.length := by omega
      subst this
      rw [List.take_length] at hF
      go_wp2
      go_ret
      exact ⟨⟨_, rfl, hF.done rfl (by unfold maxLen; omega)⟩, hx⟩

set_option maxHeartbeats 400000 in
theorem toSeenNonce_c (cs : List Value) (x : DSeenNonce) (w : World) (h : sSeenNonce.rd w cs x) (hs : szSeenNonce x ≤ 1048576) :
    Calls Tryz.prog 169 #[.agg cs.toArray] w (GivesA sSeenNonce w x) := by
  obtain ⟨c0, rfl, r0, r1⟩ := sSeenNonce_rd h
  unfold szSeenNonce at hs
  go_enter Tryz.func169, Tryz.ntmps169
  go_wp2_with fail
  refine (toName_c _ x.name _ (strs.ext (by (repeat (refine Ext.setCell ?_ (by omega) _)); exact (((Ext.refl w).alloc _).alloc _).alloc _) r0) (by omega)).mono ?_
  rintro e w0 ⟨⟨r0', rfl, O0'⟩, hx0⟩
  have hn0 : w.heap.size + 1 + 1 + 1 ≤ w0.heap.size := by have := hx0.size; simpa [World.setCell] using this
  obtain ⟨d0, rfl⟩ := one_cell (strs.len O0'.rd)
  obtain ⟨A0, k0, rfl, _, _⟩ := Shape.sl_form O0'.rd
  have O0 : strs.own (w.heap.size + 1 + 1 + 1) w0.heap.size w0 [.slice A0 x.name.length k0] x.name := by simpa [World.setCell] using O0'
  clear O0'
  have bp : Blk w0 (w.heap.size) 255 #[c0, .int .i64 x.nonce] := Blk.ext hx0 (by (repeat (refine Blk.far ?_ (by omega) _)); exact ((Blk.new w _ _).alloc _).alloc _)
  have br : Blk w0 (w.heap.size + 1) 242 #[.slice none 0 0, .int .i64 0] := Blk.ext hx0 (by (repeat (refine Blk.far ?_ (by omega) _)); exact (Blk.new_at (by simp)).alloc _)
  have bo : Blk w0 (w.heap.size + 1 + 1) 242 #[.slice none 0 0, .int .i64 0] := Blk.ext hx0 (Blk.new_at (by simp))
  have E0 : Ext w w0 := Ext.trans (by (repeat (refine Ext.setCell ?_ (by omega) _)); exact (((Ext.refl w).alloc _).alloc _).alloc _) hx0

  clear hx0
  have fp0 : w0.cell? ⟨w.heap.size, 0, none⟩ = some (c0) := bp.cell 0
  have fo0 : w0.cell? ⟨w.heap.size + 1 + 1, 0, none⟩ = some (.slice none 0 0) := bo.cell 0
  have fr0 : w0.cell? ⟨w.heap.size + 1, 0, none⟩ = some (.slice none 0 0) := br.cell 0
  have zo0 : w0.frozen? ⟨w.heap.size + 1 + 1, 0, none⟩ = false := bo.frozen 0
  have zr0 : w0.frozen? ⟨w.heap.size + 1, 0, none⟩ = false := br.frozen 0
  have fp1 : w0.cell? ⟨w.heap.size, 1, none⟩ = some (.int .i64 x.nonce) := bp.cell 1
  have fo1 : w0.cell? ⟨w.heap.size + 1 + 1, 1, none⟩ = some (.int .i64 0) := bo.cell 1
  have fr1 : w0.cell? ⟨w.heap.size + 1, 1, none⟩ = some (.int .i64 0) := br.cell 1
  have zo1 : w0.frozen? ⟨w.heap.size + 1 + 1, 1, none⟩ = false := bo.frozen 1
  have zr1 : w0.frozen? ⟨w.heap.size + 1, 1, none⟩ = false := br.frozen 1
  go_wp2
  refine bodyPost_ret (v := .agg #[.slice A0 x.name.length k0, .int .i64 x.nonce]) (by simp [results, Tryz.results169, go_sem, fr0, fr1]) rfl ⟨⟨_, rfl, ?_⟩, ?_⟩
  · have hsz : ∀ (W : World) (p : Addr) (u : Value), (W.setCell p u).heap.size = W.heap.size := fun W p u => by simp [World.setCell]
    simp only [hsz]
    have QF := fun W => fun h : Fr (w.heap.size + 1 + 1 + 1) w0 W => h
    clear QF
    refine Shape.own.via ?_
    refine Shape.own.pair (lo := w.heap.size) (m := w0.heap.size) (m' := w0.heap.size) (cs := [_]) ?_ (by omega) ?_ (by omega) (by omega)
    · refine Shape.own.wide (lo := w.heap.size + 1 + 1 + 1) (hi := w0.heap.size) ?_ (by omega) (by omega)
      exact Shape.own.fr (N := w.heap.size + 1 + 1 + 1) O0 (by (repeat (refine Fr.setCell ?_ (by omega) _)); exact Fr.refl _ _) (by omega) (by omega)
    exact Shape.own_int r1
  · (repeat (refine Ext.setCell ?_ (by omega) _)); exact E0

set_option maxHeartbeats 400000 in
theorem toSeenNonceS_c (v : Value) (l : (List DSeenNonce)) (w : World) (h : sSeenNonceL.rd w [v] l) (hs : (szL szSeenNonce) l ≤ 1048576) :
    Calls Tryz.prog 134 #[v] w (Gives sSeenNonceL w l) := by
  obtain ⟨A, c, rfl, hl, hm⟩ := Shape.sl_form h
  unfold maxLen at hm
  have hlen := szL_len szSeenNonce l
  have H := Lib.hid h; clear h
  obtain ⟨i0, hi, hz0, hz1, hz2⟩ := info_parts info_SeenNonce
  go_enter Tryz.func134, Tryz.ntmps134
  go_wp2_with (refine wpList_make_full _ rfl _ _ 109 rfl w.heap.size 242 i0 _ 2 Tryz.underlying109 hi hz0 hz1 .i64 .i64 _ _ l.length rfl rfl rfl rfl (by rw [hz2]; omega) (by unfold maxLen; omega) (Nat.le_refl _) ?_; intro w1 hown hgr)
  have hF : Shape.Fill sSeenNonce 242 w.heap.size l.length w1 [] := Shape.Fill.start (v := .bool true) hown
  have hX : Ext w w1 := (Ext.refl w).grown hgr (by simp)
  clear hown hgr hi hz0 hz1 hz2
  go_loopw [4] (fun i wr => ∃ k : Nat, k ≤ l.length ∧ i = .int .i64 k ∧ Shape.Fill sSeenNonce 242 w.heap.size l.length wr (l.take k) ∧ Ext w wr) (fun i _ => l.length - (intOf i).toNat)
  case atStart => exact ⟨0, Nat.zero_le _, rfl, hF, hX⟩
  case round =>
    clear hF hX w1
    obtain ⟨k, hk, rfl, hF, hx⟩ := hrel
    by_cases hlt : k < l.length
    · have hkl : (l.take k).length = k := by rw [List.length_take]; omega
      have hroom := fun j hj => hF.room (by rw [hkl]; exact hlt) j hj
      rw [hkl] at hroom
      have hsz := szL_at szSeenNonce l k hlt
      obtain ⟨b, off, es, rfl, hc, hr⟩ := Shape.sl_at (sSeenNonceL.ext hx H.out) hlt
      have hr' := hr
      obtain ⟨c0, rfl, r0, r1⟩ := sSeenNonce_rd hr
      have f0 := hc 0 _ rfl
      have f1 := hc 1 _ rfl
      simp only [Nat.add_zero, show sSeenNonce.k = 2 from rfl, Nat.mul_one] at f0 f1
      have HK := Lib.hid hkl; clear hkl hc
      go_wp2_with fail
      refine (toSeenNonce_c _ l[k] _ hr' (by omega)).mono ?_
      rintro e w1 ⟨⟨r, rfl, hO⟩, hx1⟩
      obtain ⟨d0, rfl, s0, s1⟩ := sSeenNonce_rd hO.rd
      have hF1 := hF.ext hx1
      have hroom := fun j hj => hF1.room (by rw [HK.out]; exact hlt) j hj
      rw [HK.out] at hroom
      obtain ⟨⟨u0, hu0⟩, hz0⟩ := hroom 0 (by decide)
      obtain ⟨⟨u1, hu1⟩, hz1⟩ := hroom 1 (by decide)
      simp only [Nat.add_zero, show sSeenNonce.k = 2 from rfl, Nat.mul_one] at hu0 hz0 hu1 hz1
      obtain ⟨A_0, k_0, rfl, _, _⟩ := Shape.sl_form (sSeenNonce_f0 hO.rd)
      clear hroom
      have hg : w.heap.size < w1.heap.size := hF1.lt
      go_wp2
      have hkl := HK.out
      have hst := hF.step hx1 hO (by rw [hkl]; exact hlt)
      rw [hkl, ← List.take_succ_eq_append_getElem hlt] at hst
      go_roundw
      case rel => exact ⟨k + 1, by omega, by go_num, by simpa [Shape.putRow, show sSeenNonce.k = 2 from rfl] using hst, (by (repeat (refine Ext.setCell ?_ (Nat.le_refl _) _)); exact hx.trans hx1)⟩
      case measure => simp [intOf]; omega
    · have : k = l.length := by omega
      subst this
      rw [List.take_length] at hF
      go_wp2
      go_ret
      exact ⟨⟨_, rfl, hF.done rfl (by unfold maxLen; omega)⟩, hx⟩

set_option maxHeartbeats 400000 in
theorem toRoute_c (cs : List Value) (x : DRoute) (w : World) (h : sRoute.rd w cs x) (hs : szRoute x ≤ 1048576) :
    Calls Tryz.prog 170 #[.agg cs.toArray] w (GivesA sRoute w x) := by
  obtain ⟨c0, rfl, r0, r1, r2⟩ := sRoute_rd h
  unfold szRoute at hs
  go_enter Tryz.func170, Tryz.ntmps170
  go_wp2_with fail
  refine (toName_c _ x.pfx _ (strs.ext (by (repeat (refine Ext.setCell ?_ (by omega) _)); exact (((Ext.refl w).alloc _).alloc _).alloc _) r0) (by omega)).mono ?_
  rintro e w0 ⟨⟨r0', rfl, O0'⟩, hx0⟩
  have hn0 : w.heap.size + 1 + 1 + 1 ≤ w0.heap.size := by have := hx0.size; simpa [World.setCell] using this
  obtain ⟨d0, rfl⟩ := one_cell (strs.len O0'.rd)
  obtain ⟨A0, k0, rfl, _, _⟩ := Shape.sl_form O0'.rd
  have O0 : strs.own (w.heap.size + 1 + 1 + 1) w0.heap.size w0 [.slice A0 x.pfx.length k0] x.pfx := by simpa [World.setCell] using O0'
  clear O0'
  have bp : Blk w0 (w.heap.size) 258 #[c0, .int .i64 x.face, .int .i64 x.cost] := Blk.ext hx0 (by (repeat (refine Blk.far ?_ (by omega) _)); exact ((Blk.new w _ _).alloc _).alloc _)
  have br : Blk w0 (w.heap.size + 1) 244 #[.slice none 0 0, .int .i64 0, .int .i64 0] := Blk.ext hx0 (by (repeat (refine Blk.far ?_ (by omega) _)); exact (Blk.new_at (by simp)).alloc _)
  have bo : Blk w0 (w.heap.size + 1 + 1) 244 #[.slice none 0 0, .int .i64 0, .int .i64 0] := Blk.ext hx0 (Blk.new_at (by simp))
  have E0 : Ext w w0 := Ext.trans (by (repeat (refine Ext.setCell ?_ (by omega) _)); exact (((Ext.refl w).alloc _).alloc _).alloc _) hx0

  clear hx0
  have fp0 : w0.cell? ⟨w.heap.size, 0, none⟩ = some (c0) := bp.cell 0
  have fo0 : w0.cell? ⟨w.heap.size + 1 + 1, 0, none⟩ = some (.slice none 0 0) := bo.cell 0
  have fr0 : w0.cell? ⟨w.heap.size + 1, 0, none⟩ = some (.slice none 0 0) := br.cell 0
  have zo0 : w0.frozen? ⟨w.heap.size + 1 + 1, 0, none⟩ = false := bo.frozen 0
  have zr0 : w0.frozen? ⟨w.heap.size + 1, 0, none⟩ = false := br.frozen 0
  have fp1 : w0.cell? ⟨w.heap.size, 1, none⟩ = some (.int .i64 x.face) := bp.cell 1
  have fo1 : w0.cell? ⟨w.heap.size + 1 + 1, 1, none⟩ = some (.int .i64 0) := bo.cell 1
  have fr1 : w0.cell? ⟨w.heap.size + 1, 1, none⟩ = some (.int .i64 0) := br.cell 1
  have zo1 : w0.frozen? ⟨w.heap.size + 1 + 1, 1, none⟩ = false := bo.frozen 1
  have zr1 : w0.frozen? ⟨w.heap.size + 1, 1, none⟩ = false := br.frozen 1
  have fp2 : w0.cell? ⟨w.heap.size, 2, none⟩ = some (.int .i64 x.cost) := bp.cell 2
  have fo2 : w0.cell? ⟨w.heap.size + 1 + 1, 2, none⟩ = some (.int .i64 0) := bo.cell 2
  have fr2 : w0.cell? ⟨w.heap.size + 1, 2, none⟩ = some (.int .i64 0) := br.cell 2
  have zo2 : w0.frozen? ⟨w.heap.size + 1 + 1, 2, none⟩ = false := bo.frozen 2
  have zr2 : w0.frozen? ⟨w.heap.size + 1, 2, none⟩ = false := br.frozen 2
  go_wp2
  refine bodyPost_ret (v := .agg #[.slice A0 x.pfx.length k0, .int .i64 x.face, .int .i64 x.cost]) (by simp [results, Tryz.results170, go_sem, fr0, fr1, fr2]) rfl ⟨⟨_, rfl, ?_⟩, ?_⟩
  · have hsz : ∀ (W : World) (p : Addr) (u : Value), (W.setCell p u).heap.size = W.heap.size := fun W p u => by simp [World.setCell]
    simp only [hsz]
    have QF := fun W => fun h : Fr (w.heap.size + 1 + 1 + 1) w0 W => h
    clear QF
    refine Shape.own.via ?_
    refine Shape.own.pair (lo := w.heap.size) (m := w0.heap.size) (m' := w0.heap.size) (cs := [_]) ?_ (by omega) ?_ (by omega) (by omega)
    · refine Shape.own.wide (lo := w.heap.size + 1 + 1 + 1) (hi := w0.heap.size) ?_ (by omega) (by omega)
      exact Shape.own.fr (N := w.heap.size + 1 + 1 + 1) O0 (by (repeat (refine Fr.setCell ?_ (by omega) _)); exact Fr.refl _ _) (by omega) (by omega)
    refine Shape.own.pair (lo := w0.heap.size) (m := w0.heap.size) (m' := w0.heap.size) (cs := [_]) ?_ (by omega) ?_ (by omega) (by omega)
    · exact Shape.own_int r1
    exact Shape.own_int r2
  · (repeat (refine Ext.setCell ?_ (by omega) _)); exact E0

set_option maxHeartbeats 400000 in
theorem toRouteS_c (v : Value) (l : (List DRoute)) (w : World) (h : sRouteL.rd w [v] l) (hs : (szL szRoute) l ≤ 1048576) :
    Calls Tryz.prog 135 #[v] w (Gives sRouteL w l) := by
  obtain ⟨A, c, rfl, hl, hm⟩ := Shape.sl_form h
  unfold maxLen at hm
  have hlen := szL_len szRoute l
  have H := Lib.hid h; clear h
  obtain ⟨i0, hi, hz0, hz1, hz2⟩ := info_parts info_Route
  go_enter Tryz.func135, Tryz.ntmps135
  go_wp2_with (refine wpList_make_full _ rfl _ _ 110 rfl w.heap.size 244 i0 _ 3 Tryz.underlying110 hi hz0 hz1 .i64 .i64 _ _ l.length rfl rfl rfl rfl (by rw [hz2]; omega) (by unfold maxLen; omega) (Nat.le_refl _) ?_; intro w1 hown hgr)
  have hF : Shape.Fill sRoute 244 w.heap.size l.length w1 [] := Shape.Fill.start (v := .bool true) hown
  have hX : Ext w w1 := (Ext.refl w).grown hgr (by simp)
  clear hown hgr hi hz0 hz1 hz2
  go_loopw [4] (fun i wr => ∃ k : Nat, k ≤ l.length ∧ i = .int .i64 k ∧ Shape.Fill sRoute 244 w.heap.size l.length wr (l.take k) ∧ Ext w wr) (fun i _ => l.length - (intOf i).toNat)
  case atStart => exact ⟨0, Nat.zero_le _, rfl, hF, hX⟩
  case round =>
    clear hF hX w1
    obtain ⟨k, hk, rfl, hF, hx⟩ := hrel
    by_cases hlt : k < l.length
    · have hkl : (l.take k).length = k := by rw [List.length_take]; omega
      have hroom := fun j hj => hF.room (by rw [hkl]; exact hlt) j hj
      rw [hkl] at hroom
      have hsz := szL_at szRoute l k hlt
      obtain ⟨b, off, es, rfl, hc, hr⟩ := Shape.sl_at (sRouteL.ext hx H.out) hlt
      have hr' := hr
      obtain ⟨c0, rfl, r0, r1, r2⟩ := sRoute_rd hr
      have f0 := hc 0 _ rfl
      have f1 := hc 1 _ rfl
      have f2 := hc 2 _ rfl
      simp only [Nat.add_zero, show sRoute.k = 3 from rfl, Nat.mul_one] at f0 f1 f2
      have HK := Lib.hid hkl; clear hkl hc
      go_wp2_with fail
      refine (toRoute_c _ l[k] _ hr' (by omega)).mono ?_
      rintro e w1 ⟨⟨r, rfl, hO⟩, hx1⟩
      obtain ⟨d0, rfl, s0, s1, s2⟩ := sRoute_rd hO.rd
      have hF1 := hF.ext hx1
      have hroom := fun j hj => hF1.room (by rw [HK.out]; exact hlt) j hj
      rw [HK.out] at hroom
      obtain ⟨⟨u0, hu0⟩, hz0⟩ := hroom 0 (by decide)
      obtain ⟨⟨u1, hu1⟩, hz1⟩ := hroom 1 (by decide)
      obtain ⟨⟨u2, hu2⟩, hz2⟩ := hroom 2 (by decide)
      simp only [Nat.add_zero, show sRoute.k = 3 from rfl, Nat.mul_one] at hu0 hz0 hu1 hz1 hu2 hz2
      obtain ⟨A_0, k_0, rfl, _, _⟩ := Shape.sl_form (sRoute_f0 hO.rd)
      clear hroom
      have hg : w.heap.size < w1.heap.size := hF1.lt
      go_wp2
      have hkl := HK.out
      have hst := hF.step hx1 hO (by rw [hkl]; exact hlt)
      rw [hkl, ← List.take_succ_eq_append_getElem hlt] at hst
      go_roundw
      case rel => exact ⟨k + 1, by omega, by go_num, by simpa [Shape.putRow, show sRoute.k = 3 from rfl] using hst, (by (repeat (refine Ext.setCell ?_ (Nat.le_refl _) _)); exact hx.trans hx1)⟩
      case measure => simp [intOf]; omega
    · have : k = l.length := by omega
      subst this
      rw [List.take_length] at hF
      go_wp2
      go_ret
      exact ⟨⟨_, rfl, hF.done rfl (by unfold maxLen; omega)⟩, hx⟩

set_option maxHeartbeats 400000 in
theorem toMeasurement_c (cs : List Value) (x : DMeasurement) (w : World) (h : sMeasurement.rd w cs x) (hs : szMeasurement x ≤ 1048576) :
    Calls Tryz.prog 171 #[.agg cs.toArray] w (GivesA sMeasurement w x) := by
  obtain ⟨c0, rfl, r0, r1, r2⟩ := sMeasurement_rd h
  unfold szMeasurement at hs
  go_enter Tryz.func171, Tryz.ntmps171
  go_wp2_with fail
  refine (toName_c _ x.pfx _ (strs.ext (by (repeat (refine Ext.setCell ?_ (by omega) _)); exact (((Ext.refl w).alloc _).alloc _).alloc _) r0) (by omega)).mono ?_
  rintro e w0 ⟨⟨r0', rfl, O0'⟩, hx0⟩
  have hn0 : w.heap.size + 1 + 1 + 1 ≤ w0.heap.size := by have := hx0.size; simpa [World.setCell] using this
  obtain ⟨d0, rfl⟩ := one_cell (strs.len O0'.rd)
  obtain ⟨A0, k0, rfl, _, _⟩ := Shape.sl_form O0'.rd
  have O0 : strs.own (w.heap.size + 1 + 1 + 1) w0.heap.size w0 [.slice A0 x.pfx.length k0] x.pfx := by simpa [World.setCell] using O0'
  clear O0'
  have bp : Blk w0 (w.heap.size) 261 #[c0, .int .i64 x.face, .int .i64 x.failures] := Blk.ext hx0 (by (repeat (refine Blk.far ?_ (by omega) _)); exact ((Blk.new w _ _).alloc _).alloc _)
  have br : Blk w0 (w.heap.size + 1) 246 #[.slice none 0 0, .int .i64 0, .int .i64 0] := Blk.ext hx0 (by (repeat (refine Blk.far ?_ (by omega) _)); exact (Blk.new_at (by simp)).alloc _)
  have bo : Blk w0 (w.heap.size + 1 + 1) 246 #[.slice none 0 0, .int .i64 0, .int .i64 0] := Blk.ext hx0 (Blk.new_at (by simp))
  have E0 : Ext w w0 := Ext.trans (by (repeat (refine Ext.setCell ?_ (by omega) _)); exact (((Ext.refl w).alloc _).alloc _).alloc _) hx0

  clear hx0
  have fp0 : w0.cell? ⟨w.heap.size, 0, none⟩ = some (c0) := bp.cell 0
  have fo0 : w0.cell? ⟨w.heap.size + 1 + 1, 0, none⟩ = some (.slice none 0 0) := bo.cell 0
  have fr0 : w0.cell? ⟨w.heap.size + 1, 0, none⟩ = some (.slice none 0 0) := br.cell 0
  have zo0 : w0.frozen? ⟨w.heap.size + 1 + 1, 0, none⟩ = false := bo.frozen 0
  have zr0 : w0.frozen? ⟨w.heap.size + 1, 0, none⟩ = false := br.frozen 0
  have fp1 : w0.cell? ⟨w.heap.size, 1, none⟩ = some (.int .i64 x.face) := bp.cell 1
  have fo1 : w0.cell? ⟨w.heap.size + 1 + 1, 1, none⟩ = some (.int .i64 0) := bo.cell 1
  have fr1 : w0.cell? ⟨w.heap.size + 1, 1, none⟩ = some (.int .i64 0) := br.cell 1
  have zo1 : w0.frozen? ⟨w.heap.size + 1 + 1, 1, none⟩ = false := bo.frozen 1
  have zr1 : w0.frozen? ⟨w.heap.size + 1, 1, none⟩ = false := br.frozen 1
  have fp2 : w0.cell? ⟨w.heap.size, 2, none⟩ = some (.int .i64 x.failures) := bp.cell 2
  have fo2 : w0.cell? ⟨w.heap.size + 1 + 1, 2, none⟩ = some (.int .i64 0) := bo.cell 2
  have fr2 : w0.cell? ⟨w.heap.size + 1, 2, none⟩ = some (.int .i64 0) := br.cell 2
  have zo2 : w0.frozen? ⟨w.heap.size + 1 + 1, 2, none⟩ = false := bo.frozen 2
  have zr2 : w0.frozen? ⟨w.heap.size + 1, 2, none⟩ = false := br.frozen 2
  go_wp2
  refine bodyPost_ret (v := .agg #[.slice A0 x.pfx.length k0, .int .i64 x.face, .int .i64 x.failures]) (by simp [results, Tryz.results171, go_sem, fr0, fr1, fr2]) rfl ⟨⟨_, rfl, ?_⟩, ?_⟩
  · have hsz : ∀ (W : World) (p : Addr) (u : Value), (W.setCell p u).heap.size = W.heap.size := fun W p u => by simp [World.setCell]
    simp only [hsz]
    have QF := fun W => fun h : Fr (w.heap.size + 1 + 1 + 1) w0 W => h
    clear QF
    refine Shape.own.via ?_
    refine Shape.own.pair (lo := w.heap.size) (m := w0.heap.size) (m' := w0.heap.size) (cs := [_]) ?_ (by omega) ?_ (by omega) (by omega)
    · refine Shape.own.wide (lo := w.heap.size + 1 + 1 + 1) (hi := w0.heap.size) ?_ (by omega) (by omega)
      exact Shape.own.fr (N := w.heap.size + 1 + 1 + 1) O0 (by (repeat (refine Fr.setCell ?_ (by omega) _)); exact Fr.refl _ _) (by omega) (by omega)
    refine Shape.own.pair (lo := w0.heap.size) (m := w0.heap.size) (m' := w0.heap.size) (cs := [_]) ?_ (by omega) ?_ (by omega) (by omega)
    · exact Shape.own_int r1
    exact Shape.own_int r2
  · (repeat (refine Ext.setCell ?_ (by omega) _)); exact E0

set_option maxHeartbeats 400000 in
theorem toMeasurementS_c (v : Value) (l : (List DMeasurement)) (w : World) (h : sMeasurementL.rd w [v] l) (hs : (szL szMeasurement) l ≤ 1048576) :
    Calls Tryz.prog 136 #[v] w (Gives sMeasurementL w l) := by
  obtain ⟨A, c, rfl, hl, hm⟩ := Shape.sl_form h
  unfold maxLen at hm
  have hlen := szL_len szMeasurement l
  have H := Lib.hid h; clear h
  obtain ⟨i0, hi, hz0, hz1, hz2⟩ := info_parts info_Measurement
  go_enter Tryz.func136, Tryz.ntmps136
  go_wp2_with (refine wpList_make_full _ rfl _ _ 111 rfl w.heap.size 246 i0 _ 3 Tryz.underlying111 hi hz0 hz1 .i64 .i64 _ _ l.length rfl rfl rfl rfl (by rw [hz2]; omega) (by unfold maxLen; omega) (Nat.le_refl _) ?_; intro w1 hown hgr)
  have hF : Shape.Fill sMeasurement 246 w.heap.size l.length w1 [] := Shape.Fill.start (v := .bool true) hown
  have hX : Ext w w1 := (Ext.refl w).grown hgr (by simp)
  clear hown hgr hi hz0 hz1 hz2
  go_loopw [4] (fun i wr => ∃ k : Nat, k ≤ l.length ∧ i = .int .i64 k ∧ Shape.Fill sMeasurement 246 w.heap.size l.length wr (l.take k) ∧ Ext w wr) (fun i _ => l.length - (intOf i).toNat)
  case atStart => exact ⟨0, Nat.zero_le _, rfl, hF, hX⟩
  case round =>
    clear hF hX w1
    obtain ⟨k, hk, rfl, hF, hx⟩ := hrel
    by_cases hlt : k < l.length
    · have hkl : (l.take k).length = k := by rw [List.length_take]; omega
      have hroom := fun j hj => hF.room (by rw [hkl]; exact hlt) j hj
      rw [hkl] at hroom
      have hsz := szL_at szMeasurement l k hlt
      obtain ⟨b, off, es, rfl, hc, hr⟩ := Shape.sl_at (sMeasurementL.ext hx H.out) hlt
      have hr' := hr
      obtain ⟨c0, rfl, r0, r1, r2⟩ := sMeasurement_rd hr
      have f0 := hc 0 _ rfl
      have f1 := hc 1 _ rfl
      have f2 := hc 2 _ rfl
      simp only [Nat.add_zero, show sMeasurement.k = 3 from rfl, Nat.mul_one] at f0 f1 f2
      have HK := Lib.hid hkl; clear hkl hc
      go_wp2_with fail
      refine (toMeasurement_c _ l[k] _ hr' (by omega)).mono ?_
      rintro e w1 ⟨⟨r, rfl, hO⟩, hx1⟩
      obtain ⟨d0, rfl, s0, s1, s2⟩ := sMeasurement_rd hO.rd
      have hF1 := hF.ext hx1
      have hroom := fun j hj => hF1.room (by rw [HK.out]; exact hlt) j hj
      rw [HK.out] at hroom
      obtain ⟨⟨u0, hu0⟩, hz0⟩ := hroom 0 (by decide)
      obtain ⟨⟨u1, hu1⟩, hz1⟩ := hroom 1 (by decide)
      obtain ⟨⟨u2, hu2⟩, hz2⟩ := hroom 2 (by decide)
      simp only [Nat.add_zero, show sMeasurement.k = 3 from rfl, Nat.mul_one] at hu0 hz0 hu1 hz1 hu2 hz2
      obtain ⟨A_0, k_0, rfl, _, _⟩ := Shape.sl_form (sMeasurement_f0 hO.rd)
      clear hroom
      have hg : w.heap.size < w1.heap.size := hF1.lt
      go_wp2
      have hkl := HK.out
      have hst := hF.step hx1 hO (by rw [hkl]; exact hlt)
      rw [hkl, ← List.take_succ_eq_append_getElem hlt] at hst
      go_roundw
      case rel => exact ⟨k + 1, by omega, by go_num, by simpa [Shape.putRow, show sMeasurement.k = 3 from rfl] using hst, (by (repeat (refine Ext.setCell ?_ (Nat.le_refl _) _)); exact hx.trans hx1)⟩
      case measure => simp [intOf]; omega
    · have : k = l.length := by omega
      subst this
      rw [List.take_length] at hF
      go_wp2
      go_ret
      exact ⟨⟨_, rfl, hF.done rfl (by unfold maxLen; omega)⟩, hx⟩

set_option maxHeartbeats 400000 in
theorem toNode_c (cs : List Value) (x : DNode) (w : World) (h : sNode.rd w cs x) (hs : szNode x ≤ 1048576) :
    Calls Tryz.prog 86 #[.agg cs.toArray] w (GivesA sNode w x) := by
  obtain ⟨c0, c2, c3, c4, c5, c6, rfl, r0, r1, r2, r3, r4, r5, r6⟩ := sNode_rd h
  unfold szNode at hs
  go_enter Tryz.func86, Tryz.ntmps86
  go_wp2_with fail
  refine (toDataS_c _ x.locals _ (sDataL.ext (by (repeat (refine Ext.setCell ?_ (by omega) _)); exact (((Ext.refl w).alloc _).alloc _).alloc _) r0) (by omega)).mono ?_
  rintro e w0 ⟨⟨r0', rfl, O0'⟩, hx0⟩
  have hn0 : w.heap.size + 1 + 1 + 1 ≤ w0.heap.size := by have := hx0.size; simpa [World.setCell] using this
  obtain ⟨A0, k0, rfl, _, _⟩ := Shape.sl_form O0'.rd
  have O0 : sDataL.own (w.heap.size + 1 + 1 + 1) w0.heap.size w0 [.slice A0 x.locals.length k0] x.locals := by simpa [World.setCell] using O0'
  clear O0'
  have bp : Blk w0 (w.heap.size) 143 #[c0, .int .i64 x.cache.capacity, c2, c3, c4, c5, c6, .int .i64 x.dropped] := Blk.ext hx0 (by (repeat (refine Blk.far ?_ (by omega) _)); exact ((Blk.new w _ _).alloc _).alloc _)
  have br : Blk w0 (w.heap.size + 1) 113 #[.slice none 0 0, .int .i64 0, .slice none 0 0, .slice none 0 0, .slice none 0 0, .slice none 0 0, .slice none 0 0, .int .i64 0] := Blk.ext hx0 (by (repeat (refine Blk.far ?_ (by omega) _)); exact (Blk.new_at (by simp)).alloc _)
  have bo : Blk w0 (w.heap.size + 1 + 1) 113 #[.slice none 0 0, .int .i64 0, .slice none 0 0, .slice none 0 0, .slice none 0 0, .slice none 0 0, .slice none 0 0, .int .i64 0] := Blk.ext hx0 (Blk.new_at (by simp))
  have E0 : Ext w w0 := Ext.trans (by (repeat (refine Ext.setCell ?_ (by omega) _)); exact (((Ext.refl w).alloc _).alloc _).alloc _) hx0

  clear hx0
  have fp0 : w0.cell? ⟨w.heap.size, 0, none⟩ = some (c0) := bp.cell 0
  have fo0 : w0.cell? ⟨w.heap.size + 1 + 1, 0, none⟩ = some (.slice none 0 0) := bo.cell 0
  have fr0 : w0.cell? ⟨w.heap.size + 1, 0, none⟩ = some (.slice none 0 0) := br.cell 0
  have zo0 : w0.frozen? ⟨w.heap.size + 1 + 1, 0, none⟩ = false := bo.frozen 0
  have zr0 : w0.frozen? ⟨w.heap.size + 1, 0, none⟩ = false := br.frozen 0
  have fp1 : w0.cell? ⟨w.heap.size, 1, none⟩ = some (.int .i64 x.cache.capacity) := bp.cell 1
  have fo1 : w0.cell? ⟨w.heap.size + 1 + 1, 1, none⟩ = some (.int .i64 0) := bo.cell 1
  have fr1 : w0.cell? ⟨w.heap.size + 1, 1, none⟩ = some (.int .i64 0) := br.cell 1
  have zo1 : w0.frozen? ⟨w.heap.size + 1 + 1, 1, none⟩ = false := bo.frozen 1
  have zr1 : w0.frozen? ⟨w.heap.size + 1, 1, none⟩ = false := br.frozen 1
  have fp2 : w0.cell? ⟨w.heap.size, 2, none⟩ = some (c2) := bp.cell 2
  have fo2 : w0.cell? ⟨w.heap.size + 1 + 1, 2, none⟩ = some (.slice none 0 0) := bo.cell 2
  have fr2 : w0.cell? ⟨w.heap.size + 1, 2, none⟩ = some (.slice none 0 0) := br.cell 2
  have zo2 : w0.frozen? ⟨w.heap.size + 1 + 1, 2, none⟩ = false := bo.frozen 2
  have zr2 : w0.frozen? ⟨w.heap.size + 1, 2, none⟩ = false := br.frozen 2
  have fp3 : w0.cell? ⟨w.heap.size, 3, none⟩ = some (c3) := bp.cell 3
  have fo3 : w0.cell? ⟨w.heap.size + 1 + 1, 3, none⟩ = some (.slice none 0 0) := bo.cell 3
  have fr3 : w0.cell? ⟨w.heap.size + 1, 3, none⟩ = some (.slice none 0 0) := br.cell 3
  have zo3 : w0.frozen? ⟨w.heap.size + 1 + 1, 3, none⟩ = false := bo.frozen 3
  have zr3 : w0.frozen? ⟨w.heap.size + 1, 3, none⟩ = false := br.frozen 3
  have fp4 : w0.cell? ⟨w.heap.size, 4, none⟩ = some (c4) := bp.cell 4
  have fo4 : w0.cell? ⟨w.heap.size + 1 + 1, 4, none⟩ = some (.slice none 0 0) := bo.cell 4
  have fr4 : w0.cell? ⟨w.heap.size + 1, 4, none⟩ = some (.slice none 0 0) := br.cell 4
  have zo4 : w0.frozen? ⟨w.heap.size + 1 + 1, 4, none⟩ = false := bo.frozen 4
  have zr4 : w0.frozen? ⟨w.heap.size + 1, 4, none⟩ = false := br.frozen 4
  have fp5 : w0.cell? ⟨w.heap.size, 5, none⟩ = some (c5) := bp.cell 5
  have fo5 : w0.cell? ⟨w.heap.size + 1 + 1, 5, none⟩ = some (.slice none 0 0) := bo.cell 5
  have fr5 : w0.cell? ⟨w.heap.size + 1, 5, none⟩ = some (.slice none 0 0) := br.cell 5
  have zo5 : w0.frozen? ⟨w.heap.size + 1 + 1, 5, none⟩ = false := bo.frozen 5
  have zr5 : w0.frozen? ⟨w.heap.size + 1, 5, none⟩ = false := br.frozen 5
  have fp6 : w0.cell? ⟨w.heap.size, 6, none⟩ = some (c6) := bp.cell 6
  have fo6 : w0.cell? ⟨w.heap.size + 1 + 1, 6, none⟩ = some (.slice none 0 0) := bo.cell 6
  have fr6 : w0.cell? ⟨w.heap.size + 1, 6, none⟩ = some (.slice none 0 0) := br.cell 6
  have zo6 : w0.frozen? ⟨w.heap.size + 1 + 1, 6, none⟩ = false := bo.frozen 6
  have zr6 : w0.frozen? ⟨w.heap.size + 1, 6, none⟩ = false := br.frozen 6
  have fp7 : w0.cell? ⟨w.heap.size, 7, none⟩ = some (.int .i64 x.dropped) := bp.cell 7
  have fo7 : w0.cell? ⟨w.heap.size + 1 + 1, 7, none⟩ = some (.int .i64 0) := bo.cell 7
  have fr7 : w0.cell? ⟨w.heap.size + 1, 7, none⟩ = some (.int .i64 0) := br.cell 7
  have zo7 : w0.frozen? ⟨w.heap.size + 1 + 1, 7, none⟩ = false := bo.frozen 7
  have zr7 : w0.frozen? ⟨w.heap.size + 1, 7, none⟩ = false := br.frozen 7
  go_wp2_with fail
  refine (toContentStore_c _ x.cache _ (sContentStore.ext (by (repeat (refine Ext.setCell ?_ (by omega) _)); exact E0) r1) (by omega)).mono ?_
  rintro e w1 ⟨⟨r1', rfl, O1'⟩, hx1⟩
  have hn1 : w0.heap.size ≤ w1.heap.size := by have := hx1.size; simpa [World.setCell] using this
  obtain ⟨d2, rfl, y1_0, y1_1⟩ := sContentStore_rd O1'.rd
  obtain ⟨A1_1, k1_1, rfl, _, _⟩ := Shape.sl_form (sContentStore_f1 O1'.rd)
  have O1 : sContentStore.own (w0.heap.size) w1.heap.size w1 [.int .i64 x.cache.capacity, .slice A1_1 x.cache.entries.length k1_1] x.cache := by simpa [World.setCell] using O1'
  clear O1'
  replace bp : Blk w1 (w.heap.size) 143 #[c0, .int .i64 x.cache.capacity, c2, c3, c4, c5, c6, .int .i64 x.dropped] := Blk.ext hx1 (by (repeat (refine Blk.far ?_ (by omega) _)); exact bp)
  replace br : Blk w1 (w.heap.size + 1) 113 #[.slice none 0 0, .int .i64 0, .slice none 0 0, .slice none 0 0, .slice none 0 0, .slice none 0 0, .slice none 0 0, .int .i64 0] := Blk.ext hx1 (by (repeat (refine Blk.far ?_ (by omega) _)); exact br)
  replace bo : Blk w1 (w.heap.size + 1 + 1) 113 #[.slice A0 x.locals.length k0, .int .i64 0, .slice none 0 0, .slice none 0 0, .slice none 0 0, .slice none 0 0, .slice none 0 0, .int .i64 0] := Blk.ext hx1 (by simpa using (Blk.set_ (bo) 0 _))
  have E1 : Ext w w1 := Ext.trans (by (repeat (refine Ext.setCell ?_ (by omega) _)); exact E0) hx1
  have Q1 : Fr (w.heap.size + 1 + 1 + 1) w0 w1 := Fr.trans (by (repeat (refine Fr.setCell ?_ (by omega) _)); exact Fr.refl _ _) (Fr.ext hx1)
  clear hx1
  clear fp0 fo0 fr0 zo0 zr0 fp1 fo1 fr1 zo1 zr1 fp2 fo2 fr2 zo2 zr2 fp3 fo3 fr3 zo3 zr3 fp4 fo4 fr4 zo4 zr4 fp5 fo5 fr5 zo5 zr5 fp6 fo6 fr6 zo6 zr6 fp7 fo7 fr7 zo7 zr7
  have fp0 : w1.cell? ⟨w.heap.size, 0, none⟩ = some (c0) := bp.cell 0
  have fo0 : w1.cell? ⟨w.heap.size + 1 + 1, 0, none⟩ = some (.slice A0 x.locals.length k0) := bo.cell 0
  have fr0 : w1.cell? ⟨w.heap.size + 1, 0, none⟩ = some (.slice none 0 0) := br.cell 0
  have zo0 : w1.frozen? ⟨w.heap.size + 1 + 1, 0, none⟩ = false := bo.frozen 0
  have zr0 : w1.frozen? ⟨w.heap.size + 1, 0, none⟩ = false := br.frozen 0
  have fp1 : w1.cell? ⟨w.heap.size, 1, none⟩ = some (.int .i64 x.cache.capacity) := bp.cell 1
  have fo1 : w1.cell? ⟨w.heap.size + 1 + 1, 1, none⟩ = some (.int .i64 0) := bo.cell 1
  have fr1 : w1.cell? ⟨w.heap.size + 1, 1, none⟩ = some (.int .i64 0) := br.cell 1
  have zo1 : w1.frozen? ⟨w.heap.size + 1 + 1, 1, none⟩ = false := bo.frozen 1
  have zr1 : w1.frozen? ⟨w.heap.size + 1, 1, none⟩ = false := br.frozen 1
  have fp2 : w1.cell? ⟨w.heap.size, 2, none⟩ = some (c2) := bp.cell 2
  have fo2 : w1.cell? ⟨w.heap.size + 1 + 1, 2, none⟩ = some (.slice none 0 0) := bo.cell 2
  have fr2 : w1.cell? ⟨w.heap.size + 1, 2, none⟩ = some (.slice none 0 0) := br.cell 2
  have zo2 : w1.frozen? ⟨w.heap.size + 1 + 1, 2, none⟩ = false := bo.frozen 2
  have zr2 : w1.frozen? ⟨w.heap.size + 1, 2, none⟩ = false := br.frozen 2
  have fp3 : w1.cell? ⟨w.heap.size, 3, none⟩ = some (c3) := bp.cell 3
  have fo3 : w1.cell? ⟨w.heap.size + 1 + 1, 3, none⟩ = some (.slice none 0 0) := bo.cell 3
  have fr3 : w1.cell? ⟨w.heap.size + 1, 3, none⟩ = some (.slice none 0 0) := br.cell 3
  have zo3 : w1.frozen? ⟨w.heap.size + 1 + 1, 3, none⟩ = false := bo.frozen 3
  have zr3 : w1.frozen? ⟨w.heap.size + 1, 3, none⟩ = false := br.frozen 3
  have fp4 : w1.cell? ⟨w.heap.size, 4, none⟩ = some (c4) := bp.cell 4
  have fo4 : w1.cell? ⟨w.heap.size + 1 + 1, 4, none⟩ = some (.slice none 0 0) := bo.cell 4
  have fr4 : w1.cell? ⟨w.heap.size + 1, 4, none⟩ = some (.slice none 0 0) := br.cell 4
  have zo4 : w1.frozen? ⟨w.heap.size + 1 + 1, 4, none⟩ = false := bo.frozen 4
  have zr4 : w1.frozen? ⟨w.heap.size + 1, 4, none⟩ = false := br.frozen 4
  have fp5 : w1.cell? ⟨w.heap.size, 5, none⟩ = some (c5) := bp.cell 5
  have fo5 : w1.cell? ⟨w.heap.size + 1 + 1, 5, none⟩ = some (.slice none 0 0) := bo.cell 5
  have fr5 : w1.cell? ⟨w.heap.size + 1, 5, none⟩ = some (.slice none 0 0) := br.cell 5
  have zo5 : w1.frozen? ⟨w.heap.size + 1 + 1, 5, none⟩ = false := bo.frozen 5
  have zr5 : w1.frozen? ⟨w.heap.size + 1, 5, none⟩ = false := br.frozen 5
  have fp6 : w1.cell? ⟨w.heap.size, 6, none⟩ = some (c6) := bp.cell 6
  have fo6 : w1.cell? ⟨w.heap.size + 1 + 1, 6, none⟩ = some (.slice none 0 0) := bo.cell 6
  have fr6 : w1.cell? ⟨w.heap.size + 1, 6, none⟩ = some (.slice none 0 0) := br.cell 6
  have zo6 : w1.frozen? ⟨w.heap.size + 1 + 1, 6, none⟩ = false := bo.frozen 6
  have zr6 : w1.frozen? ⟨w.heap.size + 1, 6, none⟩ = false := br.frozen 6
  have fp7 : w1.cell? ⟨w.heap.size, 7, none⟩ = some (.int .i64 x.dropped) := bp.cell 7
  have fo7 : w1.cell? ⟨w.heap.size + 1 + 1, 7, none⟩ = some (.int .i64 0) := bo.cell 7
  have fr7 : w1.cell? ⟨w.heap.size + 1, 7, none⟩ = some (.int .i64 0) := br.cell 7
  have zo7 : w1.frozen? ⟨w.heap.size + 1 + 1, 7, none⟩ = false := bo.frozen 7
  have zr7 : w1.frozen? ⟨w.heap.size + 1, 7, none⟩ = false := br.frozen 7
  go_wp2_with fail
  refine (toPendingInterestS_c _ x.pending _ (sPendingInterestL.ext (by (repeat (refine Ext.setCell ?_ (by omega) _)); exact E1) r2) (by omega)).mono ?_
  rintro e w2 ⟨⟨r2', rfl, O2'⟩, hx2⟩
  have hn2 : w1.heap.size ≤ w2.heap.size := by have := hx2.size; simpa [World.setCell] using this
  obtain ⟨A2, k2, rfl, _, _⟩ := Shape.sl_form O2'.rd
  have O2 : sPendingInterestL.own (w1.heap.size) w2.heap.size w2 [.slice A2 x.pending.length k2] x.pending := by simpa [World.setCell] using O2'
  clear O2'
  replace bp : Blk w2 (w.heap.size) 143 #[c0, .int .i64 x.cache.capacity, c2, c3, c4, c5, c6, .int .i64 x.dropped] := Blk.ext hx2 (by (repeat (refine Blk.far ?_ (by omega) _)); exact bp)
  replace br : Blk w2 (w.heap.size + 1) 113 #[.slice none 0 0, .int .i64 0, .slice none 0 0, .slice none 0 0, .slice none 0 0, .slice none 0 0, .slice none 0 0, .int .i64 0] := Blk.ext hx2 (by (repeat (refine Blk.far ?_ (by omega) _)); exact br)
  replace bo : Blk w2 (w.heap.size + 1 + 1) 113 #[.slice A0 x.locals.length k0, .int .i64 x.cache.capacity, .slice A1_1 x.cache.entries.length k1_1, .slice none 0 0, .slice none 0 0, .slice none 0 0, .slice none 0 0, .int .i64 0] := Blk.ext hx2 (by simpa using (Blk.set_ ((Blk.set_ (bo) 1 _)) 2 _))
  have E2 : Ext w w2 := Ext.trans (by (repeat (refine Ext.setCell ?_ (by omega) _)); exact E1) hx2
  have Q2 : Fr (w.heap.size + 1 + 1 + 1) w1 w2 := Fr.trans (by (repeat (refine Fr.setCell ?_ (by omega) _)); exact Fr.refl _ _) (Fr.ext hx2)
  clear hx2
  clear fp0 fo0 fr0 zo0 zr0 fp1 fo1 fr1 zo1 zr1 fp2 fo2 fr2 zo2 zr2 fp3 fo3 fr3 zo3 zr3 fp4 fo4 fr4 zo4 zr4 fp5 fo5 fr5 zo5 zr5 fp6 fo6 fr6 zo6 zr6 fp7 fo7 fr7 zo7 zr7
  have fp0 : w2.cell? ⟨w.heap.size, 0, none⟩ = some (c0) := bp.cell 0
  have fo0 : w2.cell? ⟨w.heap.size + 1 + 1, 0, none⟩ = some (.slice A0 x.locals.length k0) := bo.cell 0
  have fr0 : w2.cell? ⟨w.heap.size + 1, 0, none⟩ = some (.slice none 0 0) := br.cell 0
  have zo0 : w2.frozen? ⟨w.heap.size + 1 + 1, 0, none⟩ = false := bo.frozen 0
  have zr0 : w2.frozen? ⟨w.heap.size + 1, 0, none⟩ = false := br.frozen 0
  have fp1 : w2.cell? ⟨w.heap.size, 1, none⟩ = some (.int .i64 x.cache.capacity) := bp.cell 1
  have fo1 : w2.cell? ⟨w.heap.size + 1 + 1, 1, none⟩ = some (.int .i64 x.cache.capacity) := bo.cell 1
  have fr1 : w2.cell? ⟨w.heap.size + 1, 1, none⟩ = some (.int .i64 0) := br.cell 1
  have zo1 : w2.frozen? ⟨w.heap.size + 1 + 1, 1, none⟩ = false := bo.frozen 1
  have zr1 : w2.frozen? ⟨w.heap.size + 1, 1, none⟩ = false := br.frozen 1
  have fp2 : w2.cell? ⟨w.heap.size, 2, none⟩ = some (c2) := bp.cell 2
  have fo2 : w2.cell? ⟨w.heap.size + 1 + 1, 2, none⟩ = some (.slice A1_1 x.cache.entries.length k1_1) := bo.cell 2
  have fr2 : w2.cell? ⟨w.heap.size + 1, 2, none⟩ = some (.slice none 0 0) := br.cell 2
  have zo2 : w2.frozen? ⟨w.heap.size + 1 + 1, 2, none⟩ = false := bo.frozen 2
  have zr2 : w2.frozen? ⟨w.heap.size + 1, 2, none⟩ = false := br.frozen 2
  have fp3 : w2.cell? ⟨w.heap.size, 3, none⟩ = some (c3) := bp.cell 3
  have fo3 : w2.cell? ⟨w.heap.size + 1 + 1, 3, none⟩ = some (.slice none 0 0) := bo.cell 3
  have fr3 : w2.cell? ⟨w.heap.size + 1, 3, none⟩ = some (.slice none 0 0) := br.cell 3
  have zo3 : w2.frozen? ⟨w.heap.size + 1 + 1, 3, none⟩ = false := bo.frozen 3
  have zr3 : w2.frozen? ⟨w.heap.size + 1, 3, none⟩ = false := br.frozen 3
  have fp4 : w2.cell? ⟨w.heap.size, 4, none⟩ = some (c4) := bp.cell 4
  have fo4 : w2.cell? ⟨w.heap.size + 1 + 1, 4, none⟩ = some (.slice none 0 0) := bo.cell 4
  have fr4 : w2.cell? ⟨w.heap.size + 1, 4, none⟩ = some (.slice none 0 0) := br.cell 4
  have zo4 : w2.frozen? ⟨w.heap.size + 1 + 1, 4, none⟩ = false := bo.frozen 4
  have zr4 : w2.frozen? ⟨w.heap.size + 1, 4, none⟩ = false := br.frozen 4
  have fp5 : w2.cell? ⟨w.heap.size, 5, none⟩ = some (c5) := bp.cell 5
  have fo5 : w2.cell? ⟨w.heap.size + 1 + 1, 5, none⟩ = some (.slice none 0 0) := bo.cell 5
  have fr5 : w2.cell? ⟨w.heap.size + 1, 5, none⟩ = some (.slice none 0 0) := br.cell 5
  have zo5 : w2.frozen? ⟨w.heap.size + 1 + 1, 5, none⟩ = false := bo.frozen 5
  have zr5 : w2.frozen? ⟨w.heap.size + 1, 5, none⟩ = false := br.frozen 5
  have fp6 : w2.cell? ⟨w.heap.size, 6, none⟩ = some (c6) := bp.cell 6
  have fo6 : w2.cell? ⟨w.heap.size + 1 + 1, 6, none⟩ = some (.slice none 0 0) := bo.cell 6
  have fr6 : w2.cell? ⟨w.heap.size + 1, 6, none⟩ = some (.slice none 0 0) := br.cell 6
  have zo6 : w2.frozen? ⟨w.heap.size + 1 + 1, 6, none⟩ = false := bo.frozen 6
  have zr6 : w2.frozen? ⟨w.heap.size + 1, 6, none⟩ = false := br.frozen 6
  have fp7 : w2.cell? ⟨w.heap.size, 7, none⟩ = some (.int .i64 x.dropped) := bp.cell 7
  have fo7 : w2.cell? ⟨w.heap.size + 1 + 1, 7, none⟩ = some (.int .i64 0) := bo.cell 7
  have fr7 : w2.cell? ⟨w.heap.size + 1, 7, none⟩ = some (.int .i64 0) := br.cell 7
  have zo7 : w2.frozen? ⟨w.heap.size + 1 + 1, 7, none⟩ = false := bo.frozen 7
  have zr7 : w2.frozen? ⟨w.heap.size + 1, 7, none⟩ = false := br.frozen 7
  go_wp2_with fail
  refine (toSeenNonceS_c _ x.seen _ (sSeenNonceL.ext (by (repeat (refine Ext.setCell ?_ (by omega) _)); exact E2) r3) (by omega)).mono ?_
  rintro e w3 ⟨⟨r3', rfl, O3'⟩, hx3⟩
  have hn3 : w2.heap.size ≤ w3.heap.size := by have := hx3.size; simpa [World.setCell] using this
  obtain ⟨A3, k3, rfl, _, _⟩ := Shape.sl_form O3'.rd
  have O3 : sSeenNonceL.own (w2.heap.size) w3.heap.size w3 [.slice A3 x.seen.length k3] x.seen := by simpa [World.setCell] using O3'
  clear O3'
  replace bp : Blk w3 (w.heap.size) 143 #[c0, .int .i64 x.cache.capacity, c2, c3, c4, c5, c6, .int .i64 x.dropped] := Blk.ext hx3 (by (repeat (refine Blk.far ?_ (by omega) _)); exact bp)
  replace br : Blk w3 (w.heap.size + 1) 113 #[.slice none 0 0, .int .i64 0, .slice none 0 0, .slice none 0 0, .slice none 0 0, .slice none 0 0, .slice none 0 0, .int .i64 0] := Blk.ext hx3 (by (repeat (refine Blk.far ?_ (by omega) _)); exact br)
  replace bo : Blk w3 (w.heap.size + 1 + 1) 113 #[.slice A0 x.locals.length k0, .int .i64 x.cache.capacity, .slice A1_1 x.cache.entries.length k1_1, .slice A2 x.pending.length k2, .slice none 0 0, .slice none 0 0, .slice none 0 0, .int .i64 0] := Blk.ext hx3 (by simpa using (Blk.set_ (bo) 3 _))
  have E3 : Ext w w3 := Ext.trans (by (repeat (refine Ext.setCell ?_ (by omega) _)); exact E2) hx3
  have Q3 : Fr (w.heap.size + 1 + 1 + 1) w2 w3 := Fr.trans (by (repeat (refine Fr.setCell ?_ (by omega) _)); exact Fr.refl _ _) (Fr.ext hx3)
  clear hx3
  clear fp0 fo0 fr0 zo0 zr0 fp1 fo1 fr1 zo1 zr1 fp2 fo2 fr2 zo2 zr2 fp3 fo3 fr3 zo3 zr3 fp4 fo4 fr4 zo4 zr4 fp5 fo5 fr5 zo5 zr5 fp6 fo6 fr6 zo6 zr6 fp7 fo7 fr7 zo7 zr7
  have fp0 : w3.cell? ⟨w.heap.size, 0, none⟩ = some (c0) := bp.cell 0
  have fo0 : w3.cell? ⟨w.heap.size + 1 + 1, 0, none⟩ = some (.slice A0 x.locals.length k0) := bo.cell 0
  have fr0 : w3.cell? ⟨w.heap.size + 1, 0, none⟩ = some (.slice none 0 0) := br.cell 0
  have zo0 : w3.frozen? ⟨w.heap.size + 1 + 1, 0, none⟩ = false := bo.frozen 0
  have zr0 : w3.frozen? ⟨w.heap.size + 1, 0, none⟩ = false := br.frozen 0
  have fp1 : w3.cell? ⟨w.heap.size, 1, none⟩ = some (.int .i64 x.cache.capacity) := bp.cell 1
  have fo1 : w3.cell? ⟨w.heap.size + 1 + 1, 1, none⟩ = some (.int .i64 x.cache.capacity) := bo.cell 1
  have fr1 : w3.cell? ⟨w.heap.size + 1, 1, none⟩ = some (.int .i64 0) := br.cell 1
  have zo1 : w3.frozen? ⟨w.heap.size + 1 + 1, 1, none⟩ = false := bo.frozen 1
  have zr1 : w3.frozen? ⟨w.heap.size + 1, 1, none⟩ = false := br.frozen 1
  have fp2 : w3.cell? ⟨w.heap.size, 2, none⟩ = some (c2) := bp.cell 2
  have fo2 : w3.cell? ⟨w.heap.size + 1 + 1, 2, none⟩ = some (.slice A1_1 x.cache.entries.length k1_1) := bo.cell 2
  have fr2 : w3.cell? ⟨w.heap.size + 1, 2, none⟩ = some (.slice none 0 0) := br.cell 2
  have zo2 : w3.frozen? ⟨w.heap.size + 1 + 1, 2, none⟩ = false := bo.frozen 2
  have zr2 : w3.frozen? ⟨w.heap.size + 1, 2, none⟩ = false := br.frozen 2
  have fp3 : w3.cell? ⟨w.heap.size, 3, none⟩ = some (c3) := bp.cell 3
  have fo3 : w3.cell? ⟨w.heap.size + 1 + 1, 3, none⟩ = some (.slice A2 x.pending.length k2) := bo.cell 3
  have fr3 : w3.cell? ⟨w.heap.size + 1, 3, none⟩ = some (.slice none 0 0) := br.cell 3
  have zo3 : w3.frozen? ⟨w.heap.size + 1 + 1, 3, none⟩ = false := bo.frozen 3
  have zr3 : w3.frozen? ⟨w.heap.size + 1, 3, none⟩ = false := br.frozen 3
  have fp4 : w3.cell? ⟨w.heap.size, 4, none⟩ = some (c4) := bp.cell 4
  have fo4 : w3.cell? ⟨w.heap.size + 1 + 1, 4, none⟩ = some (.slice none 0 0) := bo.cell 4
  have fr4 : w3.cell? ⟨w.heap.size + 1, 4, none⟩ = some (.slice none 0 0) := br.cell 4
  have zo4 : w3.frozen? ⟨w.heap.size + 1 + 1, 4, none⟩ = false := bo.frozen 4
  have zr4 : w3.frozen? ⟨w.heap.size + 1, 4, none⟩ = false := br.frozen 4
  have fp5 : w3.cell? ⟨w.heap.size, 5, none⟩ = some (c5) := bp.cell 5
  have fo5 : w3.cell? ⟨w.heap.size + 1 + 1, 5, none⟩ = some (.slice none 0 0) := bo.cell 5
  have fr5 : w3.cell? ⟨w.heap.size + 1, 5, none⟩ = some (.slice none 0 0) := br.cell 5
  have zo5 : w3.frozen? ⟨w.heap.size + 1 + 1, 5, none⟩ = false := bo.frozen 5
  have zr5 : w3.frozen? ⟨w.heap.size + 1, 5, none⟩ = false := br.frozen 5
  have fp6 : w3.cell? ⟨w.heap.size, 6, none⟩ = some (c6) := bp.cell 6
  have fo6 : w3.cell? ⟨w.heap.size + 1 + 1, 6, none⟩ = some (.slice none 0 0) := bo.cell 6
  have fr6 : w3.cell? ⟨w.heap.size + 1, 6, none⟩ = some (.slice none 0 0) := br.cell 6
  have zo6 : w3.frozen? ⟨w.heap.size + 1 + 1, 6, none⟩ = false := bo.frozen 6
  have zr6 : w3.frozen? ⟨w.heap.size + 1, 6, none⟩ = false := br.frozen 6
  have fp7 : w3.cell? ⟨w.heap.size, 7, none⟩ = some (.int .i64 x.dropped) := bp.cell 7
  have fo7 : w3.cell? ⟨w.heap.size + 1 + 1, 7, none⟩ = some (.int .i64 0) := bo.cell 7
  have fr7 : w3.cell? ⟨w.heap.size + 1, 7, none⟩ = some (.int .i64 0) := br.cell 7
  have zo7 : w3.frozen? ⟨w.heap.size + 1 + 1, 7, none⟩ = false := bo.frozen 7
  have zr7 : w3.frozen? ⟨w.heap.size + 1, 7, none⟩ = false := br.frozen 7
  go_wp2_with fail
  refine (toRouteS_c _ x.routes _ (sRouteL.ext (by (repeat (refine Ext.setCell ?_ (by omega) _)); exact E3) r4) (by omega)).mono ?_
  rintro e w4 ⟨⟨r4', rfl, O4'⟩, hx4⟩
  have hn4 : w3.heap.size ≤ w4.heap.size := by have := hx4.size; simpa [World.setCell] using this
  obtain ⟨A4, k4, rfl, _, _⟩ := Shape.sl_form O4'.rd
  have O4 : sRouteL.own (w3.heap.size) w4.heap.size w4 [.slice A4 x.routes.length k4] x.routes := by simpa [World.setCell] using O4'
  clear O4'
  replace bp : Blk w4 (w.heap.size) 143 #[c0, .int .i64 x.cache.capacity, c2, c3, c4, c5, c6, .int .i64 x.dropped] := Blk.ext hx4 (by (repeat (refine Blk.far ?_ (by omega) _)); exact bp)
  replace br : Blk w4 (w.heap.size + 1) 113 #[.slice none 0 0, .int .i64 0, .slice none 0 0, .slice none 0 0, .slice none 0 0, .slice none 0 0, .slice none 0 0, .int .i64 0] := Blk.ext hx4 (by (repeat (refine Blk.far ?_ (by omega) _)); exact br)
  replace bo : Blk w4 (w.heap.size + 1 + 1) 113 #[.slice A0 x.locals.length k0, .int .i64 x.cache.capacity, .slice A1_1 x.cache.entries.length k1_1, .slice A2 x.pending.length k2, .slice A3 x.seen.length k3, .slice none 0 0, .slice none 0 0, .int .i64 0] := Blk.ext hx4 (by simpa using (Blk.set_ (bo) 4 _))
  have E4 : Ext w w4 := Ext.trans (by (repeat (refine Ext.setCell ?_ (by omega) _)); exact E3) hx4
  have Q4 : Fr (w.heap.size + 1 + 1 + 1) w3 w4 := Fr.trans (by (repeat (refine Fr.setCell ?_ (by omega) _)); exact Fr.refl _ _) (Fr.ext hx4)
  clear hx4
  clear fp0 fo0 fr0 zo0 zr0 fp1 fo1 fr1 zo1 zr1 fp2 fo2 fr2 zo2 zr2 fp3 fo3 fr3 zo3 zr3 fp4 fo4 fr4 zo4 zr4 fp5 fo5 fr5 zo5 zr5 fp6 fo6 fr6 zo6 zr6 fp7 fo7 fr7 zo7 zr7
  have fp0 : w4.cell? ⟨w.heap.size, 0, none⟩ = some (c0) := bp.cell 0
  have fo0 : w4.cell? ⟨w.heap.size + 1 + 1, 0, none⟩ = some (.slice A0 x.locals.length k0) := bo.cell 0
  have fr0 : w4.cell? ⟨w.heap.size + 1, 0, none⟩ = some (.slice none 0 0) := br.cell 0
  have zo0 : w4.frozen? ⟨w.heap.size + 1 + 1, 0, none⟩ = false := bo.frozen 0
  have zr0 : w4.frozen? ⟨w.heap.size + 1, 0, none⟩ = false := br.frozen 0
  have fp1 : w4.cell? ⟨w.heap.size, 1, none⟩ = some (.int .i64 x.cache.capacity) := bp.cell 1
  have fo1 : w4.cell? ⟨w.heap.size + 1 + 1, 1, none⟩ = some (.int .i64 x.cache.capacity) := bo.cell 1
  have fr1 : w4.cell? ⟨w.heap.size + 1, 1, none⟩ = some (.int .i64 0) := br.cell 1
  have zo1 : w4.frozen? ⟨w.heap.size + 1 + 1, 1, none⟩ = false := bo.frozen 1
  have zr1 : w4.frozen? ⟨w.heap.size + 1, 1, none⟩ = false := br.frozen 1
  have fp2 : w4.cell? ⟨w.heap.size, 2, none⟩ = some (c2) := bp.cell 2
  have fo2 : w4.cell? ⟨w.heap.size + 1 + 1, 2, none⟩ = some (.slice A1_1 x.cache.entries.length k1_1) := bo.cell 2
  have fr2 : w4.cell? ⟨w.heap.size + 1, 2, none⟩ = some (.slice none 0 0) := br.cell 2
  have zo2 : w4.frozen? ⟨w.heap.size + 1 + 1, 2, none⟩ = false := bo.frozen 2
  have zr2 : w4.frozen? ⟨w.heap.size + 1, 2, none⟩ = false := br.frozen 2
  have fp3 : w4.cell? ⟨w.heap.size, 3, none⟩ = some (c3) := bp.cell 3
  have fo3 : w4.cell? ⟨w.heap.size + 1 + 1, 3, none⟩ = some (.slice A2 x.pending.length k2) := bo.cell 3
  have fr3 : w4.cell? ⟨w.heap.size + 1, 3, none⟩ = some (.slice none 0 0) := br.cell 3
  have zo3 : w4.frozen? ⟨w.heap.size + 1 + 1, 3, none⟩ = false := bo.frozen 3
  have zr3 : w4.frozen? ⟨w.heap.size + 1, 3, none⟩ = false := br.frozen 3
  have fp4 : w4.cell? ⟨w.heap.size, 4, none⟩ = some (c4) := bp.cell 4
  have fo4 : w4.cell? ⟨w.heap.size + 1 + 1, 4, none⟩ = some (.slice A3 x.seen.length k3) := bo.cell 4
  have fr4 : w4.cell? ⟨w.heap.size + 1, 4, none⟩ = some (.slice none 0 0) := br.cell 4
  have zo4 : w4.frozen? ⟨w.heap.size + 1 + 1, 4, none⟩ = false := bo.frozen 4
  have zr4 : w4.frozen? ⟨w.heap.size + 1, 4, none⟩ = false := br.frozen 4
  have fp5 : w4.cell? ⟨w.heap.size, 5, none⟩ = some (c5) := bp.cell 5
  have fo5 : w4.cell? ⟨w.heap.size + 1 + 1, 5, none⟩ = some (.slice none 0 0) := bo.cell 5
  have fr5 : w4.cell? ⟨w.heap.size + 1, 5, none⟩ = some (.slice none 0 0) := br.cell 5
  have zo5 : w4.frozen? ⟨w.heap.size + 1 + 1, 5, none⟩ = false := bo.frozen 5
  have zr5 : w4.frozen? ⟨w.heap.size + 1, 5, none⟩ = false := br.frozen 5
  have fp6 : w4.cell? ⟨w.heap.size, 6, none⟩ = some (c6) := bp.cell 6
  have fo6 : w4.cell? ⟨w.heap.size + 1 + 1, 6, none⟩ = some (.slice none 0 0) := bo.cell 6
  have fr6 : w4.cell? ⟨w.heap.size + 1, 6, none⟩ = some (.slice none 0 0) := br.cell 6
  have zo6 : w4.frozen? ⟨w.heap.size + 1 + 1, 6, none⟩ = false := bo.frozen 6
  have zr6 : w4.frozen? ⟨w.heap.size + 1, 6, none⟩ = false := br.frozen 6
  have fp7 : w4.cell? ⟨w.heap.size, 7, none⟩ = some (.int .i64 x.dropped) := bp.cell 7
  have fo7 : w4.cell? ⟨w.heap.size + 1 + 1, 7, none⟩ = some (.int .i64 0) := bo.cell 7
  have fr7 : w4.cell? ⟨w.heap.size + 1, 7, none⟩ = some (.int .i64 0) := br.cell 7
  have zo7 : w4.frozen? ⟨w.heap.size + 1 + 1, 7, none⟩ = false := bo.frozen 7
  have zr7 : w4.frozen? ⟨w.heap.size + 1, 7, none⟩ = false := br.frozen 7
  go_wp2_with fail
  refine (toMeasurementS_c _ x.measurements _ (sMeasurementL.ext (by (repeat (refine Ext.setCell ?_ (by omega) _)); exact E4) r5) (by omega)).mono ?_
  rintro e w5 ⟨⟨r5', rfl, O5'⟩, hx5⟩
  have hn5 : w4.heap.size ≤ w5.heap.size := by have := hx5.size; simpa [World.setCell] using this
  obtain ⟨A5, k5, rfl, _, _⟩ := Shape.sl_form O5'.rd
  have O5 : sMeasurementL.own (w4.heap.size) w5.heap.size w5 [.slice A5 x.measurements.length k5] x.measurements := by simpa [World.setCell] using O5'
  clear O5'
  replace bp : Blk w5 (w.heap.size) 143 #[c0, .int .i64 x.cache.capacity, c2, c3, c4, c5, c6, .int .i64 x.dropped] := Blk.ext hx5 (by (repeat (refine Blk.far ?_ (by omega) _)); exact bp)
  replace br : Blk w5 (w.heap.size + 1) 113 #[.slice none 0 0, .int .i64 0, .slice none 0 0, .slice none 0 0, .slice none 0 0, .slice none 0 0, .slice none 0 0, .int .i64 0] := Blk.ext hx5 (by (repeat (refine Blk.far ?_ (by omega) _)); exact br)
  replace bo : Blk w5 (w.heap.size + 1 + 1) 113 #[.slice A0 x.locals.length k0, .int .i64 x.cache.capacity, .slice A1_1 x.cache.entries.length k1_1, .slice A2 x.pending.length k2, .slice A3 x.seen.length k3, .slice A4 x.routes.length k4, .slice none 0 0, .int .i64 0] := Blk.ext hx5 (by simpa using (Blk.set_ (bo) 5 _))
  have E5 : Ext w w5 := Ext.trans (by (repeat (refine Ext.setCell ?_ (by omega) _)); exact E4) hx5
  have Q5 : Fr (w.heap.size + 1 + 1 + 1) w4 w5 := Fr.trans (by (repeat (refine Fr.setCell ?_ (by omega) _)); exact Fr.refl _ _) (Fr.ext hx5)
  clear hx5
  clear fp0 fo0 fr0 zo0 zr0 fp1 fo1 fr1 zo1 zr1 fp2 fo2 fr2 zo2 zr2 fp3 fo3 fr3 zo3 zr3 fp4 fo4 fr4 zo4 zr4 fp5 fo5 fr5 zo5 zr5 fp6 fo6 fr6 zo6 zr6 fp7 fo7 fr7 zo7 zr7
  have fp0 : w5.cell? ⟨w.heap.size, 0, none⟩ = some (c0) := bp.cell 0
  have fo0 : w5.cell? ⟨w.heap.size + 1 + 1, 0, none⟩ = some (.slice A0 x.locals.length k0) := bo.cell 0
  have fr0 : w5.cell? ⟨w.heap.size + 1, 0, none⟩ = some (.slice none 0 0) := br.cell 0
  have zo0 : w5.frozen? ⟨w.heap.size + 1 + 1, 0, none⟩ = false := bo.frozen 0
  have zr0 : w5.frozen? ⟨w.heap.size + 1, 0, none⟩ = false := br.frozen 0
  have fp1 : w5.cell? ⟨w.heap.size, 1, none⟩ = some (.int .i64 x.cache.capacity) := bp.cell 1
  have fo1 : w5.cell? ⟨w.heap.size + 1 + 1, 1, none⟩ = some (.int .i64 x.cache.capacity) := bo.cell 1
  have fr1 : w5.cell? ⟨w.heap.size + 1, 1, none⟩ = some (.int .i64 0) := br.cell 1
  have zo1 : w5.frozen? ⟨w.heap.size + 1 + 1, 1, none⟩ = false := bo.frozen 1
  have zr1 : w5.frozen? ⟨w.heap.size + 1, 1, none⟩ = false := br.frozen 1
  have fp2 : w5.cell? ⟨w.heap.size, 2, none⟩ = some (c2) := bp.cell 2
  have fo2 : w5.cell? ⟨w.heap.size + 1 + 1, 2, none⟩ = some (.slice A1_1 x.cache.entries.length k1_1) := bo.cell 2
  have fr2 : w5.cell? ⟨w.heap.size + 1, 2, none⟩ = some (.slice none 0 0) := br.cell 2
  have zo2 : w5.frozen? ⟨w.heap.size + 1 + 1, 2, none⟩ = false := bo.frozen 2
  have zr2 : w5.frozen? ⟨w.heap.size + 1, 2, none⟩ = false := br.frozen 2
  have fp3 : w5.cell? ⟨w.heap.size, 3, none⟩ = some (c3) := bp.cell 3
  have fo3 : w5.cell? ⟨w.heap.size + 1 + 1, 3, none⟩ = some (.slice A2 x.pending.length k2) := bo.cell 3
  have fr3 : w5.cell? ⟨w.heap.size + 1, 3, none⟩ = some (.slice none 0 0) := br.cell 3
  have zo3 : w5.frozen? ⟨w.heap.size + 1 + 1, 3, none⟩ = false := bo.frozen 3
  have zr3 : w5.frozen? ⟨w.heap.size + 1, 3, none⟩ = false := br.frozen 3
  have fp4 : w5.cell? ⟨w.heap.size, 4, none⟩ = some (c4) := bp.cell 4
  have fo4 : w5.cell? ⟨w.heap.size + 1 + 1, 4, none⟩ = some (.slice A3 x.seen.length k3) := bo.cell 4
  have fr4 : w5.cell? ⟨w.heap.size + 1, 4, none⟩ = some (.slice none 0 0) := br.cell 4
  have zo4 : w5.frozen? ⟨w.heap.size + 1 + 1, 4, none⟩ = false := bo.frozen 4
  have zr4 : w5.frozen? ⟨w.heap.size + 1, 4, none⟩ = false := br.frozen 4
  have fp5 : w5.cell? ⟨w.heap.size, 5, none⟩ = some (c5) := bp.cell 5
  have fo5 : w5.cell? ⟨w.heap.size + 1 + 1, 5, none⟩ = some (.slice A4 x.routes.length k4) := bo.cell 5
  have fr5 : w5.cell? ⟨w.heap.size + 1, 5, none⟩ = some (.slice none 0 0) := br.cell 5
  have zo5 : w5.frozen? ⟨w.heap.size + 1 + 1, 5, none⟩ = false := bo.frozen 5
  have zr5 : w5.frozen? ⟨w.heap.size + 1, 5, none⟩ = false := br.frozen 5
  have fp6 : w5.cell? ⟨w.heap.size, 6, none⟩ = some (c6) := bp.cell 6
  have fo6 : w5.cell? ⟨w.heap.size + 1 + 1, 6, none⟩ = some (.slice none 0 0) := bo.cell 6
  have fr6 : w5.cell? ⟨w.heap.size + 1, 6, none⟩ = some (.slice none 0 0) := br.cell 6
  have zo6 : w5.frozen? ⟨w.heap.size + 1 + 1, 6, none⟩ = false := bo.frozen 6
  have zr6 : w5.frozen? ⟨w.heap.size + 1, 6, none⟩ = false := br.frozen 6
  have fp7 : w5.cell? ⟨w.heap.size, 7, none⟩ = some (.int .i64 x.dropped) := bp.cell 7
  have fo7 : w5.cell? ⟨w.heap.size + 1 + 1, 7, none⟩ = some (.int .i64 0) := bo.cell 7
  have fr7 : w5.cell? ⟨w.heap.size + 1, 7, none⟩ = some (.int .i64 0) := br.cell 7
  have zo7 : w5.frozen? ⟨w.heap.size + 1 + 1, 7, none⟩ = false := bo.frozen 7
  have zr7 : w5.frozen? ⟨w.heap.size + 1, 7, none⟩ = false := br.frozen 7
  go_wp2
  refine bodyPost_ret (v := .agg #[.slice A0 x.locals.length k0, .int .i64 x.cache.capacity, .slice A1_1 x.cache.entries.length k1_1, .slice A2 x.pending.length k2, .slice A3 x.seen.length k3, .slice A4 x.routes.length k4, .slice A5 x.measurements.length k5, .int .i64 x.dropped]) (by simp [results, Tryz.results86, go_sem, fr0, fr1, fr2, fr3, fr4, fr5, fr6, fr7]) rfl ⟨⟨_, rfl, ?_⟩, ?_⟩
  · have hsz : ∀ (W : World) (p : Addr) (u : Value), (W.setCell p u).heap.size = W.heap.size := fun W p u => by simp [World.setCell]
    simp only [hsz]
    have QF := fun W => fun h : Fr (w.heap.size + 1 + 1 + 1) w5 W => h
    clear QF
    refine Shape.own.via ?_
    refine Shape.own.pair (lo := w.heap.size) (m := w0.heap.size) (m' := w0.heap.size) (cs := [_]) ?_ (by omega) ?_ (by omega) (by omega)
    · refine Shape.own.wide (lo := w.heap.size + 1 + 1 + 1) (hi := w0.heap.size) ?_ (by omega) (by omega)
      exact Shape.own.fr (N := w.heap.size + 1 + 1 + 1) (((((O0.fr Q1 (by omega) (by omega)).fr Q2 (by omega) (by omega)).fr Q3 (by omega) (by omega)).fr Q4 (by omega) (by omega)).fr Q5 (by omega) (by omega)) (by (repeat (refine Fr.setCell ?_ (by omega) _)); exact Fr.refl _ _) (by omega) (by omega)
    refine Shape.own.pair (lo := w0.heap.size) (m := w1.heap.size) (m' := w1.heap.size) (cs := [_, _]) ?_ (by omega) ?_ (by omega) (by omega)
    · refine Shape.own.wide (lo := w0.heap.size) (hi := w1.heap.size) ?_ (by omega) (by omega)
      exact Shape.own.fr (N := w.heap.size + 1 + 1 + 1) ((((O1.fr Q2 (by omega) (by omega)).fr Q3 (by omega) (by omega)).fr Q4 (by omega) (by omega)).fr Q5 (by omega) (by omega)) (by (repeat (refine Fr.setCell ?_ (by omega) _)); exact Fr.refl _ _) (by omega) (by omega)
    refine Shape.own.pair (lo := w1.heap.size) (m := w2.heap.size) (m' := w2.heap.size) (cs := [_]) ?_ (by omega) ?_ (by omega) (by omega)
    · refine Shape.own.wide (lo := w1.heap.size) (hi := w2.heap.size) ?_ (by omega) (by omega)
      exact Shape.own.fr (N := w.heap.size + 1 + 1 + 1) (((O2.fr Q3 (by omega) (by omega)).fr Q4 (by omega) (by omega)).fr Q5 (by omega) (by omega)) (by (repeat (refine Fr.setCell ?_ (by omega) _)); exact Fr.refl _ _) (by omega) (by omega)
    refine Shape.own.pair (lo := w2.heap.size) (m := w3.heap.size) (m' := w3.heap.size) (cs := [_]) ?_ (by omega) ?_ (by omega) (by omega)
    · refine Shape.own.wide (lo := w2.heap.size) (hi := w3.heap.size) ?_ (by omega) (by omega)
      exact Shape.own.fr (N := w.heap.size + 1 + 1 + 1) ((O3.fr Q4 (by omega) (by omega)).fr Q5 (by omega) (by omega)) (by (repeat (refine Fr.setCell ?_ (by omega) _)); exact Fr.refl _ _) (by omega) (by omega)
    refine Shape.own.pair (lo := w3.heap.size) (m := w4.heap.size) (m' := w4.heap.size) (cs := [_]) ?_ (by omega) ?_ (by omega) (by omega)
    · refine Shape.own.wide (lo := w3.heap.size) (hi := w4.heap.size) ?_ (by omega) (by omega)
      exact Shape.own.fr (N := w.heap.size + 1 + 1 + 1) (O4.fr Q5 (by omega) (by omega)) (by (repeat (refine Fr.setCell ?_ (by omega) _)); exact Fr.refl _ _) (by omega) (by omega)
    refine Shape.own.pair (lo := w4.heap.size) (m := w5.heap.size) (m' := w5.heap.size) (cs := [_]) ?_ (by omega) ?_ (by omega) (by omega)
    · refine Shape.own.wide (lo := w4.heap.size) (hi := w5.heap.size) ?_ (by omega) (by omega)
      exact Shape.own.fr (N := w.heap.size + 1 + 1 + 1) O5 (by (repeat (refine Fr.setCell ?_ (by omega) _)); exact Fr.refl _ _) (by omega) (by omega)
    exact Shape.own_int r6
  · (repeat (refine Ext.setCell ?_ (by omega) _)); exact E5

set_option maxHeartbeats 400000 in
theorem toNodeS_c (v : Value) (l : (List DNode)) (w : World) (h : sNodeL.rd w [v] l) (hs : (szL szNode) l ≤ 1048576) :
    Calls Tryz.prog 40 #[v] w (Gives sNodeL w l) := by
  obtain ⟨A, c, rfl, hl, hm⟩ := Shape.sl_form h
  unfold maxLen at hm
  have hlen := szL_len szNode l
  have H := Lib.hid h; clear h
  obtain ⟨i0, hi, hz0, hz1, hz2⟩ := info_parts info_Node
  go_enter Tryz.func40, Tryz.ntmps40
  go_wp2_with (refine wpList_make_full _ rfl _ _ 54 rfl w.heap.size 113 i0 _ 8 Tryz.underlying54 hi hz0 hz1 .i64 .i64 _ _ l.length rfl rfl rfl rfl (by rw [hz2]; omega) (by unfold maxLen; omega) (Nat.le_refl _) ?_; intro w1 hown hgr)
  have hF : Shape.Fill sNode 113 w.heap.size l.length w1 [] := Shape.Fill.start (v := .bool true) hown
  have hX : Ext w w1 := (Ext.refl w).grown hgr (by simp)
  clear hown hgr hi hz0 hz1 hz2
  go_loopw [4] (fun i wr => ∃ k : Nat, k ≤ l.length ∧ i = .int .i64 k ∧ Shape.Fill sNode 113 w.heap.size l.length wr (l.take k) ∧ Ext w wr) (fun i _ => l.length - (intOf i).toNat)
  case atStart => exact ⟨0, Nat.zero_le _, rfl, hF, hX⟩
  case round =>
    clear hF hX w1
    obtain ⟨k, hk, rfl, hF, hx⟩ := hrel
    by_cases hlt : k < l.length
    · have hkl : (l.take k).length = k := by rw [List.length_take]; omega
      have hroom := fun j hj => hF.room (by rw [hkl]; exact hlt) j hj
      rw [hkl] at hroom
      have hsz := szL_at szNode l k hlt
      obtain ⟨b, off, es, rfl, hc, hr⟩ := Shape.sl_at (sNodeL.ext hx H.out) hlt
      have hr' := hr
      obtain ⟨c0, c2, c3, c4, c5, c6, rfl, r0, r1, r2, r3, r4, r5, r6⟩ := sNode_rd hr
      have f0 := hc 0 _ rfl
      have f1 := hc 1 _ rfl
      have f2 := hc 2 _ rfl
      have f3 := hc 3 _ rfl
      have f4 := hc 4 _ rfl
      have f5 := hc 5 _ rfl
      have f6 := hc 6 _ rfl
      have f7 := hc 7 _ rfl
      simp only [Nat.add_zero, show sNode.k = 8 from rfl, Nat.mul_one] at f0 f1 f2 f3 f4 f5 f6 f7
      have HK := Lib.hid hkl; clear hkl hc
      go_wp2_with fail
      refine (toNode_c _ l[k] _ hr' (by omega)).mono ?_
      rintro e w1 ⟨⟨r, rfl, hO⟩, hx1⟩
      obtain ⟨d0, d2, d3, d4, d5, d6, rfl, s0, s1, s2, s3, s4, s5, s6⟩ := sNode_rd hO.rd
      have hF1 := hF.ext hx1
      have hroom := fun j hj => hF1.room (by rw [HK.out]; exact hlt) j hj
      rw [HK.out] at hroom
      obtain ⟨⟨u0, hu0⟩, hz0⟩ := hroom 0 (by decide)
      obtain ⟨⟨u1, hu1⟩, hz1⟩ := hroom 1 (by decide)
      obtain ⟨⟨u2, hu2⟩, hz2⟩ := hroom 2 (by decide)
      obtain ⟨⟨u3, hu3⟩, hz3⟩ := hroom 3 (by decide)
      obtain ⟨⟨u4, hu4⟩, hz4⟩ := hroom 4 (by decide)
      obtain ⟨⟨u5, hu5⟩, hz5⟩ := hroom 5 (by decide)
      obtain ⟨⟨u6, hu6⟩, hz6⟩ := hroom 6 (by decide)
      obtain ⟨⟨u7, hu7⟩, hz7⟩ := hroom 7 (by decide)
      simp only [Nat.add_zero, show sNode.k = 8 from rfl, Nat.mul_one] at hu0 hz0 hu1 hz1 hu2 hz2 hu3 hz3 hu4 hz4 hu5 hz5 hu6 hz6 hu7 hz7
      obtain ⟨A_0, k_0, rfl, _, _⟩ := Shape.sl_form (sNode_f0 hO.rd)
      obtain ⟨A_2, k_2, rfl, _, _⟩ := Shape.sl_form (sContentStore_f1 (sNode_f1 hO.rd))
      obtain ⟨A_3, k_3, rfl, _, _⟩ := Shape.sl_form (sNode_f2 hO.rd)
      obtain ⟨A_4, k_4, rfl, _, _⟩ := Shape.sl_form (sNode_f3 hO.rd)
      obtain ⟨A_5, k_5, rfl, _, _⟩ := Shape.sl_form (sNode_f4 hO.rd)
      obtain ⟨A_6, k_6, rfl, _, _⟩ := Shape.sl_form (sNode_f5 hO.rd)
      clear hroom
      have hg : w.heap.size < w1.heap.size := hF1.lt
      go_wp2
      have hkl := HK.out
      have hst := hF.step hx1 hO (by rw [hkl]; exact hlt)
      rw [hkl, ← List.take_succ_eq_append_getElem hlt] at hst
      go_roundw
      case rel => exact ⟨k + 1, by omega, by go_num, by simpa [Shape.putRow, show sNode.k = 8 from rfl] using hst, (by (repeat (refine Ext.setCell ?_ (Nat.le_refl _) _)); exact hx.trans hx1)⟩
      case measure => simp [intOf]; omega
    · have : k = l.length := by omega
      subst this
      rw [List.take_length] at hF
      go_wp2
      go_ret
      exact ⟨⟨_, rfl, hF.done rfl (by unfold maxLen; omega)⟩, hx⟩

set_option maxHeartbeats 400000 in
theorem toIntS_c (v : Value) (l : (List Int)) (w : World) (h : sInts.rd w [v] l) (hs : (szL (fun _ => 0)) l ≤ 1048576) :
    Calls Tryz.prog 41 #[v] w (Gives sInts w l) := by
  obtain ⟨A, c, rfl, hl, hm⟩ := Shape.sl_form h
  unfold maxLen at hm
  have hlen := szL_len (fun _ => 0) l
  have H := Lib.hid h; clear h
  obtain ⟨i0, hi, hz0, hz1, hz2⟩ := info_parts info_int
  go_enter Tryz.func41, Tryz.ntmps41
  go_wp2_with (refine wpList_make_full _ rfl _ _ 33 rfl w.heap.size 3 i0 _ 1 Tryz.underlying33 hi hz0 hz1 .i64 .i64 _ _ l.length rfl rfl rfl rfl (by rw [hz2]; omega) (by unfold maxLen; omega) (Nat.le_refl _) ?_; intro w1 hown hgr)
  have hF : Shape.Fill Shape.int 3 w.heap.size l.length w1 [] := Shape.Fill.start (v := .bool true) hown
  have hX : Ext w w1 := (Ext.refl w).grown hgr (by simp)
  clear hown hgr hi hz0 hz1 hz2
  go_loopw [4] (fun i wr => ∃ k : Nat, k ≤ l.length ∧ i = .int .i64 k ∧ Shape.Fill Shape.int 3 w.heap.size l.length wr (l.take k) ∧ Ext w wr) (fun i _ => l.length - (intOf i).toNat)
  case atStart => exact ⟨0, Nat.zero_le _, rfl, hF, hX⟩
  case round =>
    clear hF hX w1
    obtain ⟨k, hk, rfl, hF, hx⟩ := hrel
    by_cases hlt : k < l.length
    · have hkl : (l.take k).length = k := by rw [List.length_take]; omega
      have hroom := fun j hj => hF.room (by rw [hkl]; exact hlt) j hj
      rw [hkl] at hroom
      have hsz := szL_at (fun _ => 0) l k hlt
      obtain ⟨b, off, rfl, hcell, hok⟩ := Shape.int_at (sInts.ext hx H.out) hlt
      obtain ⟨⟨u0, hu0⟩, hz0⟩ := hroom 0 (by decide)
      simp only [Nat.add_zero, show Shape.int.k = 1 from rfl, Nat.mul_one] at hu0 hz0
      have HK := Lib.hid hkl; clear hkl hroom
      go_wp2
      have hkl := HK.out
      have hst := hF.step (Ext.refl _) (x := l[k]) (Shape.own_int hok) (by rw [hkl]; exact hlt)
      rw [hkl, ← List.take_succ_eq_append_getElem hlt] at hst
      have hlo : w.heap.size ≤ w.heap.size := Nat.le_refl _
      go_roundw
      case rel => exact ⟨k + 1, by omega, by go_num, by simpa [Shape.putRow, Shape.int, Shape.one] using hst, hx.setCell (Nat.le_refl _) _⟩
      case measure => simp [intOf]; omega
    · have : k = l.length := by omega
      subst this
      rw [List.take_length] at hF
      go_wp2
      go_ret
      exact ⟨⟨_, rfl, hF.done rfl (by unfold maxLen; omega)⟩, hx⟩

set_option maxHeartbeats 400000 in
theorem toInterest_c (cs : List Value) (x : DInterest) (w : World) (h : sInterest.rd w cs x) (hs : szInterest x ≤ 1048576) :
    Calls Tryz.prog 137 #[.agg cs.toArray] w (GivesA sInterest w x) := by
  obtain ⟨c0, rfl, r0, r1, r2, r3⟩ := sInterest_rd h
  unfold szInterest at hs
  go_enter Tryz.func137, Tryz.ntmps137
  go_wp2_with fail
  refine (toName_c _ x.name _ (strs.ext (by (repeat (refine Ext.setCell ?_ (by omega) _)); exact (((Ext.refl w).alloc _).alloc _).alloc _) r0) (by omega)).mono ?_
  rintro e w0 ⟨⟨r0', rfl, O0'⟩, hx0⟩
  have hn0 : w.heap.size + 1 + 1 + 1 ≤ w0.heap.size := by have := hx0.size; simpa [World.setCell] using this
  obtain ⟨d0, rfl⟩ := one_cell (strs.len O0'.rd)
  obtain ⟨A0, k0, rfl, _, _⟩ := Shape.sl_form O0'.rd
  have O0 : strs.own (w.heap.size + 1 + 1 + 1) w0.heap.size w0 [.slice A0 x.name.length k0] x.name := by simpa [World.setCell] using O0'
  clear O0'
  have bp : Blk w0 (w.heap.size) 146 #[c0, .int .i64 x.nonce, .int .i64 x.hopLimit, .int .i64 x.lifetime] := Blk.ext hx0 (by (repeat (refine Blk.far ?_ (by omega) _)); exact ((Blk.new w _ _).alloc _).alloc _)
  have br : Blk w0 (w.heap.size + 1) 162 #[.slice none 0 0, .int .i64 0, .int .i64 0, .int .i64 0] := Blk.ext hx0 (by (repeat (refine Blk.far ?_ (by omega) _)); exact (Blk.new_at (by simp)).alloc _)
  have bo : Blk w0 (w.heap.size + 1 + 1) 162 #[.slice none 0 0, .int .i64 0, .int .i64 0, .int .i64 0] := Blk.ext hx0 (Blk.new_at (by simp))
  have E0 : Ext w w0 := Ext.trans (by (repeat (refine Ext.setCell ?_ (by omega) _)); exact (((Ext.refl w).alloc _).alloc _).alloc _) hx0

  clear hx0
  have fp0 : w0.cell? ⟨w.heap.size, 0, none⟩ = some (c0) := bp.cell 0
  have fo0 : w0.cell? ⟨w.heap.size + 1 + 1, 0, none⟩ = some (.slice none 0 0) := bo.cell 0
  have fr0 : w0.cell? ⟨w.heap.size + 1, 0, none⟩ = some (.slice none 0 0) := br.cell 0
  have zo0 : w0.frozen? ⟨w.heap.size + 1 + 1, 0, none⟩ = false := bo.frozen 0
  have zr0 : w0.frozen? ⟨w.heap.size + 1, 0, none⟩ = false := br.frozen 0
  have fp1 : w0.cell? ⟨w.heap.size, 1, none⟩ = some (.int .i64 x.nonce) := bp.cell 1
  have fo1 : w0.cell? ⟨w.heap.size + 1 + 1, 1, none⟩ = some (.int .i64 0) := bo.cell 1
  have fr1 : w0.cell? ⟨w.heap.size + 1, 1, none⟩ = some (.int .i64 0) := br.cell 1
  have zo1 : w0.frozen? ⟨w.heap.size + 1 + 1, 1, none⟩ = false := bo.frozen 1
  have zr1 : w0.frozen? ⟨w.heap.size + 1, 1, none⟩ = false := br.frozen 1
  have fp2 : w0.cell? ⟨w.heap.size, 2, none⟩ = some (.int .i64 x.hopLimit) := bp.cell 2
  have fo2 : w0.cell? ⟨w.heap.size + 1 + 1, 2, none⟩ = some (.int .i64 0) := bo.cell 2
  have fr2 : w0.cell? ⟨w.heap.size + 1, 2, none⟩ = some (.int .i64 0) := br.cell 2
  have zo2 : w0.frozen? ⟨w.heap.size + 1 + 1, 2, none⟩ = false := bo.frozen 2
  have zr2 : w0.frozen? ⟨w.heap.size + 1, 2, none⟩ = false := br.frozen 2
  have fp3 : w0.cell? ⟨w.heap.size, 3, none⟩ = some (.int .i64 x.lifetime) := bp.cell 3
  have fo3 : w0.cell? ⟨w.heap.size + 1 + 1, 3, none⟩ = some (.int .i64 0) := bo.cell 3
  have fr3 : w0.cell? ⟨w.heap.size + 1, 3, none⟩ = some (.int .i64 0) := br.cell 3
  have zo3 : w0.frozen? ⟨w.heap.size + 1 + 1, 3, none⟩ = false := bo.frozen 3
  have zr3 : w0.frozen? ⟨w.heap.size + 1, 3, none⟩ = false := br.frozen 3
  go_wp2
  refine bodyPost_ret (v := .agg #[.slice A0 x.name.length k0, .int .i64 x.nonce, .int .i64 x.hopLimit, .int .i64 x.lifetime]) (by simp [results, Tryz.results137, go_sem, fr0, fr1, fr2, fr3]) rfl ⟨⟨_, rfl, ?_⟩, ?_⟩
  · have hsz : ∀ (W : World) (p : Addr) (u : Value), (W.setCell p u).heap.size = W.heap.size := fun W p u => by simp [World.setCell]
    simp only [hsz]
    have QF := fun W => fun h : Fr (w.heap.size + 1 + 1 + 1) w0 W => h
    clear QF
    refine Shape.own.via ?_
    refine Shape.own.pair (lo := w.heap.size) (m := w0.heap.size) (m' := w0.heap.size) (cs := [_]) ?_ (by omega) ?_ (by omega) (by omega)
    · refine Shape.own.wide (lo := w.heap.size + 1 + 1 + 1) (hi := w0.heap.size) ?_ (by omega) (by omega)
      exact Shape.own.fr (N := w.heap.size + 1 + 1 + 1) O0 (by (repeat (refine Fr.setCell ?_ (by omega) _)); exact Fr.refl _ _) (by omega) (by omega)
    refine Shape.own.pair (lo := w0.heap.size) (m := w0.heap.size) (m' := w0.heap.size) (cs := [_]) ?_ (by omega) ?_ (by omega) (by omega)
    · exact Shape.own_int r1
    refine Shape.own.pair (lo := w0.heap.size) (m := w0.heap.size) (m' := w0.heap.size) (cs := [_]) ?_ (by omega) ?_ (by omega) (by omega)
    · exact Shape.own_int r2
    exact Shape.own_int r3
  · (repeat (refine Ext.setCell ?_ (by omega) _)); exact E0

set_option maxHeartbeats 400000 in
theorem toPacketInFlight_c (cs : List Value) (x : DPacketInFlight) (w : World) (h : sPacketInFlight.rd w cs x) (hs : szPacketInFlight x ≤ 1048576) :
    Calls Tryz.prog 87 #[.agg cs.toArray] w (GivesA sPacketInFlight w x) := by
  obtain ⟨c3, c7, c8, c9, rfl, r0, r1, r3, r4⟩ := sPacketInFlight_rd h
  unfold szPacketInFlight at hs
  go_enter Tryz.func87, Tryz.ntmps87
  go_wp2_with fail
  refine (toInterest_c _ x.interest _ (sInterest.ext (by (repeat (refine Ext.setCell ?_ (by omega) _)); exact (((Ext.refl w).alloc _).alloc _).alloc _) r3) (by omega)).mono ?_
  rintro e w0 ⟨⟨r3', rfl, O0'⟩, hx0⟩
  have hn0 : w.heap.size + 1 + 1 + 1 ≤ w0.heap.size := by have := hx0.size; simpa [World.setCell] using this
  obtain ⟨d3, rfl, y0_0, y0_1, y0_2, y0_3⟩ := sInterest_rd O0'.rd
  obtain ⟨A0_0, k0_0, rfl, _, _⟩ := Shape.sl_form (sInterest_f0 O0'.rd)
  have O0 : sInterest.own (w.heap.size + 1 + 1 + 1) w0.heap.size w0 [.slice A0_0 x.interest.name.length k0_0, .int .i64 x.interest.nonce, .int .i64 x.interest.hopLimit, .int .i64 x.interest.lifetime] x.interest := by simpa [World.setCell] using O0'
  clear O0'
  have bp : Blk w0 (w.heap.size) 150 #[.int .i64 x.dest, .int .i64 x.face, .bool x.isInterest, c3, .int .i64 x.interest.nonce, .int .i64 x.interest.hopLimit, .int .i64 x.interest.lifetime, c7, c8, c9, .int .i64 x.data.freshUntil, .int .i64 x.data.signature] := Blk.ext hx0 (by (repeat (refine Blk.far ?_ (by omega) _)); exact ((Blk.new w _ _).alloc _).alloc _)
  have br : Blk w0 (w.heap.size + 1) 164 #[.int .i64 0, .int .i64 0, .bool false, .slice none 0 0, .int .i64 0, .int .i64 0, .int .i64 0, .slice none 0 0, .slice none 0 0, .slice none 0 0, .int .i64 0, .int .i64 0] := Blk.ext hx0 (by (repeat (refine Blk.far ?_ (by omega) _)); exact (Blk.new_at (by simp)).alloc _)
  have bo : Blk w0 (w.heap.size + 1 + 1) 164 #[.int .i64 x.dest, .int .i64 x.face, .bool x.isInterest, .slice none 0 0, .int .i64 0, .int .i64 0, .int .i64 0, .slice none 0 0, .slice none 0 0, .slice none 0 0, .int .i64 0, .int .i64 0] := Blk.ext hx0 (Blk.new_at (by simp))
  have E0 : Ext w w0 := Ext.trans (by (repeat (refine Ext.setCell ?_ (by omega) _)); exact (((Ext.refl w).alloc _).alloc _).alloc _) hx0

  clear hx0
  have fp0 : w0.cell? ⟨w.heap.size, 0, none⟩ = some (.int .i64 x.dest) := bp.cell 0
  have fo0 : w0.cell? ⟨w.heap.size + 1 + 1, 0, none⟩ = some (.int .i64 x.dest) := bo.cell 0
  have fr0 : w0.cell? ⟨w.heap.size + 1, 0, none⟩ = some (.int .i64 0) := br.cell 0
  have zo0 : w0.frozen? ⟨w.heap.size + 1 + 1, 0, none⟩ = false := bo.frozen 0
  have zr0 : w0.frozen? ⟨w.heap.size + 1, 0, none⟩ = false := br.frozen 0
  have fp1 : w0.cell? ⟨w.heap.size, 1, none⟩ = some (.int .i64 x.face) := bp.cell 1
  have fo1 : w0.cell? ⟨w.heap.size + 1 + 1, 1, none⟩ = some (.int .i64 x.face) := bo.cell 1
  have fr1 : w0.cell? ⟨w.heap.size + 1, 1, none⟩ = some (.int .i64 0) := br.cell 1
  have zo1 : w0.frozen? ⟨w.heap.size + 1 + 1, 1, none⟩ = false := bo.frozen 1
  have zr1 : w0.frozen? ⟨w.heap.size + 1, 1, none⟩ = false := br.frozen 1
  have fp2 : w0.cell? ⟨w.heap.size, 2, none⟩ = some (.bool x.isInterest) := bp.cell 2
  have fo2 : w0.cell? ⟨w.heap.size + 1 + 1, 2, none⟩ = some (.bool x.isInterest) := bo.cell 2
  have fr2 : w0.cell? ⟨w.heap.size + 1, 2, none⟩ = some (.bool false) := br.cell 2
  have zo2 : w0.frozen? ⟨w.heap.size + 1 + 1, 2, none⟩ = false := bo.frozen 2
  have zr2 : w0.frozen? ⟨w.heap.size + 1, 2, none⟩ = false := br.frozen 2
  have fp3 : w0.cell? ⟨w.heap.size, 3, none⟩ = some (c3) := bp.cell 3
  have fo3 : w0.cell? ⟨w.heap.size + 1 + 1, 3, none⟩ = some (.slice none 0 0) := bo.cell 3
  have fr3 : w0.cell? ⟨w.heap.size + 1, 3, none⟩ = some (.slice none 0 0) := br.cell 3
  have zo3 : w0.frozen? ⟨w.heap.size + 1 + 1, 3, none⟩ = false := bo.frozen 3
  have zr3 : w0.frozen? ⟨w.heap.size + 1, 3, none⟩ = false := br.frozen 3
  have fp4 : w0.cell? ⟨w.heap.size, 4, none⟩ = some (.int .i64 x.interest.nonce) := bp.cell 4
  have fo4 : w0.cell? ⟨w.heap.size + 1 + 1, 4, none⟩ = some (.int .i64 0) := bo.cell 4
  have fr4 : w0.cell? ⟨w.heap.size + 1, 4, none⟩ = some (.int .i64 0) := br.cell 4
  have zo4 : w0.frozen? ⟨w.heap.size + 1 + 1, 4, none⟩ = false := bo.frozen 4
  have zr4 : w0.frozen? ⟨w.heap.size + 1, 4, none⟩ = false := br.frozen 4
  have fp5 : w0.cell? ⟨w.heap.size, 5, none⟩ = some (.int .i64 x.interest.hopLimit) := bp.cell 5
  have fo5 : w0.cell? ⟨w.heap.size + 1 + 1, 5, none⟩ = some (.int .i64 0) := bo.cell 5
  have fr5 : w0.cell? ⟨w.heap.size + 1, 5, none⟩ = some (.int .i64 0) := br.cell 5
  have zo5 : w0.frozen? ⟨w.heap.size + 1 + 1, 5, none⟩ = false := bo.frozen 5
  have zr5 : w0.frozen? ⟨w.heap.size + 1, 5, none⟩ = false := br.frozen 5
  have fp6 : w0.cell? ⟨w.heap.size, 6, none⟩ = some (.int .i64 x.interest.lifetime) := bp.cell 6
  have fo6 : w0.cell? ⟨w.heap.size + 1 + 1, 6, none⟩ = some (.int .i64 0) := bo.cell 6
  have fr6 : w0.cell? ⟨w.heap.size + 1, 6, none⟩ = some (.int .i64 0) := br.cell 6
  have zo6 : w0.frozen? ⟨w.heap.size + 1 + 1, 6, none⟩ = false := bo.frozen 6
  have zr6 : w0.frozen? ⟨w.heap.size + 1, 6, none⟩ = false := br.frozen 6
  have fp7 : w0.cell? ⟨w.heap.size, 7, none⟩ = some (c7) := bp.cell 7
  have fo7 : w0.cell? ⟨w.heap.size + 1 + 1, 7, none⟩ = some (.slice none 0 0) := bo.cell 7
  have fr7 : w0.cell? ⟨w.heap.size + 1, 7, none⟩ = some (.slice none 0 0) := br.cell 7
  have zo7 : w0.frozen? ⟨w.heap.size + 1 + 1, 7, none⟩ = false := bo.frozen 7
  have zr7 : w0.frozen? ⟨w.heap.size + 1, 7, none⟩ = false := br.frozen 7
  have fp8 : w0.cell? ⟨w.heap.size, 8, none⟩ = some (c8) := bp.cell 8
  have fo8 : w0.cell? ⟨w.heap.size + 1 + 1, 8, none⟩ = some (.slice none 0 0) := bo.cell 8
  have fr8 : w0.cell? ⟨w.heap.size + 1, 8, none⟩ = some (.slice none 0 0) := br.cell 8
  have zo8 : w0.frozen? ⟨w.heap.size + 1 + 1, 8, none⟩ = false := bo.frozen 8
  have zr8 : w0.frozen? ⟨w.heap.size + 1, 8, none⟩ = false := br.frozen 8
  have fp9 : w0.cell? ⟨w.heap.size, 9, none⟩ = some (c9) := bp.cell 9
  have fo9 : w0.cell? ⟨w.heap.size + 1 + 1, 9, none⟩ = some (.slice none 0 0) := bo.cell 9
  have fr9 : w0.cell? ⟨w.heap.size + 1, 9, none⟩ = some (.slice none 0 0) := br.cell 9
  have zo9 : w0.frozen? ⟨w.heap.size + 1 + 1, 9, none⟩ = false := bo.frozen 9
  have zr9 : w0.frozen? ⟨w.heap.size + 1, 9, none⟩ = false := br.frozen 9
  have fp10 : w0.cell? ⟨w.heap.size, 10, none⟩ = some (.int .i64 x.data.freshUntil) := bp.cell 10
  have fo10 : w0.cell? ⟨w.heap.size + 1 + 1, 10, none⟩ = some (.int .i64 0) := bo.cell 10
  have fr10 : w0.cell? ⟨w.heap.size + 1, 10, none⟩ = some (.int .i64 0) := br.cell 10
  have zo10 : w0.frozen? ⟨w.heap.size + 1 + 1, 10, none⟩ = false := bo.frozen 10
  have zr10 : w0.frozen? ⟨w.heap.size + 1, 10, none⟩ = false := br.frozen 10
  have fp11 : w0.cell? ⟨w.heap.size, 11, none⟩ = some (.int .i64 x.data.signature) := bp.cell 11
  have fo11 : w0.cell? ⟨w.heap.size + 1 + 1, 11, none⟩ = some (.int .i64 0) := bo.cell 11
  have fr11 : w0.cell? ⟨w.heap.size + 1, 11, none⟩ = some (.int .i64 0) := br.cell 11
  have zo11 : w0.frozen? ⟨w.heap.size + 1 + 1, 11, none⟩ = false := bo.frozen 11
  have zr11 : w0.frozen? ⟨w.heap.size + 1, 11, none⟩ = false := br.frozen 11
  go_wp2_with fail
  refine (toData_c _ x.data _ (sData.ext (by (repeat (refine Ext.setCell ?_ (by omega) _)); exact E0) r4) (by omega)).mono ?_
  rintro e w1 ⟨⟨r4', rfl, O1'⟩, hx1⟩
  have hn1 : w0.heap.size ≤ w1.heap.size := by have := hx1.size; simpa [World.setCell] using this
  obtain ⟨d7, d8, d9, rfl, y1_0, y1_1, y1_2, y1_3, y1_4⟩ := sData_rd O1'.rd
  obtain ⟨A1_0, k1_0, rfl, _, _⟩ := Shape.sl_form (sData_f0 O1'.rd)
  obtain ⟨A1_1, k1_1, rfl, _, _⟩ := Shape.sl_form (sData_f1 O1'.rd)
  obtain ⟨A1_2, k1_2, rfl, _, _⟩ := Shape.sl_form (sData_f2 O1'.rd)
  have O1 : sData.own (w0.heap.size) w1.heap.size w1 [.slice A1_0 x.data.name.length k1_0, .slice A1_1 x.data.content.length k1_1, .slice A1_2 x.data.keyName.length k1_2, .int .i64 x.data.freshUntil, .int .i64 x.data.signature] x.data := by simpa [World.setCell] using O1'
  clear O1'
  replace bp : Blk w1 (w.heap.size) 150 #[.int .i64 x.dest, .int .i64 x.face, .bool x.isInterest, c3, .int .i64 x.interest.nonce, .int .i64 x.interest.hopLimit, .int .i64 x.interest.lifetime, c7, c8, c9, .int .i64 x.data.freshUntil, .int .i64 x.data.signature] := Blk.ext hx1 (by (repeat (refine Blk.far ?_ (by omega) _)); exact bp)
  replace br : Blk w1 (w.heap.size + 1) 164 #[.int .i64 0, .int .i64 0, .bool false, .slice none 0 0, .int .i64 0, .int .i64 0, .int .i64 0, .slice none 0 0, .slice none 0 0, .slice none 0 0, .int .i64 0, .int .i64 0] := Blk.ext hx1 (by (repeat (refine Blk.far ?_ (by omega) _)); exact br)
  replace bo : Blk w1 (w.heap.size + 1 + 1) 164 #[.int .i64 x.dest, .int .i64 x.face, .bool x.isInterest, .slice A0_0 x.interest.name.length k0_0, .int .i64 x.interest.nonce, .int .i64 x.interest.hopLimit, .int .i64 x.interest.lifetime, .slice none 0 0, .slice none 0 0, .slice none 0 0, .int .i64 0, .int .i64 0] := Blk.ext hx1 (by simpa using (Blk.set_ ((Blk.set_ ((Blk.set_ ((Blk.set_ (bo) 3 _)) 4 _)) 5 _)) 6 _))
  have E1 : Ext w w1 := Ext.trans (by (repeat (refine Ext.setCell ?_ (by omega) _)); exact E0) hx1
  have Q1 : Fr (w.heap.size + 1 + 1 + 1) w0 w1 := Fr.trans (by (repeat (refine Fr.setCell ?_ (by omega) _)); exact Fr.refl _ _) (Fr.ext hx1)
  clear hx1
  clear fp0 fo0 fr0 zo0 zr0 fp1 fo1 fr1 zo1 zr1 fp2 fo2 fr2 zo2 zr2 fp3 fo3 fr3 zo3 zr3 fp4 fo4 fr4 zo4 zr4 fp5 fo5 fr5 zo5 zr5 fp6 fo6 fr6 zo6 zr6 fp7 fo7 fr7 zo7 zr7 fp8 fo8 fr8 zo8 zr8 fp9 fo9 fr9 zo9 zr9 fp10 fo10 fr10 zo10 zr10 fp11 fo11 fr11 zo11 zr11
  have fp0 : w1.cell? ⟨w.heap.size, 0, none⟩ = some (.int .i64 x.dest) := bp.cell 0
  have fo0 : w1.cell? ⟨w.heap.size + 1 + 1, 0, none⟩ = some (.int .i64 x.dest) := bo.cell 0
  have fr0 : w1.cell? ⟨w.heap.size + 1, 0, none⟩ = some (.int .i64 0) := br.cell 0
  have zo0 : w1.frozen? ⟨w.heap.size + 1 + 1, 0, none⟩ = false := bo.frozen 0
  have zr0 : w1.frozen? ⟨w.heap.size + 1, 0, none⟩ = false := br.frozen 0
  have fp1 : w1.cell? ⟨w.heap.size, 1, none⟩ = some (.int .i64 x.face) := bp.cell 1
  have fo1 : w1.cell? ⟨w.heap.size + 1 + 1, 1, none⟩ = some (.int .i64 x.face) := bo.cell 1
  have fr1 : w1.cell? ⟨w.heap.size + 1, 1, none⟩ = some (.int .i64 0) := br.cell 1
  have zo1 : w1.frozen? ⟨w.heap.size + 1 + 1, 1, none⟩ = false := bo.frozen 1
  have zr1 : w1.frozen? ⟨w.heap.size + 1, 1, none⟩ = false := br.frozen 1
  have fp2 : w1.cell? ⟨w.heap.size, 2, none⟩ = some (.bool x.isInterest) := bp.cell 2
  have fo2 : w1.cell? ⟨w.heap.size + 1 + 1, 2, none⟩ = some (.bool x.isInterest) := bo.cell 2
  have fr2 : w1.cell? ⟨w.heap.size + 1, 2, none⟩ = some (.bool false) := br.cell 2
  have zo2 : w1.frozen? ⟨w.heap.size + 1 + 1, 2, none⟩ = false := bo.frozen 2
  have zr2 : w1.frozen? ⟨w.heap.size + 1, 2, none⟩ = false := br.frozen 2
  have fp3 : w1.cell? ⟨w.heap.size, 3, none⟩ = some (c3) := bp.cell 3
  have fo3 : w1.cell? ⟨w.heap.size + 1 + 1, 3, none⟩ = some (.slice A0_0 x.interest.name.length k0_0) := bo.cell 3
  have fr3 : w1.cell? ⟨w.heap.size + 1, 3, none⟩ = some (.slice none 0 0) := br.cell 3
  have zo3 : w1.frozen? ⟨w.heap.size + 1 + 1, 3, none⟩ = false := bo.frozen 3
  have zr3 : w1.frozen? ⟨w.heap.size + 1, 3, none⟩ = false := br.frozen 3
  have fp4 : w1.cell? ⟨w.heap.size, 4, none⟩ = some (.int .i64 x.interest.nonce) := bp.cell 4
  have fo4 : w1.cell? ⟨w.heap.size + 1 + 1, 4, none⟩ = some (.int .i64 x.interest.nonce) := bo.cell 4
  have fr4 : w1.cell? ⟨w.heap.size + 1, 4, none⟩ = some (.int .i64 0) := br.cell 4
  have zo4 : w1.frozen? ⟨w.heap.size + 1 + 1, 4, none⟩ = false := bo.frozen 4
  have zr4 : w1.frozen? ⟨w.heap.size + 1, 4, none⟩ = false := br.frozen 4
  have fp5 : w1.cell? ⟨w.heap.size, 5, none⟩ = some (.int .i64 x.interest.hopLimit) := bp.cell 5
  have fo5 : w1.cell? ⟨w.heap.size + 1 + 1, 5, none⟩ = some (.int .i64 x.interest.hopLimit) := bo.cell 5
  have fr5 : w1.cell? ⟨w.heap.size + 1, 5, none⟩ = some (.int .i64 0) := br.cell 5
  have zo5 : w1.frozen? ⟨w.heap.size + 1 + 1, 5, none⟩ = false := bo.frozen 5
  have zr5 : w1.frozen? ⟨w.heap.size + 1, 5, none⟩ = false := br.frozen 5
  have fp6 : w1.cell? ⟨w.heap.size, 6, none⟩ = some (.int .i64 x.interest.lifetime) := bp.cell 6
  have fo6 : w1.cell? ⟨w.heap.size + 1 + 1, 6, none⟩ = some (.int .i64 x.interest.lifetime) := bo.cell 6
  have fr6 : w1.cell? ⟨w.heap.size + 1, 6, none⟩ = some (.int .i64 0) := br.cell 6
  have zo6 : w1.frozen? ⟨w.heap.size + 1 + 1, 6, none⟩ = false := bo.frozen 6
  have zr6 : w1.frozen? ⟨w.heap.size + 1, 6, none⟩ = false := br.frozen 6
  have fp7 : w1.cell? ⟨w.heap.size, 7, none⟩ = some (c7) := bp.cell 7
  have fo7 : w1.cell? ⟨w.heap.size + 1 + 1, 7, none⟩ = some (.slice none 0 0) := bo.cell 7
  have fr7 : w1.cell? ⟨w.heap.size + 1, 7, none⟩ = some (.slice none 0 0) := br.cell 7
  have zo7 : w1.frozen? ⟨w.heap.size + 1 + 1, 7, none⟩ = false := bo.frozen 7
  have zr7 : w1.frozen? ⟨w.heap.size + 1, 7, none⟩ = false := br.frozen 7
  have fp8 : w1.cell? ⟨w.heap.size, 8, none⟩ = some (c8) := bp.cell 8
  have fo8 : w1.cell? ⟨w.heap.size + 1 + 1, 8, none⟩ = some (.slice none 0 0) := bo.cell 8
  have fr8 : w1.cell? ⟨w.heap.size + 1, 8, none⟩ = some (.slice none 0 0) := br.cell 8
  have zo8 : w1.frozen? ⟨w.heap.size + 1 + 1, 8, none⟩ = false := bo.frozen 8
  have zr8 : w1.frozen? ⟨w.heap.size + 1, 8, none⟩ = false := br.frozen 8
  have fp9 : w1.cell? ⟨w.heap.size, 9, none⟩ = some (c9) := bp.cell 9
  have fo9 : w1.cell? ⟨w.heap.size + 1 + 1, 9, none⟩ = some (.slice none 0 0) := bo.cell 9
  have fr9 : w1.cell? ⟨w.heap.size + 1, 9, none⟩ = some (.slice none 0 0) := br.cell 9
  have zo9 : w1.frozen? ⟨w.heap.size + 1 + 1, 9, none⟩ = false := bo.frozen 9
  have zr9 : w1.frozen? ⟨w.heap.size + 1, 9, none⟩ = false := br.frozen 9
  have fp10 : w1.cell? ⟨w.heap.size, 10, none⟩ = some (.int .i64 x.data.freshUntil) := bp.cell 10
  have fo10 : w1.cell? ⟨w.heap.size + 1 + 1, 10, none⟩ = some (.int .i64 0) := bo.cell 10
  have fr10 : w1.cell? ⟨w.heap.size + 1, 10, none⟩ = some (.int .i64 0) := br.cell 10
  have zo10 : w1.frozen? ⟨w.heap.size + 1 + 1, 10, none⟩ = false := bo.frozen 10
  have zr10 : w1.frozen? ⟨w.heap.size + 1, 10, none⟩ = false := br.frozen 10
  have fp11 : w1.cell? ⟨w.heap.size, 11, none⟩ = some (.int .i64 x.data.signature) := bp.cell 11
  have fo11 : w1.cell? ⟨w.heap.size + 1 + 1, 11, none⟩ = some (.int .i64 0) := bo.cell 11
  have fr11 : w1.cell? ⟨w.heap.size + 1, 11, none⟩ = some (.int .i64 0) := br.cell 11
  have zo11 : w1.frozen? ⟨w.heap.size + 1 + 1, 11, none⟩ = false := bo.frozen 11
  have zr11 : w1.frozen? ⟨w.heap.size + 1, 11, none⟩ = false := br.frozen 11
  go_wp2
  refine bodyPost_ret (v := .agg #[.int .i64 x.dest, .int .i64 x.face, .bool x.isInterest, .slice A0_0 x.interest.name.length k0_0, .int .i64 x.interest.nonce, .int .i64 x.interest.hopLimit, .int .i64 x.interest.lifetime, .slice A1_0 x.data.name.length k1_0, .slice A1_1 x.data.content.length k1_1, .slice A1_2 x.data.keyName.length k1_2, .int .i64 x.data.freshUntil, .int .i64 x.data.signature]) (by simp [results, Tryz.results87, go_sem, fr0, fr1, fr2, fr3, fr4, fr5, fr6, fr7, fr8, fr9, fr10, fr11]) rfl ⟨⟨_, rfl, ?_⟩, ?_⟩
  · have hsz : ∀ (W : World) (p : Addr) (u : Value), (W.setCell p u).heap.size = W.heap.size := fun W p u => by simp [World.setCell]
    simp only [hsz]
    have QF := fun W => fun h : Fr (w.heap.size + 1 + 1 + 1) w1 W => h
    clear QF
    refine Shape.own.via ?_
    refine Shape.own.pair (lo := w.heap.size) (m := w.heap.size) (m' := w.heap.size) (cs := [_]) ?_ (by omega) ?_ (by omega) (by omega)
    · exact Shape.own_int r0
    refine Shape.own.pair (lo := w.heap.size) (m := w.heap.size) (m' := w.heap.size) (cs := [_]) ?_ (by omega) ?_ (by omega) (by omega)
    · exact Shape.own_int r1
    refine Shape.own.pair (lo := w.heap.size) (m := w.heap.size) (m' := w.heap.size) (cs := [_]) ?_ (by omega) ?_ (by omega) (by omega)
    · exact Shape.own_bool
    refine Shape.own.pair (lo := w.heap.size) (m := w0.heap.size) (m' := w0.heap.size) (cs := [_, _, _, _]) ?_ (by omega) ?_ (by omega) (by omega)
    · refine Shape.own.wide (lo := w.heap.size + 1 + 1 + 1) (hi := w0.heap.size) ?_ (by omega) (by omega)
      exact Shape.own.fr (N := w.heap.size + 1 + 1 + 1) (O0.fr Q1 (by omega) (by omega)) (by (repeat (refine Fr.setCell ?_ (by omega) _)); exact Fr.refl _ _) (by omega) (by omega)
    refine Shape.own.wide (lo := w0.heap.size) (hi := w1.heap.size) ?_ (by omega) (by omega)
    exact Shape.own.fr (N := w.heap.size + 1 + 1 + 1) O1 (by (repeat (refine Fr.setCell ?_ (by omega) _)); exact Fr.refl _ _) (by omega) (by omega)
  · (repeat (refine Ext.setCell ?_ (by omega) _)); exact E1

set_option maxHeartbeats 400000 in
theorem toPacketInFlightS_c (v : Value) (l : (List DPacketInFlight)) (w : World) (h : sPacketInFlightL.rd w [v] l) (hs : (szL szPacketInFlight) l ≤ 1048576) :
    Calls Tryz.prog 42 #[v] w (Gives sPacketInFlightL w l) := by
  obtain ⟨A, c, rfl, hl, hm⟩ := Shape.sl_form h
  unfold maxLen at hm
  have hlen := szL_len szPacketInFlight l
  have H := Lib.hid h; clear h
  obtain ⟨i0, hi, hz0, hz1, hz2⟩ := info_parts info_PacketInFlight
  go_enter Tryz.func42, Tryz.ntmps42
  go_wp2_with (refine wpList_make_full _ rfl _ _ 55 rfl w.heap.size 164 i0 _ 12 Tryz.underlying55 hi hz0 hz1 .i64 .i64 _ _ l.length rfl rfl rfl rfl (by rw [hz2]; omega) (by unfold maxLen; omega) (Nat.le_refl _) ?_; intro w1 hown hgr)
  have hF : Shape.Fill sPacketInFlight 164 w.heap.size l.length w1 [] := Shape.Fill.start (v := .bool true) hown
  have hX : Ext w w1 := (Ext.refl w).grown hgr (by simp)
  clear hown hgr hi hz0 hz1 hz2
  go_loopw [4] (fun i wr => ∃ k : Nat, k ≤ l.length ∧ i = .int .i64 k ∧ Shape.Fill sPacketInFlight 164 w.heap.size l.length wr (l.take k) ∧ Ext w wr) (fun i _ => l.length - (intOf i).toNat)
  case atStart => exact ⟨0, Nat.zero_le _, rfl, hF, hX⟩
  case round =>
    clear hF hX w1
    obtain ⟨k, hk, rfl, hF, hx⟩ := hrel
    by_cases hlt : k < l.length
    · have hkl : (l.take k).length = k := by rw [List.length_take]; omega
      have hroom := fun j hj => hF.room (by rw [hkl]; exact hlt) j hj
      rw [hkl] at hroom
      have hsz := szL_at szPacketInFlight l k hlt
      obtain ⟨b, off, es, rfl, hc, hr⟩ := Shape.sl_at (sPacketInFlightL.ext hx H.out) hlt
      have hr' := hr
      obtain ⟨c3, c7, c8, c9, rfl, r0, r1, r3, r4⟩ := sPacketInFlight_rd hr
      have f0 := hc 0 _ rfl
      have f1 := hc 1 _ rfl
      have f2 := hc 2 _ rfl
      have f3 := hc 3 _ rfl
      have f4 := hc 4 _ rfl
      have f5 := hc 5 _ rfl
      have f6 := hc 6 _ rfl
      have f7 := hc 7 _ rfl
      have f8 := hc 8 _ rfl
      have f9 := hc 9 _ rfl
      have f10 := hc 10 _ rfl
      have f11 := hc 11 _ rfl
      simp only [Nat.add_zero, show sPacketInFlight.k = 12 from rfl, Nat.mul_one] at f0 f1 f2 f3 f4 f5 f6 f7 f8 f9 f10 f11
      have HK := Lib.hid hkl; clear hkl hc
      go_wp2_with fail
      refine (toPacketInFlight_c _ l[k] _ hr' (by omega)).mono ?_
      rintro e w1 ⟨⟨r, rfl, hO⟩, hx1⟩
      obtain ⟨d3, d7, d8, d9, rfl, s0, s1, s3, s4⟩ := sPacketInFlight_rd hO.rd
      have hF1 := hF.ext hx1
      have hroom := fun j hj => hF1.room (by rw [HK.out]; exact hlt) j hj
      rw [HK.out] at hroom
      obtain ⟨⟨u0, hu0⟩, hz0⟩ := hroom 0 (by decide)
      obtain ⟨⟨u1, hu1⟩, hz1⟩ := hroom 1 (by decide)
      obtain ⟨⟨u2, hu2⟩, hz2⟩ := hroom 2 (by decide)
      obtain ⟨⟨u3, hu3⟩, hz3⟩ := hroom 3 (by decide)
      obtain ⟨⟨u4, hu4⟩, hz4⟩ := hroom 4 (by decide)
      obtain ⟨⟨u5, hu5⟩, hz5⟩ := hroom 5 (by decide)
      obtain ⟨⟨u6, hu6⟩, hz6⟩ := hroom 6 (by decide)
      obtain ⟨⟨u7, hu7⟩, hz7⟩ := hroom 7 (by decide)
      obtain ⟨⟨u8, hu8⟩, hz8⟩ := hroom 8 (by decide)
      obtain ⟨⟨u9, hu9⟩, hz9⟩ := hroom 9 (by decide)
      obtain ⟨⟨u10, hu10⟩, hz10⟩ := hroom 10 (by decide)
      obtain ⟨⟨u11, hu11⟩, hz11⟩ := hroom 11 (by decide)
      simp only [Nat.add_zero, show sPacketInFlight.k = 12 from rfl, Nat.mul_one] at hu0 hz0 hu1 hz1 hu2 hz2 hu3 hz3 hu4 hz4 hu5 hz5 hu6 hz6 hu7 hz7 hu8 hz8 hu9 hz9 hu10 hz10 hu11 hz11
      obtain ⟨A_3, k_3, rfl, _, _⟩ := Shape.sl_form (sInterest_f0 (sPacketInFlight_f3 hO.rd))
      obtain ⟨A_7, k_7, rfl, _, _⟩ := Shape.sl_form (sData_f0 (sPacketInFlight_f4 hO.rd))
      obtain ⟨A_8, k_8, rfl, _, _⟩ := Shape.sl_form (sData_f1 (sPacketInFlight_f4 hO.rd))
      obtain ⟨A_9, k_9, rfl, _, _⟩ := Shape.sl_form (sData_f2 (sPacketInFlight_f4 hO.rd))
      clear hroom
      have hg : w.heap.size < w1.heap.size := hF1.lt
      go_wp2
      have hkl := HK.out
      have hst := hF.step hx1 hO (by rw [hkl]; exact hlt)
      rw [hkl, ← List.take_succ_eq_append_getElem hlt] at hst
      go_roundw
      case rel => exact ⟨k + 1, by omega, by go_num, by simpa [Shape.putRow, show sPacketInFlight.k = 12 from rfl] using hst, (by (repeat (refine Ext.setCell ?_ (Nat.le_refl _) _)); exact hx.trans hx1)⟩
      case measure => simp [intOf]; omega
    · have : k = l.length := by omega
      subst this
      rw [List.take_length] at hF
      go_wp2
      go_ret
      exact ⟨⟨_, rfl, hF.done rfl (by unfold maxLen; omega)⟩, hx⟩

set_option maxHeartbeats 400000 in
theorem toConsumer_c (cs : List Value) (x : DConsumer) (w : World) (h : sConsumer.rd w cs x) (hs : szConsumer x ≤ 1048576) :
    Calls Tryz.prog 88 #[.agg cs.toArray] w (GivesA sConsumer w x) := by
  obtain ⟨c2, c6, c7, c8, rfl, r0, r1, r2, r3, r4, r6⟩ := sConsumer_rd h
  unfold szConsumer at hs
  go_enter Tryz.func88, Tryz.ntmps88
  go_wp2_with fail
  refine (toName_c _ x.name _ (strs.ext (by (repeat (refine Ext.setCell ?_ (by omega) _)); exact (((Ext.refl w).alloc _).alloc _).alloc _) r2) (by omega)).mono ?_
  rintro e w0 ⟨⟨r2', rfl, O0'⟩, hx0⟩
  have hn0 : w.heap.size + 1 + 1 + 1 ≤ w0.heap.size := by have := hx0.size; simpa [World.setCell] using this
  obtain ⟨d2, rfl⟩ := one_cell (strs.len O0'.rd)
  obtain ⟨A0, k0, rfl, _, _⟩ := Shape.sl_form O0'.rd
  have O0 : strs.own (w.heap.size + 1 + 1 + 1) w0.heap.size w0 [.slice A0 x.name.length k0] x.name := by simpa [World.setCell] using O0'
  clear O0'
  have bp : Blk w0 (w.heap.size) 153 #[.int .i64 x.node, .int .i64 x.index, c2, .int .i64 x.attempts, .int .i64 x.wait, .bool x.satisfied, c6, c7, c8, .int .i64 x.data.freshUntil, .int .i64 x.data.signature] := Blk.ext hx0 (by (repeat (refine Blk.far ?_ (by omega) _)); exact ((Blk.new w _ _).alloc _).alloc _)
  have br : Blk w0 (w.heap.size + 1) 103 #[.int .i64 0, .int .i64 0, .slice none 0 0, .int .i64 0, .int .i64 0, .bool false, .slice none 0 0, .slice none 0 0, .slice none 0 0, .int .i64 0, .int .i64 0] := Blk.ext hx0 (by (repeat (refine Blk.far ?_ (by omega) _)); exact (Blk.new_at (by simp)).alloc _)
  have bo : Blk w0 (w.heap.size + 1 + 1) 103 #[.int .i64 x.node, .int .i64 x.index, .slice none 0 0, .int .i64 0, .int .i64 0, .bool false, .slice none 0 0, .slice none 0 0, .slice none 0 0, .int .i64 0, .int .i64 0] := Blk.ext hx0 (Blk.new_at (by simp))
  have E0 : Ext w w0 := Ext.trans (by (repeat (refine Ext.setCell ?_ (by omega) _)); exact (((Ext.refl w).alloc _).alloc _).alloc _) hx0

  clear hx0
  have fp0 : w0.cell? ⟨w.heap.size, 0, none⟩ = some (.int .i64 x.node) := bp.cell 0
  have fo0 : w0.cell? ⟨w.heap.size + 1 + 1, 0, none⟩ = some (.int .i64 x.node) := bo.cell 0
  have fr0 : w0.cell? ⟨w.heap.size + 1, 0, none⟩ = some (.int .i64 0) := br.cell 0
  have zo0 : w0.frozen? ⟨w.heap.size + 1 + 1, 0, none⟩ = false := bo.frozen 0
  have zr0 : w0.frozen? ⟨w.heap.size + 1, 0, none⟩ = false := br.frozen 0
  have fp1 : w0.cell? ⟨w.heap.size, 1, none⟩ = some (.int .i64 x.index) := bp.cell 1
  have fo1 : w0.cell? ⟨w.heap.size + 1 + 1, 1, none⟩ = some (.int .i64 x.index) := bo.cell 1
  have fr1 : w0.cell? ⟨w.heap.size + 1, 1, none⟩ = some (.int .i64 0) := br.cell 1
  have zo1 : w0.frozen? ⟨w.heap.size + 1 + 1, 1, none⟩ = false := bo.frozen 1
  have zr1 : w0.frozen? ⟨w.heap.size + 1, 1, none⟩ = false := br.frozen 1
  have fp2 : w0.cell? ⟨w.heap.size, 2, none⟩ = some (c2) := bp.cell 2
  have fo2 : w0.cell? ⟨w.heap.size + 1 + 1, 2, none⟩ = some (.slice none 0 0) := bo.cell 2
  have fr2 : w0.cell? ⟨w.heap.size + 1, 2, none⟩ = some (.slice none 0 0) := br.cell 2
  have zo2 : w0.frozen? ⟨w.heap.size + 1 + 1, 2, none⟩ = false := bo.frozen 2
  have zr2 : w0.frozen? ⟨w.heap.size + 1, 2, none⟩ = false := br.frozen 2
  have fp3 : w0.cell? ⟨w.heap.size, 3, none⟩ = some (.int .i64 x.attempts) := bp.cell 3
  have fo3 : w0.cell? ⟨w.heap.size + 1 + 1, 3, none⟩ = some (.int .i64 0) := bo.cell 3
  have fr3 : w0.cell? ⟨w.heap.size + 1, 3, none⟩ = some (.int .i64 0) := br.cell 3
  have zo3 : w0.frozen? ⟨w.heap.size + 1 + 1, 3, none⟩ = false := bo.frozen 3
  have zr3 : w0.frozen? ⟨w.heap.size + 1, 3, none⟩ = false := br.frozen 3
  have fp4 : w0.cell? ⟨w.heap.size, 4, none⟩ = some (.int .i64 x.wait) := bp.cell 4
  have fo4 : w0.cell? ⟨w.heap.size + 1 + 1, 4, none⟩ = some (.int .i64 0) := bo.cell 4
  have fr4 : w0.cell? ⟨w.heap.size + 1, 4, none⟩ = some (.int .i64 0) := br.cell 4
  have zo4 : w0.frozen? ⟨w.heap.size + 1 + 1, 4, none⟩ = false := bo.frozen 4
  have zr4 : w0.frozen? ⟨w.heap.size + 1, 4, none⟩ = false := br.frozen 4
  have fp5 : w0.cell? ⟨w.heap.size, 5, none⟩ = some (.bool x.satisfied) := bp.cell 5
  have fo5 : w0.cell? ⟨w.heap.size + 1 + 1, 5, none⟩ = some (.bool false) := bo.cell 5
  have fr5 : w0.cell? ⟨w.heap.size + 1, 5, none⟩ = some (.bool false) := br.cell 5
  have zo5 : w0.frozen? ⟨w.heap.size + 1 + 1, 5, none⟩ = false := bo.frozen 5
  have zr5 : w0.frozen? ⟨w.heap.size + 1, 5, none⟩ = false := br.frozen 5
  have fp6 : w0.cell? ⟨w.heap.size, 6, none⟩ = some (c6) := bp.cell 6
  have fo6 : w0.cell? ⟨w.heap.size + 1 + 1, 6, none⟩ = some (.slice none 0 0) := bo.cell 6
  have fr6 : w0.cell? ⟨w.heap.size + 1, 6, none⟩ = some (.slice none 0 0) := br.cell 6
  have zo6 : w0.frozen? ⟨w.heap.size + 1 + 1, 6, none⟩ = false := bo.frozen 6
  have zr6 : w0.frozen? ⟨w.heap.size + 1, 6, none⟩ = false := br.frozen 6
  have fp7 : w0.cell? ⟨w.heap.size, 7, none⟩ = some (c7) := bp.cell 7
  have fo7 : w0.cell? ⟨w.heap.size + 1 + 1, 7, none⟩ = some (.slice none 0 0) := bo.cell 7
  have fr7 : w0.cell? ⟨w.heap.size + 1, 7, none⟩ = some (.slice none 0 0) := br.cell 7
  have zo7 : w0.frozen? ⟨w.heap.size + 1 + 1, 7, none⟩ = false := bo.frozen 7
  have zr7 : w0.frozen? ⟨w.heap.size + 1, 7, none⟩ = false := br.frozen 7
  have fp8 : w0.cell? ⟨w.heap.size, 8, none⟩ = some (c8) := bp.cell 8
  have fo8 : w0.cell? ⟨w.heap.size + 1 + 1, 8, none⟩ = some (.slice none 0 0) := bo.cell 8
  have fr8 : w0.cell? ⟨w.heap.size + 1, 8, none⟩ = some (.slice none 0 0) := br.cell 8
  have zo8 : w0.frozen? ⟨w.heap.size + 1 + 1, 8, none⟩ = false := bo.frozen 8
  have zr8 : w0.frozen? ⟨w.heap.size + 1, 8, none⟩ = false := br.frozen 8
  have fp9 : w0.cell? ⟨w.heap.size, 9, none⟩ = some (.int .i64 x.data.freshUntil) := bp.cell 9
  have fo9 : w0.cell? ⟨w.heap.size + 1 + 1, 9, none⟩ = some (.int .i64 0) := bo.cell 9
  have fr9 : w0.cell? ⟨w.heap.size + 1, 9, none⟩ = some (.int .i64 0) := br.cell 9
  have zo9 : w0.frozen? ⟨w.heap.size + 1 + 1, 9, none⟩ = false := bo.frozen 9
  have zr9 : w0.frozen? ⟨w.heap.size + 1, 9, none⟩ = false := br.frozen 9
  have fp10 : w0.cell? ⟨w.heap.size, 10, none⟩ = some (.int .i64 x.data.signature) := bp.cell 10
  have fo10 : w0.cell? ⟨w.heap.size + 1 + 1, 10, none⟩ = some (.int .i64 0) := bo.cell 10
  have fr10 : w0.cell? ⟨w.heap.size + 1, 10, none⟩ = some (.int .i64 0) := br.cell 10
  have zo10 : w0.frozen? ⟨w.heap.size + 1 + 1, 10, none⟩ = false := bo.frozen 10
  have zr10 : w0.frozen? ⟨w.heap.size + 1, 10, none⟩ = false := br.frozen 10
  go_wp2_with fail
  refine (toData_c _ x.data _ (sData.ext (by (repeat (refine Ext.setCell ?_ (by omega) _)); exact E0) r6) (by omega)).mono ?_
  rintro e w1 ⟨⟨r6', rfl, O1'⟩, hx1⟩
  have hn1 : w0.heap.size ≤ w1.heap.size := by have := hx1.size; simpa [World.setCell] using this
  obtain ⟨d6, d7, d8, rfl, y1_0, y1_1, y1_2, y1_3, y1_4⟩ := sData_rd O1'.rd
  obtain ⟨A1_0, k1_0, rfl, _, _⟩ := Shape.sl_form (sData_f0 O1'.rd)
  obtain ⟨A1_1, k1_1, rfl, _, _⟩ := Shape.sl_form (sData_f1 O1'.rd)
  obtain ⟨A1_2, k1_2, rfl, _, _⟩ := Shape.sl_form (sData_f2 O1'.rd)
  have O1 : sData.own (w0.heap.size) w1.heap.size w1 [.slice A1_0 x.data.name.length k1_0, .slice A1_1 x.data.content.length k1_1, .slice A1_2 x.data.keyName.length k1_2, .int .i64 x.data.freshUntil, .int .i64 x.data.signature] x.data := by simpa [World.setCell] using O1'
  clear O1'
  replace bp : Blk w1 (w.heap.size) 153 #[.int .i64 x.node, .int .i64 x.index, c2, .int .i64 x.attempts, .int .i64 x.wait, .bool x.satisfied, c6, c7, c8, .int .i64 x.data.freshUntil, .int .i64 x.data.signature] := Blk.ext hx1 (by (repeat (refine Blk.far ?_ (by omega) _)); exact bp)
  replace br : Blk w1 (w.heap.size + 1) 103 #[.int .i64 0, .int .i64 0, .slice none 0 0, .int .i64 0, .int .i64 0, .bool false, .slice none 0 0, .slice none 0 0, .slice none 0 0, .int .i64 0, .int .i64 0] := Blk.ext hx1 (by (repeat (refine Blk.far ?_ (by omega) _)); exact br)
  replace bo : Blk w1 (w.heap.size + 1 + 1) 103 #[.int .i64 x.node, .int .i64 x.index, .slice A0 x.name.length k0, .int .i64 x.attempts, .int .i64 x.wait, .bool x.satisfied, .slice none 0 0, .slice none 0 0, .slice none 0 0, .int .i64 0, .int .i64 0] := Blk.ext hx1 (by simpa using (Blk.set_ ((Blk.set_ ((Blk.set_ ((Blk.set_ (bo) 2 _)) 3 _)) 4 _)) 5 _))
  have E1 : Ext w w1 := Ext.trans (by (repeat (refine Ext.setCell ?_ (by omega) _)); exact E0) hx1
  have Q1 : Fr (w.heap.size + 1 + 1 + 1) w0 w1 := Fr.trans (by (repeat (refine Fr.setCell ?_ (by omega) _)); exact Fr.refl _ _) (Fr.ext hx1)
  clear hx1
  clear fp0 fo0 fr0 zo0 zr0 fp1 fo1 fr1 zo1 zr1 fp2 fo2 fr2 zo2 zr2 fp3 fo3 fr3 zo3 zr3 fp4 fo4 fr4 zo4 zr4 fp5 fo5 fr5 zo5 zr5 fp6 fo6 fr6 zo6 zr6 fp7 fo7 fr7 zo7 zr7 fp8 fo8 fr8 zo8 zr8 fp9 fo9 fr9 zo9 zr9 fp10 fo10 fr10 zo10 zr10
  have fp0 : w1.cell? ⟨w.heap.size, 0, none⟩ = some (.int .i64 x.node) := bp.cell 0
  have fo0 : w1.cell? ⟨w.heap.size + 1 + 1, 0, none⟩ = some (.int .i64 x.node) := bo.cell 0
  have fr0 : w1.cell? ⟨w.heap.size + 1, 0, none⟩ = some (.int .i64 0) := br.cell 0
  have zo0 : w1.frozen? ⟨w.heap.size + 1 + 1, 0, none⟩ = false := bo.frozen 0
  have zr0 : w1.frozen? ⟨w.heap.size + 1, 0, none⟩ = false := br.frozen 0
  have fp1 : w1.cell? ⟨w.heap.size, 1, none⟩ = some (.int .i64 x.index) := bp.cell 1
  have fo1 : w1.cell? ⟨w.heap.size + 1 + 1, 1, none⟩ = some (.int .i64 x.index) := bo.cell 1
  have fr1 : w1.cell? ⟨w.heap.size + 1, 1, none⟩ = some (.int .i64 0) := br.cell 1
  have zo1 : w1.frozen? ⟨w.heap.size + 1 + 1, 1, none⟩ = false := bo.frozen 1
  have zr1 : w1.frozen? ⟨w.heap.size + 1, 1, none⟩ = false := br.frozen 1
  have fp2 : w1.cell? ⟨w.heap.size, 2, none⟩ = some (c2) := bp.cell 2
  have fo2 : w1.cell? ⟨w.heap.size + 1 + 1, 2, none⟩ = some (.slice A0 x.name.length k0) := bo.cell 2
  have fr2 : w1.cell? ⟨w.heap.size + 1, 2, none⟩ = some (.slice none 0 0) := br.cell 2
  have zo2 : w1.frozen? ⟨w.heap.size + 1 + 1, 2, none⟩ = false := bo.frozen 2
  have zr2 : w1.frozen? ⟨w.heap.size + 1, 2, none⟩ = false := br.frozen 2
  have fp3 : w1.cell? ⟨w.heap.size, 3, none⟩ = some (.int .i64 x.attempts) := bp.cell 3
  have fo3 : w1.cell? ⟨w.heap.size + 1 + 1, 3, none⟩ = some (.int .i64 x.attempts) := bo.cell 3
  have fr3 : w1.cell? ⟨w.heap.size + 1, 3, none⟩ = some (.int .i64 0) := br.cell 3
  have zo3 : w1.frozen? ⟨w.heap.size + 1 + 1, 3, none⟩ = false := bo.frozen 3
  have zr3 : w1.frozen? ⟨w.heap.size + 1, 3, none⟩ = false := br.frozen 3
  have fp4 : w1.cell? ⟨w.heap.size, 4, none⟩ = some (.int .i64 x.wait) := bp.cell 4
  have fo4 : w1.cell? ⟨w.heap.size + 1 + 1, 4, none⟩ = some (.int .i64 x.wait) := bo.cell 4
  have fr4 : w1.cell? ⟨w.heap.size + 1, 4, none⟩ = some (.int .i64 0) := br.cell 4
  have zo4 : w1.frozen? ⟨w.heap.size + 1 + 1, 4, none⟩ = false := bo.frozen 4
  have zr4 : w1.frozen? ⟨w.heap.size + 1, 4, none⟩ = false := br.frozen 4
  have fp5 : w1.cell? ⟨w.heap.size, 5, none⟩ = some (.bool x.satisfied) := bp.cell 5
  have fo5 : w1.cell? ⟨w.heap.size + 1 + 1, 5, none⟩ = some (.bool x.satisfied) := bo.cell 5
  have fr5 : w1.cell? ⟨w.heap.size + 1, 5, none⟩ = some (.bool false) := br.cell 5
  have zo5 : w1.frozen? ⟨w.heap.size + 1 + 1, 5, none⟩ = false := bo.frozen 5
  have zr5 : w1.frozen? ⟨w.heap.size + 1, 5, none⟩ = false := br.frozen 5
  have fp6 : w1.cell? ⟨w.heap.size, 6, none⟩ = some (c6) := bp.cell 6
  have fo6 : w1.cell? ⟨w.heap.size + 1 + 1, 6, none⟩ = some (.slice none 0 0) := bo.cell 6
  have fr6 : w1.cell? ⟨w.heap.size + 1, 6, none⟩ = some (.slice none 0 0) := br.cell 6
  have zo6 : w1.frozen? ⟨w.heap.size + 1 + 1, 6, none⟩ = false := bo.frozen 6
  have zr6 : w1.frozen? ⟨w.heap.size + 1, 6, none⟩ = false := br.frozen 6
  have fp7 : w1.cell? ⟨w.heap.size, 7, none⟩ = some (c7) := bp.cell 7
  have fo7 : w1.cell? ⟨w.heap.size + 1 + 1, 7, none⟩ = some (.slice none 0 0) := bo.cell 7
  have fr7 : w1.cell? ⟨w.heap.size + 1, 7, none⟩ = some (.slice none 0 0) := br.cell 7
  have zo7 : w1.frozen? ⟨w.heap.size + 1 + 1, 7, none⟩ = false := bo.frozen 7
  have zr7 : w1.frozen? ⟨w.heap.size + 1, 7, none⟩ = false := br.frozen 7
  have fp8 : w1.cell? ⟨w.heap.size, 8, none⟩ = some (c8) := bp.cell 8
  have fo8 : w1.cell? ⟨w.heap.size + 1 + 1, 8, none⟩ = some (.slice none 0 0) := bo.cell 8
  have fr8 : w1.cell? ⟨w.heap.size + 1, 8, none⟩ = some (.slice none 0 0) := br.cell 8
  have zo8 : w1.frozen? ⟨w.heap.size + 1 + 1, 8, none⟩ = false := bo.frozen 8
  have zr8 : w1.frozen? ⟨w.heap.size + 1, 8, none⟩ = false := br.frozen 8
  have fp9 : w1.cell? ⟨w.heap.size, 9, none⟩ = some (.int .i64 x.data.freshUntil) := bp.cell 9
  have fo9 : w1.cell? ⟨w.heap.size + 1 + 1, 9, none⟩ = some (.int .i64 0) := bo.cell 9
  have fr9 : w1.cell? ⟨w.heap.size + 1, 9, none⟩ = some (.int .i64 0) := br.cell 9
  have zo9 : w1.frozen? ⟨w.heap.size + 1 + 1, 9, none⟩ = false := bo.frozen 9
  have zr9 : w1.frozen? ⟨w.heap.size + 1, 9, none⟩ = false := br.frozen 9
  have fp10 : w1.cell? ⟨w.heap.size, 10, none⟩ = some (.int .i64 x.data.signature) := bp.cell 10
  have fo10 : w1.cell? ⟨w.heap.size + 1 + 1, 10, none⟩ = some (.int .i64 0) := bo.cell 10
  have fr10 : w1.cell? ⟨w.heap.size + 1, 10, none⟩ = some (.int .i64 0) := br.cell 10
  have zo10 : w1.frozen? ⟨w.heap.size + 1 + 1, 10, none⟩ = false := bo.frozen 10
  have zr10 : w1.frozen? ⟨w.heap.size + 1, 10, none⟩ = false := br.frozen 10
  go_wp2
  refine bodyPost_ret (v := .agg #[.int .i64 x.node, .int .i64 x.index, .slice A0 x.name.length k0, .int .i64 x.attempts, .int .i64 x.wait, .bool x.satisfied, .slice A1_0 x.data.name.length k1_0, .slice A1_1 x.data.content.length k1_1, .slice A1_2 x.data.keyName.length k1_2, .int .i64 x.data.freshUntil, .int .i64 x.data.signature]) (by simp [results, Tryz.results88, go_sem, fr0, fr1, fr2, fr3, fr4, fr5, fr6, fr7, fr8, fr9, fr10]) rfl ⟨⟨_, rfl, ?_⟩, ?_⟩
  · have hsz : ∀ (W : World) (p : Addr) (u : Value), (W.setCell p u).heap.size = W.heap.size := fun W p u => by simp [World.setCell]
    simp only [hsz]
    have QF := fun W => fun h : Fr (w.heap.size + 1 + 1 + 1) w1 W => h
    clear QF
    refine Shape.own.via ?_
    refine Shape.own.pair (lo := w.heap.size) (m := w.heap.size) (m' := w.heap.size) (cs := [_]) ?_ (by omega) ?_ (by omega) (by omega)
    · exact Shape.own_int r0
    refine Shape.own.pair (lo := w.heap.size) (m := w.heap.size) (m' := w.heap.size) (cs := [_]) ?_ (by omega) ?_ (by omega) (by omega)
    · exact Shape.own_int r1
    refine Shape.own.pair (lo := w.heap.size) (m := w0.heap.size) (m' := w0.heap.size) (cs := [_]) ?_ (by omega) ?_ (by omega) (by omega)
    · refine Shape.own.wide (lo := w.heap.size + 1 + 1 + 1) (hi := w0.heap.size) ?_ (by omega) (by omega)
      exact Shape.own.fr (N := w.heap.size + 1 + 1 + 1) (O0.fr Q1 (by omega) (by omega)) (by (repeat (refine Fr.setCell ?_ (by omega) _)); exact Fr.refl _ _) (by omega) (by omega)
    refine Shape.own.pair (lo := w0.heap.size) (m := w0.heap.size) (m' := w0.heap.size) (cs := [_]) ?_ (by omega) ?_ (by omega) (by omega)
    · exact Shape.own_int r3
    refine Shape.own.pair (lo := w0.heap.size) (m := w0.heap.size) (m' := w0.heap.size) (cs := [_]) ?_ (by omega) ?_ (by omega) (by omega)
    · exact Shape.own_int r4
    refine Shape.own.pair (lo := w0.heap.size) (m := w0.heap.size) (m' := w0.heap.size) (cs := [_]) ?_ (by omega) ?_ (by omega) (by omega)
    · exact Shape.own_bool
    refine Shape.own.wide (lo := w0.heap.size) (hi := w1.heap.size) ?_ (by omega) (by omega)
    exact Shape.own.fr (N := w.heap.size + 1 + 1 + 1) O1 (by (repeat (refine Fr.setCell ?_ (by omega) _)); exact Fr.refl _ _) (by omega) (by omega)
  · (repeat (refine Ext.setCell ?_ (by omega) _)); exact E1

set_option maxHeartbeats 400000 in
theorem toConsumerS_c (v : Value) (l : (List DConsumer)) (w : World) (h : sConsumerL.rd w [v] l) (hs : (szL szConsumer) l ≤ 1048576) :
    Calls Tryz.prog 43 #[v] w (Gives sConsumerL w l) := by
  obtain ⟨A, c, rfl, hl, hm⟩ := Shape.sl_form h
  unfold maxLen at hm
  have hlen := szL_len szConsumer l
  have H := Lib.hid h; clear h
  obtain ⟨i0, hi, hz0, hz1, hz2⟩ := info_parts info_Consumer
  go_enter Tryz.func43, Tryz.ntmps43
  go_wp2_with (refine wpList_make_full _ rfl _ _ 56 rfl w.heap.size 103 i0 _ 11 Tryz.underlying56 hi hz0 hz1 .i64 .i64 _ _ l.length rfl rfl rfl rfl (by rw [hz2]; omega) (by unfold maxLen; omega) (Nat.le_refl _) ?_; intro w1 hown hgr)
  have hF : Shape.Fill sConsumer 103 w.heap.size l.length w1 [] := Shape.Fill.start (v := .bool true) hown
  have hX : Ext w w1 := (Ext.refl w).grown hgr (by simp)
  clear hown hgr hi hz0 hz1 hz2
  go_loopw [4] (fun i wr => ∃ k : Nat, k ≤ l.length ∧ i = .int .i64 k ∧ Shape.Fill sConsumer 103 w.heap.size l.length wr (l.take k) ∧ Ext w wr) (fun i _ => l.length - (intOf i).toNat)
  case atStart => exact ⟨0, Nat.zero_le _, rfl, hF, hX⟩
  case round =>
    clear hF hX w1
    obtain ⟨k, hk, rfl, hF, hx⟩ := hrel
    by_cases hlt : k < l.length
    · have hkl : (l.take k).length = k := by rw [List.length_take]; omega
      have hroom := fun j hj => hF.room (by rw [hkl]; exact hlt) j hj
      rw [hkl] at hroom
      have hsz := szL_at szConsumer l k hlt
      obtain ⟨b, off, es, rfl, hc, hr⟩ := Shape.sl_at (sConsumerL.ext hx H.out) hlt
      have hr' := hr
      obtain ⟨c2, c6, c7, c8, rfl, r0, r1, r2, r3, r4, r6⟩ := sConsumer_rd hr
      have f0 := hc 0 _ rfl
      have f1 := hc 1 _ rfl
      have f2 := hc 2 _ rfl
      have f3 := hc 3 _ rfl
      have f4 := hc 4 _ rfl
      have f5 := hc 5 _ rfl
      have f6 := hc 6 _ rfl
      have f7 := hc 7 _ rfl
      have f8 := hc 8 _ rfl
      have f9 := hc 9 _ rfl
      have f10 := hc 10 _ rfl
      simp only [Nat.add_zero, show sConsumer.k = 11 from rfl, Nat.mul_one] at f0 f1 f2 f3 f4 f5 f6 f7 f8 f9 f10
      have HK := Lib.hid hkl; clear hkl hc
      go_wp2_with fail
      refine (toConsumer_c _ l[k] _ hr' (by omega)).mono ?_
      rintro e w1 ⟨⟨r, rfl, hO⟩, hx1⟩
      obtain ⟨d2, d6, d7, d8, rfl, s0, s1, s2, s3, s4, s6⟩ := sConsumer_rd hO.rd
      have hF1 := hF.ext hx1
      have hroom := fun j hj => hF1.room (by rw [HK.out]; exact hlt) j hj
      rw [HK.out] at hroom
      obtain ⟨⟨u0, hu0⟩, hz0⟩ := hroom 0 (by decide)
      obtain ⟨⟨u1, hu1⟩, hz1⟩ := hroom 1 (by decide)
      obtain ⟨⟨u2, hu2⟩, hz2⟩ := hroom 2 (by decide)
      obtain ⟨⟨u3, hu3⟩, hz3⟩ := hroom 3 (by decide)
      obtain ⟨⟨u4, hu4⟩, hz4⟩ := hroom 4 (by decide)
      obtain ⟨⟨u5, hu5⟩, hz5⟩ := hroom 5 (by decide)
      obtain ⟨⟨u6, hu6⟩, hz6⟩ := hroom 6 (by decide)
      obtain ⟨⟨u7, hu7⟩, hz7⟩ := hroom 7 (by decide)
      obtain ⟨⟨u8, hu8⟩, hz8⟩ := hroom 8 (by decide)
      obtain ⟨⟨u9, hu9⟩, hz9⟩ := hroom 9 (by decide)
      obtain ⟨⟨u10, hu10⟩, hz10⟩ := hroom 10 (by decide)
      simp only [Nat.add_zero, show sConsumer.k = 11 from rfl, Nat.mul_one] at hu0 hz0 hu1 hz1 hu2 hz2 hu3 hz3 hu4 hz4 hu5 hz5 hu6 hz6 hu7 hz7 hu8 hz8 hu9 hz9 hu10 hz10
      obtain ⟨A_2, k_2, rfl, _, _⟩ := Shape.sl_form (sConsumer_f2 hO.rd)
      obtain ⟨A_6, k_6, rfl, _, _⟩ := Shape.sl_form (sData_f0 (sConsumer_f6 hO.rd))
      obtain ⟨A_7, k_7, rfl, _, _⟩ := Shape.sl_form (sData_f1 (sConsumer_f6 hO.rd))
      obtain ⟨A_8, k_8, rfl, _, _⟩ := Shape.sl_form (sData_f2 (sConsumer_f6 hO.rd))
      clear hroom
      have hg : w.heap.size < w1.heap.size := hF1.lt
      go_wp2
      have hkl := HK.out
      have hst := hF.step hx1 hO (by rw [hkl]; exact hlt)
      rw [hkl, ← List.take_succ_eq_append_getElem hlt] at hst
      go_roundw
      case rel => exact ⟨k + 1, by omega, by go_num, by simpa [Shape.putRow, show sConsumer.k = 11 from rfl] using hst, (by (repeat (refine Ext.setCell ?_ (Nat.le_refl _) _)); exact hx.trans hx1)⟩
      case measure => simp [intOf]; omega
    · have : k = l.length := by omega
      subst this
      rw [List.take_length] at hF
      go_wp2
      go_ret
      exact ⟨⟨_, rfl, hF.done rfl (by unfold maxLen; omega)⟩, hx⟩

set_option maxHeartbeats 400000 in
theorem toNetwork_c (cs : List Value) (x : DNetwork) (w : World) (h : sNetwork.rd w cs x) (hs : szNetwork x ≤ 1048576) :
    Calls Tryz.prog 10 #[.agg cs.toArray] w (GivesA sNetwork w x) := by
  obtain ⟨c1, c2, c3, c4, c5, c6, c7, c9, c10, c11, rfl, r0, r1, r2, r3, r4, r5, r6, r7, r8, r9⟩ := sNetwork_rd h
  unfold szNetwork at hs
  go_enter Tryz.func10, Tryz.ntmps10
  go_wp2_with fail
  refine (toTopology_c _ x.topology _ (sTopology.ext (by (repeat (refine Ext.setCell ?_ (by omega) _)); exact (((Ext.refl w).alloc _).alloc _).alloc _) r0) (by omega)).mono ?_
  rintro e w0 ⟨⟨r0', rfl, O0'⟩, hx0⟩
  have hn0 : w.heap.size + 1 + 1 + 1 ≤ w0.heap.size := by have := hx0.size; simpa [World.setCell] using this
  obtain ⟨d1, rfl, y0_0, y0_1⟩ := sTopology_rd O0'.rd
  obtain ⟨A0_1, k0_1, rfl, _, _⟩ := Shape.sl_form (sTopology_f1 O0'.rd)
  have O0 : sTopology.own (w.heap.size + 1 + 1 + 1) w0.heap.size w0 [.int .i64 x.topology.size, .slice A0_1 x.topology.links.length k0_1] x.topology := by simpa [World.setCell] using O0'
  clear O0'
  have bp : Blk w0 (w.heap.size) 37 #[.int .i64 x.topology.size, c1, c2, c3, c4, c5, c6, c7, .int .i64 x.downNodes, c9, c10, c11, .int .i64 x.now, .int .i64 x.dropped] := Blk.ext hx0 (by (repeat (refine Blk.far ?_ (by omega) _)); exact ((Blk.new w _ _).alloc _).alloc _)
  have br : Blk w0 (w.heap.size + 1) 58 #[.int .i64 0, .slice none 0 0, .slice none 0 0, .slice none 0 0, .slice none 0 0, .slice none 0 0, .slice none 0 0, .slice none 0 0, .int .i64 0, .slice none 0 0, .slice none 0 0, .slice none 0 0, .int .i64 0, .int .i64 0] := Blk.ext hx0 (by (repeat (refine Blk.far ?_ (by omega) _)); exact (Blk.new_at (by simp)).alloc _)
  have bo : Blk w0 (w.heap.size + 1 + 1) 58 #[.int .i64 0, .slice none 0 0, .slice none 0 0, .slice none 0 0, .slice none 0 0, .slice none 0 0, .slice none 0 0, .slice none 0 0, .int .i64 0, .slice none 0 0, .slice none 0 0, .slice none 0 0, .int .i64 0, .int .i64 0] := Blk.ext hx0 (Blk.new_at (by simp))
  have E0 : Ext w w0 := Ext.trans (by (repeat (refine Ext.setCell ?_ (by omega) _)); exact (((Ext.refl w).alloc _).alloc _).alloc _) hx0

  clear hx0
  have fp0 : w0.cell? ⟨w.heap.size, 0, none⟩ = some (.int .i64 x.topology.size) := bp.cell 0
  have fo0 : w0.cell? ⟨w.heap.size + 1 + 1, 0, none⟩ = some (.int .i64 0) := bo.cell 0
  have fr0 : w0.cell? ⟨w.heap.size + 1, 0, none⟩ = some (.int .i64 0) := br.cell 0
  have zo0 : w0.frozen? ⟨w.heap.size + 1 + 1, 0, none⟩ = false := bo.frozen 0
  have zr0 : w0.frozen? ⟨w.heap.size + 1, 0, none⟩ = false := br.frozen 0
  have fp1 : w0.cell? ⟨w.heap.size, 1, none⟩ = some (c1) := bp.cell 1
  have fo1 : w0.cell? ⟨w.heap.size + 1 + 1, 1, none⟩ = some (.slice none 0 0) := bo.cell 1
  have fr1 : w0.cell? ⟨w.heap.size + 1, 1, none⟩ = some (.slice none 0 0) := br.cell 1
  have zo1 : w0.frozen? ⟨w.heap.size + 1 + 1, 1, none⟩ = false := bo.frozen 1
  have zr1 : w0.frozen? ⟨w.heap.size + 1, 1, none⟩ = false := br.frozen 1
  have fp2 : w0.cell? ⟨w.heap.size, 2, none⟩ = some (c2) := bp.cell 2
  have fo2 : w0.cell? ⟨w.heap.size + 1 + 1, 2, none⟩ = some (.slice none 0 0) := bo.cell 2
  have fr2 : w0.cell? ⟨w.heap.size + 1, 2, none⟩ = some (.slice none 0 0) := br.cell 2
  have zo2 : w0.frozen? ⟨w.heap.size + 1 + 1, 2, none⟩ = false := bo.frozen 2
  have zr2 : w0.frozen? ⟨w.heap.size + 1, 2, none⟩ = false := br.frozen 2
  have fp3 : w0.cell? ⟨w.heap.size, 3, none⟩ = some (c3) := bp.cell 3
  have fo3 : w0.cell? ⟨w.heap.size + 1 + 1, 3, none⟩ = some (.slice none 0 0) := bo.cell 3
  have fr3 : w0.cell? ⟨w.heap.size + 1, 3, none⟩ = some (.slice none 0 0) := br.cell 3
  have zo3 : w0.frozen? ⟨w.heap.size + 1 + 1, 3, none⟩ = false := bo.frozen 3
  have zr3 : w0.frozen? ⟨w.heap.size + 1, 3, none⟩ = false := br.frozen 3
  have fp4 : w0.cell? ⟨w.heap.size, 4, none⟩ = some (c4) := bp.cell 4
  have fo4 : w0.cell? ⟨w.heap.size + 1 + 1, 4, none⟩ = some (.slice none 0 0) := bo.cell 4
  have fr4 : w0.cell? ⟨w.heap.size + 1, 4, none⟩ = some (.slice none 0 0) := br.cell 4
  have zo4 : w0.frozen? ⟨w.heap.size + 1 + 1, 4, none⟩ = false := bo.frozen 4
  have zr4 : w0.frozen? ⟨w.heap.size + 1, 4, none⟩ = false := br.frozen 4
  have fp5 : w0.cell? ⟨w.heap.size, 5, none⟩ = some (c5) := bp.cell 5
  have fo5 : w0.cell? ⟨w.heap.size + 1 + 1, 5, none⟩ = some (.slice none 0 0) := bo.cell 5
  have fr5 : w0.cell? ⟨w.heap.size + 1, 5, none⟩ = some (.slice none 0 0) := br.cell 5
  have zo5 : w0.frozen? ⟨w.heap.size + 1 + 1, 5, none⟩ = false := bo.frozen 5
  have zr5 : w0.frozen? ⟨w.heap.size + 1, 5, none⟩ = false := br.frozen 5
  have fp6 : w0.cell? ⟨w.heap.size, 6, none⟩ = some (c6) := bp.cell 6
  have fo6 : w0.cell? ⟨w.heap.size + 1 + 1, 6, none⟩ = some (.slice none 0 0) := bo.cell 6
  have fr6 : w0.cell? ⟨w.heap.size + 1, 6, none⟩ = some (.slice none 0 0) := br.cell 6
  have zo6 : w0.frozen? ⟨w.heap.size + 1 + 1, 6, none⟩ = false := bo.frozen 6
  have zr6 : w0.frozen? ⟨w.heap.size + 1, 6, none⟩ = false := br.frozen 6
  have fp7 : w0.cell? ⟨w.heap.size, 7, none⟩ = some (c7) := bp.cell 7
  have fo7 : w0.cell? ⟨w.heap.size + 1 + 1, 7, none⟩ = some (.slice none 0 0) := bo.cell 7
  have fr7 : w0.cell? ⟨w.heap.size + 1, 7, none⟩ = some (.slice none 0 0) := br.cell 7
  have zo7 : w0.frozen? ⟨w.heap.size + 1 + 1, 7, none⟩ = false := bo.frozen 7
  have zr7 : w0.frozen? ⟨w.heap.size + 1, 7, none⟩ = false := br.frozen 7
  have fp8 : w0.cell? ⟨w.heap.size, 8, none⟩ = some (.int .i64 x.downNodes) := bp.cell 8
  have fo8 : w0.cell? ⟨w.heap.size + 1 + 1, 8, none⟩ = some (.int .i64 0) := bo.cell 8
  have fr8 : w0.cell? ⟨w.heap.size + 1, 8, none⟩ = some (.int .i64 0) := br.cell 8
  have zo8 : w0.frozen? ⟨w.heap.size + 1 + 1, 8, none⟩ = false := bo.frozen 8
  have zr8 : w0.frozen? ⟨w.heap.size + 1, 8, none⟩ = false := br.frozen 8
  have fp9 : w0.cell? ⟨w.heap.size, 9, none⟩ = some (c9) := bp.cell 9
  have fo9 : w0.cell? ⟨w.heap.size + 1 + 1, 9, none⟩ = some (.slice none 0 0) := bo.cell 9
  have fr9 : w0.cell? ⟨w.heap.size + 1, 9, none⟩ = some (.slice none 0 0) := br.cell 9
  have zo9 : w0.frozen? ⟨w.heap.size + 1 + 1, 9, none⟩ = false := bo.frozen 9
  have zr9 : w0.frozen? ⟨w.heap.size + 1, 9, none⟩ = false := br.frozen 9
  have fp10 : w0.cell? ⟨w.heap.size, 10, none⟩ = some (c10) := bp.cell 10
  have fo10 : w0.cell? ⟨w.heap.size + 1 + 1, 10, none⟩ = some (.slice none 0 0) := bo.cell 10
  have fr10 : w0.cell? ⟨w.heap.size + 1, 10, none⟩ = some (.slice none 0 0) := br.cell 10
  have zo10 : w0.frozen? ⟨w.heap.size + 1 + 1, 10, none⟩ = false := bo.frozen 10
  have zr10 : w0.frozen? ⟨w.heap.size + 1, 10, none⟩ = false := br.frozen 10
  have fp11 : w0.cell? ⟨w.heap.size, 11, none⟩ = some (c11) := bp.cell 11
  have fo11 : w0.cell? ⟨w.heap.size + 1 + 1, 11, none⟩ = some (.slice none 0 0) := bo.cell 11
  have fr11 : w0.cell? ⟨w.heap.size + 1, 11, none⟩ = some (.slice none 0 0) := br.cell 11
  have zo11 : w0.frozen? ⟨w.heap.size + 1 + 1, 11, none⟩ = false := bo.frozen 11
  have zr11 : w0.frozen? ⟨w.heap.size + 1, 11, none⟩ = false := br.frozen 11
  have fp12 : w0.cell? ⟨w.heap.size, 12, none⟩ = some (.int .i64 x.now) := bp.cell 12
  have fo12 : w0.cell? ⟨w.heap.size + 1 + 1, 12, none⟩ = some (.int .i64 0) := bo.cell 12
  have fr12 : w0.cell? ⟨w.heap.size + 1, 12, none⟩ = some (.int .i64 0) := br.cell 12
  have zo12 : w0.frozen? ⟨w.heap.size + 1 + 1, 12, none⟩ = false := bo.frozen 12
  have zr12 : w0.frozen? ⟨w.heap.size + 1, 12, none⟩ = false := br.frozen 12
  have fp13 : w0.cell? ⟨w.heap.size, 13, none⟩ = some (.int .i64 x.dropped) := bp.cell 13
  have fo13 : w0.cell? ⟨w.heap.size + 1 + 1, 13, none⟩ = some (.int .i64 0) := bo.cell 13
  have fr13 : w0.cell? ⟨w.heap.size + 1, 13, none⟩ = some (.int .i64 0) := br.cell 13
  have zo13 : w0.frozen? ⟨w.heap.size + 1 + 1, 13, none⟩ = false := bo.frozen 13
  have zr13 : w0.frozen? ⟨w.heap.size + 1, 13, none⟩ = false := br.frozen 13
  go_wp2_with fail
  refine (toTrustPolicy_c _ x.trust _ (sTrustPolicy.ext (by (repeat (refine Ext.setCell ?_ (by omega) _)); exact E0) r1) (by omega)).mono ?_
  rintro e w1 ⟨⟨r1', rfl, O1'⟩, hx1⟩
  have hn1 : w0.heap.size ≤ w1.heap.size := by have := hx1.size; simpa [World.setCell] using this
  obtain ⟨d2, d3, d4, d5, rfl, y1_0, y1_1, y1_2, y1_3⟩ := sTrustPolicy_rd O1'.rd
  obtain ⟨A1_0, k1_0, rfl, _, _⟩ := Shape.sl_form (sTrustPolicy_f0 O1'.rd)
  obtain ⟨A1_1, k1_1, rfl, _, _⟩ := Shape.sl_form (sTrustPolicy_f1 O1'.rd)
  obtain ⟨A1_2, k1_2, rfl, _, _⟩ := Shape.sl_form (sTrustPolicy_f2 O1'.rd)
  obtain ⟨A1_3, k1_3, rfl, _, _⟩ := Shape.sl_form (sTrustPolicy_f3 O1'.rd)
  have O1 : sTrustPolicy.own (w0.heap.size) w1.heap.size w1 [.slice A1_0 x.trust.keys.length k1_0, .slice A1_1 x.trust.rules.length k1_1, .slice A1_2 x.trust.anchors.length k1_2, .slice A1_3 x.trust.certificates.length k1_3] x.trust := by simpa [World.setCell] using O1'
  clear O1'
  replace bp : Blk w1 (w.heap.size) 37 #[.int .i64 x.topology.size, c1, c2, c3, c4, c5, c6, c7, .int .i64 x.downNodes, c9, c10, c11, .int .i64 x.now, .int .i64 x.dropped] := Blk.ext hx1 (by (repeat (refine Blk.far ?_ (by omega) _)); exact bp)
  replace br : Blk w1 (w.heap.size + 1) 58 #[.int .i64 0, .slice none 0 0, .slice none 0 0, .slice none 0 0, .slice none 0 0, .slice none 0 0, .slice none 0 0, .slice none 0 0, .int .i64 0, .slice none 0 0, .slice none 0 0, .slice none 0 0, .int .i64 0, .int .i64 0] := Blk.ext hx1 (by (repeat (refine Blk.far ?_ (by omega) _)); exact br)
  replace bo : Blk w1 (w.heap.size + 1 + 1) 58 #[.int .i64 x.topology.size, .slice A0_1 x.topology.links.length k0_1, .slice none 0 0, .slice none 0 0, .slice none 0 0, .slice none 0 0, .slice none 0 0, .slice none 0 0, .int .i64 0, .slice none 0 0, .slice none 0 0, .slice none 0 0, .int .i64 0, .int .i64 0] := Blk.ext hx1 (by simpa using (Blk.set_ ((Blk.set_ (bo) 0 _)) 1 _))
  have E1 : Ext w w1 := Ext.trans (by (repeat (refine Ext.setCell ?_ (by omega) _)); exact E0) hx1
  have Q1 : Fr (w.heap.size + 1 + 1 + 1) w0 w1 := Fr.trans (by (repeat (refine Fr.setCell ?_ (by omega) _)); exact Fr.refl _ _) (Fr.ext hx1)
  clear hx1
  clear fp0 fo0 fr0 zo0 zr0 fp1 fo1 fr1 zo1 zr1 fp2 fo2 fr2 zo2 zr2 fp3 fo3 fr3 zo3 zr3 fp4 fo4 fr4 zo4 zr4 fp5 fo5 fr5 zo5 zr5 fp6 fo6 fr6 zo6 zr6 fp7 fo7 fr7 zo7 zr7 fp8 fo8 fr8 zo8 zr8 fp9 fo9 fr9 zo9 zr9 fp10 fo10 fr10 zo10 zr10 fp11 fo11 fr11 zo11 zr11 fp12 fo12 fr12 zo12 zr12 fp13 fo13 fr13 zo13 zr13
  have fp0 : w1.cell? ⟨w.heap.size, 0, none⟩ = some (.int .i64 x.topology.size) := bp.cell 0
  have fo0 : w1.cell? ⟨w.heap.size + 1 + 1, 0, none⟩ = some (.int .i64 x.topology.size) := bo.cell 0
  have fr0 : w1.cell? ⟨w.heap.size + 1, 0, none⟩ = some (.int .i64 0) := br.cell 0
  have zo0 : w1.frozen? ⟨w.heap.size + 1 + 1, 0, none⟩ = false := bo.frozen 0
  have zr0 : w1.frozen? ⟨w.heap.size + 1, 0, none⟩ = false := br.frozen 0
  have fp1 : w1.cell? ⟨w.heap.size, 1, none⟩ = some (c1) := bp.cell 1
  have fo1 : w1.cell? ⟨w.heap.size + 1 + 1, 1, none⟩ = some (.slice A0_1 x.topology.links.length k0_1) := bo.cell 1
  have fr1 : w1.cell? ⟨w.heap.size + 1, 1, none⟩ = some (.slice none 0 0) := br.cell 1
  have zo1 : w1.frozen? ⟨w.heap.size + 1 + 1, 1, none⟩ = false := bo.frozen 1
  have zr1 : w1.frozen? ⟨w.heap.size + 1, 1, none⟩ = false := br.frozen 1
  have fp2 : w1.cell? ⟨w.heap.size, 2, none⟩ = some (c2) := bp.cell 2
  have fo2 : w1.cell? ⟨w.heap.size + 1 + 1, 2, none⟩ = some (.slice none 0 0) := bo.cell 2
  have fr2 : w1.cell? ⟨w.heap.size + 1, 2, none⟩ = some (.slice none 0 0) := br.cell 2
  have zo2 : w1.frozen? ⟨w.heap.size + 1 + 1, 2, none⟩ = false := bo.frozen 2
  have zr2 : w1.frozen? ⟨w.heap.size + 1, 2, none⟩ = false := br.frozen 2
  have fp3 : w1.cell? ⟨w.heap.size, 3, none⟩ = some (c3) := bp.cell 3
  have fo3 : w1.cell? ⟨w.heap.size + 1 + 1, 3, none⟩ = some (.slice none 0 0) := bo.cell 3
  have fr3 : w1.cell? ⟨w.heap.size + 1, 3, none⟩ = some (.slice none 0 0) := br.cell 3
  have zo3 : w1.frozen? ⟨w.heap.size + 1 + 1, 3, none⟩ = false := bo.frozen 3
  have zr3 : w1.frozen? ⟨w.heap.size + 1, 3, none⟩ = false := br.frozen 3
  have fp4 : w1.cell? ⟨w.heap.size, 4, none⟩ = some (c4) := bp.cell 4
  have fo4 : w1.cell? ⟨w.heap.size + 1 + 1, 4, none⟩ = some (.slice none 0 0) := bo.cell 4
  have fr4 : w1.cell? ⟨w.heap.size + 1, 4, none⟩ = some (.slice none 0 0) := br.cell 4
  have zo4 : w1.frozen? ⟨w.heap.size + 1 + 1, 4, none⟩ = false := bo.frozen 4
  have zr4 : w1.frozen? ⟨w.heap.size + 1, 4, none⟩ = false := br.frozen 4
  have fp5 : w1.cell? ⟨w.heap.size, 5, none⟩ = some (c5) := bp.cell 5
  have fo5 : w1.cell? ⟨w.heap.size + 1 + 1, 5, none⟩ = some (.slice none 0 0) := bo.cell 5
  have fr5 : w1.cell? ⟨w.heap.size + 1, 5, none⟩ = some (.slice none 0 0) := br.cell 5
  have zo5 : w1.frozen? ⟨w.heap.size + 1 + 1, 5, none⟩ = false := bo.frozen 5
  have zr5 : w1.frozen? ⟨w.heap.size + 1, 5, none⟩ = false := br.frozen 5
  have fp6 : w1.cell? ⟨w.heap.size, 6, none⟩ = some (c6) := bp.cell 6
  have fo6 : w1.cell? ⟨w.heap.size + 1 + 1, 6, none⟩ = some (.slice none 0 0) := bo.cell 6
  have fr6 : w1.cell? ⟨w.heap.size + 1, 6, none⟩ = some (.slice none 0 0) := br.cell 6
  have zo6 : w1.frozen? ⟨w.heap.size + 1 + 1, 6, none⟩ = false := bo.frozen 6
  have zr6 : w1.frozen? ⟨w.heap.size + 1, 6, none⟩ = false := br.frozen 6
  have fp7 : w1.cell? ⟨w.heap.size, 7, none⟩ = some (c7) := bp.cell 7
  have fo7 : w1.cell? ⟨w.heap.size + 1 + 1, 7, none⟩ = some (.slice none 0 0) := bo.cell 7
  have fr7 : w1.cell? ⟨w.heap.size + 1, 7, none⟩ = some (.slice none 0 0) := br.cell 7
  have zo7 : w1.frozen? ⟨w.heap.size + 1 + 1, 7, none⟩ = false := bo.frozen 7
  have zr7 : w1.frozen? ⟨w.heap.size + 1, 7, none⟩ = false := br.frozen 7
  have fp8 : w1.cell? ⟨w.heap.size, 8, none⟩ = some (.int .i64 x.downNodes) := bp.cell 8
  have fo8 : w1.cell? ⟨w.heap.size + 1 + 1, 8, none⟩ = some (.int .i64 0) := bo.cell 8
  have fr8 : w1.cell? ⟨w.heap.size + 1, 8, none⟩ = some (.int .i64 0) := br.cell 8
  have zo8 : w1.frozen? ⟨w.heap.size + 1 + 1, 8, none⟩ = false := bo.frozen 8
  have zr8 : w1.frozen? ⟨w.heap.size + 1, 8, none⟩ = false := br.frozen 8
  have fp9 : w1.cell? ⟨w.heap.size, 9, none⟩ = some (c9) := bp.cell 9
  have fo9 : w1.cell? ⟨w.heap.size + 1 + 1, 9, none⟩ = some (.slice none 0 0) := bo.cell 9
  have fr9 : w1.cell? ⟨w.heap.size + 1, 9, none⟩ = some (.slice none 0 0) := br.cell 9
  have zo9 : w1.frozen? ⟨w.heap.size + 1 + 1, 9, none⟩ = false := bo.frozen 9
  have zr9 : w1.frozen? ⟨w.heap.size + 1, 9, none⟩ = false := br.frozen 9
  have fp10 : w1.cell? ⟨w.heap.size, 10, none⟩ = some (c10) := bp.cell 10
  have fo10 : w1.cell? ⟨w.heap.size + 1 + 1, 10, none⟩ = some (.slice none 0 0) := bo.cell 10
  have fr10 : w1.cell? ⟨w.heap.size + 1, 10, none⟩ = some (.slice none 0 0) := br.cell 10
  have zo10 : w1.frozen? ⟨w.heap.size + 1 + 1, 10, none⟩ = false := bo.frozen 10
  have zr10 : w1.frozen? ⟨w.heap.size + 1, 10, none⟩ = false := br.frozen 10
  have fp11 : w1.cell? ⟨w.heap.size, 11, none⟩ = some (c11) := bp.cell 11
  have fo11 : w1.cell? ⟨w.heap.size + 1 + 1, 11, none⟩ = some (.slice none 0 0) := bo.cell 11
  have fr11 : w1.cell? ⟨w.heap.size + 1, 11, none⟩ = some (.slice none 0 0) := br.cell 11
  have zo11 : w1.frozen? ⟨w.heap.size + 1 + 1, 11, none⟩ = false := bo.frozen 11
  have zr11 : w1.frozen? ⟨w.heap.size + 1, 11, none⟩ = false := br.frozen 11
  have fp12 : w1.cell? ⟨w.heap.size, 12, none⟩ = some (.int .i64 x.now) := bp.cell 12
  have fo12 : w1.cell? ⟨w.heap.size + 1 + 1, 12, none⟩ = some (.int .i64 0) := bo.cell 12
  have fr12 : w1.cell? ⟨w.heap.size + 1, 12, none⟩ = some (.int .i64 0) := br.cell 12
  have zo12 : w1.frozen? ⟨w.heap.size + 1 + 1, 12, none⟩ = false := bo.frozen 12
  have zr12 : w1.frozen? ⟨w.heap.size + 1, 12, none⟩ = false := br.frozen 12
  have fp13 : w1.cell? ⟨w.heap.size, 13, none⟩ = some (.int .i64 x.dropped) := bp.cell 13
  have fo13 : w1.cell? ⟨w.heap.size + 1 + 1, 13, none⟩ = some (.int .i64 0) := bo.cell 13
  have fr13 : w1.cell? ⟨w.heap.size + 1, 13, none⟩ = some (.int .i64 0) := br.cell 13
  have zo13 : w1.frozen? ⟨w.heap.size + 1 + 1, 13, none⟩ = false := bo.frozen 13
  have zr13 : w1.frozen? ⟨w.heap.size + 1, 13, none⟩ = false := br.frozen 13
  go_wp2_with fail
  refine (toTableEntryS_c _ x.producers _ (sTableEntryL.ext (by (repeat (refine Ext.setCell ?_ (by omega) _)); exact E1) r2) (by omega)).mono ?_
  rintro e w2 ⟨⟨r2', rfl, O2'⟩, hx2⟩
  have hn2 : w1.heap.size ≤ w2.heap.size := by have := hx2.size; simpa [World.setCell] using this
  obtain ⟨A2, k2, rfl, _, _⟩ := Shape.sl_form O2'.rd
  have O2 : sTableEntryL.own (w1.heap.size) w2.heap.size w2 [.slice A2 x.producers.length k2] x.producers := by simpa [World.setCell] using O2'
  clear O2'
  replace bp : Blk w2 (w.heap.size) 37 #[.int .i64 x.topology.size, c1, c2, c3, c4, c5, c6, c7, .int .i64 x.downNodes, c9, c10, c11, .int .i64 x.now, .int .i64 x.dropped] := Blk.ext hx2 (by (repeat (refine Blk.far ?_ (by omega) _)); exact bp)
  replace br : Blk w2 (w.heap.size + 1) 58 #[.int .i64 0, .slice none 0 0, .slice none 0 0, .slice none 0 0, .slice none 0 0, .slice none 0 0, .slice none 0 0, .slice none 0 0, .int .i64 0, .slice none 0 0, .slice none 0 0, .slice none 0 0, .int .i64 0, .int .i64 0] := Blk.ext hx2 (by (repeat (refine Blk.far ?_ (by omega) _)); exact br)
  replace bo : Blk w2 (w.heap.size + 1 + 1) 58 #[.int .i64 x.topology.size, .slice A0_1 x.topology.links.length k0_1, .slice A1_0 x.trust.keys.length k1_0, .slice A1_1 x.trust.rules.length k1_1, .slice A1_2 x.trust.anchors.length k1_2, .slice A1_3 x.trust.certificates.length k1_3, .slice none 0 0, .slice none 0 0, .int .i64 0, .slice none 0 0, .slice none 0 0, .slice none 0 0, .int .i64 0, .int .i64 0] := Blk.ext hx2 (by simpa using (Blk.set_ ((Blk.set_ ((Blk.set_ ((Blk.set_ (bo) 2 _)) 3 _)) 4 _)) 5 _))
  have E2 : Ext w w2 := Ext.trans (by (repeat (refine Ext.setCell ?_ (by omega) _)); exact E1) hx2
  have Q2 : Fr (w.heap.size + 1 + 1 + 1) w1 w2 := Fr.trans (by (repeat (refine Fr.setCell ?_ (by omega) _)); exact Fr.refl _ _) (Fr.ext hx2)
  clear hx2
  clear fp0 fo0 fr0 zo0 zr0 fp1 fo1 fr1 zo1 zr1 fp2 fo2 fr2 zo2 zr2 fp3 fo3 fr3 zo3 zr3 fp4 fo4 fr4 zo4 zr4 fp5 fo5 fr5 zo5 zr5 fp6 fo6 fr6 zo6 zr6 fp7 fo7 fr7 zo7 zr7 fp8 fo8 fr8 zo8 zr8 fp9 fo9 fr9 zo9 zr9 fp10 fo10 fr10 zo10 zr10 fp11 fo11 fr11 zo11 zr11 fp12 fo12 fr12 zo12 zr12 fp13 fo13 fr13 zo13 zr13
  have fp0 : w2.cell? ⟨w.heap.size, 0, none⟩ = some (.int .i64 x.topology.size) := bp.cell 0
  have fo0 : w2.cell? ⟨w.heap.size + 1 + 1, 0, none⟩ = some (.int .i64 x.topology.size) := bo.cell 0
  have fr0 : w2.cell? ⟨w.heap.size + 1, 0, none⟩ = some (.int .i64 0) := br.cell 0
  have zo0 : w2.frozen? ⟨w.heap.size + 1 + 1, 0, none⟩ = false := bo.frozen 0
  have zr0 : w2.frozen? ⟨w.heap.size + 1, 0, none⟩ = false := br.frozen 0
  have fp1 : w2.cell? ⟨w.heap.size, 1, none⟩ = some (c1) := bp.cell 1
  have fo1 : w2.cell? ⟨w.heap.size + 1 + 1, 1, none⟩ = some (.slice A0_1 x.topology.links.length k0_1) := bo.cell 1
  have fr1 : w2.cell? ⟨w.heap.size + 1, 1, none⟩ = some (.slice none 0 0) := br.cell 1
  have zo1 : w2.frozen? ⟨w.heap.size + 1 + 1, 1, none⟩ = false := bo.frozen 1
  have zr1 : w2.frozen? ⟨w.heap.size + 1, 1, none⟩ = false := br.frozen 1
  have fp2 : w2.cell? ⟨w.heap.size, 2, none⟩ = some (c2) := bp.cell 2
  have fo2 : w2.cell? ⟨w.heap.size + 1 + 1, 2, none⟩ = some (.slice A1_0 x.trust.keys.length k1_0) := bo.cell 2
  have fr2 : w2.cell? ⟨w.heap.size + 1, 2, none⟩ = some (.slice none 0 0) := br.cell 2
  have zo2 : w2.frozen? ⟨w.heap.size + 1 + 1, 2, none⟩ = false := bo.frozen 2
  have zr2 : w2.frozen? ⟨w.heap.size + 1, 2, none⟩ = false := br.frozen 2
  have fp3 : w2.cell? ⟨w.heap.size, 3, none⟩ = some (c3) := bp.cell 3
  have fo3 : w2.cell? ⟨w.heap.size + 1 + 1, 3, none⟩ = some (.slice A1_1 x.trust.rules.length k1_1) := bo.cell 3
  have fr3 : w2.cell? ⟨w.heap.size + 1, 3, none⟩ = some (.slice none 0 0) := br.cell 3
  have zo3 : w2.frozen? ⟨w.heap.size + 1 + 1, 3, none⟩ = false := bo.frozen 3
  have zr3 : w2.frozen? ⟨w.heap.size + 1, 3, none⟩ = false := br.frozen 3
  have fp4 : w2.cell? ⟨w.heap.size, 4, none⟩ = some (c4) := bp.cell 4
  have fo4 : w2.cell? ⟨w.heap.size + 1 + 1, 4, none⟩ = some (.slice A1_2 x.trust.anchors.length k1_2) := bo.cell 4
  have fr4 : w2.cell? ⟨w.heap.size + 1, 4, none⟩ = some (.slice none 0 0) := br.cell 4
  have zo4 : w2.frozen? ⟨w.heap.size + 1 + 1, 4, none⟩ = false := bo.frozen 4
  have zr4 : w2.frozen? ⟨w.heap.size + 1, 4, none⟩ = false := br.frozen 4
  have fp5 : w2.cell? ⟨w.heap.size, 5, none⟩ = some (c5) := bp.cell 5
  have fo5 : w2.cell? ⟨w.heap.size + 1 + 1, 5, none⟩ = some (.slice A1_3 x.trust.certificates.length k1_3) := bo.cell 5
  have fr5 : w2.cell? ⟨w.heap.size + 1, 5, none⟩ = some (.slice none 0 0) := br.cell 5
  have zo5 : w2.frozen? ⟨w.heap.size + 1 + 1, 5, none⟩ = false := bo.frozen 5
  have zr5 : w2.frozen? ⟨w.heap.size + 1, 5, none⟩ = false := br.frozen 5
  have fp6 : w2.cell? ⟨w.heap.size, 6, none⟩ = some (c6) := bp.cell 6
  have fo6 : w2.cell? ⟨w.heap.size + 1 + 1, 6, none⟩ = some (.slice none 0 0) := bo.cell 6
  have fr6 : w2.cell? ⟨w.heap.size + 1, 6, none⟩ = some (.slice none 0 0) := br.cell 6
  have zo6 : w2.frozen? ⟨w.heap.size + 1 + 1, 6, none⟩ = false := bo.frozen 6
  have zr6 : w2.frozen? ⟨w.heap.size + 1, 6, none⟩ = false := br.frozen 6
  have fp7 : w2.cell? ⟨w.heap.size, 7, none⟩ = some (c7) := bp.cell 7
  have fo7 : w2.cell? ⟨w.heap.size + 1 + 1, 7, none⟩ = some (.slice none 0 0) := bo.cell 7
  have fr7 : w2.cell? ⟨w.heap.size + 1, 7, none⟩ = some (.slice none 0 0) := br.cell 7
  have zo7 : w2.frozen? ⟨w.heap.size + 1 + 1, 7, none⟩ = false := bo.frozen 7
  have zr7 : w2.frozen? ⟨w.heap.size + 1, 7, none⟩ = false := br.frozen 7
  have fp8 : w2.cell? ⟨w.heap.size, 8, none⟩ = some (.int .i64 x.downNodes) := bp.cell 8
  have fo8 : w2.cell? ⟨w.heap.size + 1 + 1, 8, none⟩ = some (.int .i64 0) := bo.cell 8
  have fr8 : w2.cell? ⟨w.heap.size + 1, 8, none⟩ = some (.int .i64 0) := br.cell 8
  have zo8 : w2.frozen? ⟨w.heap.size + 1 + 1, 8, none⟩ = false := bo.frozen 8
  have zr8 : w2.frozen? ⟨w.heap.size + 1, 8, none⟩ = false := br.frozen 8
  have fp9 : w2.cell? ⟨w.heap.size, 9, none⟩ = some (c9) := bp.cell 9
  have fo9 : w2.cell? ⟨w.heap.size + 1 + 1, 9, none⟩ = some (.slice none 0 0) := bo.cell 9
  have fr9 : w2.cell? ⟨w.heap.size + 1, 9, none⟩ = some (.slice none 0 0) := br.cell 9
  have zo9 : w2.frozen? ⟨w.heap.size + 1 + 1, 9, none⟩ = false := bo.frozen 9
  have zr9 : w2.frozen? ⟨w.heap.size + 1, 9, none⟩ = false := br.frozen 9
  have fp10 : w2.cell? ⟨w.heap.size, 10, none⟩ = some (c10) := bp.cell 10
  have fo10 : w2.cell? ⟨w.heap.size + 1 + 1, 10, none⟩ = some (.slice none 0 0) := bo.cell 10
  have fr10 : w2.cell? ⟨w.heap.size + 1, 10, none⟩ = some (.slice none 0 0) := br.cell 10
  have zo10 : w2.frozen? ⟨w.heap.size + 1 + 1, 10, none⟩ = false := bo.frozen 10
  have zr10 : w2.frozen? ⟨w.heap.size + 1, 10, none⟩ = false := br.frozen 10
  have fp11 : w2.cell? ⟨w.heap.size, 11, none⟩ = some (c11) := bp.cell 11
  have fo11 : w2.cell? ⟨w.heap.size + 1 + 1, 11, none⟩ = some (.slice none 0 0) := bo.cell 11
  have fr11 : w2.cell? ⟨w.heap.size + 1, 11, none⟩ = some (.slice none 0 0) := br.cell 11
  have zo11 : w2.frozen? ⟨w.heap.size + 1 + 1, 11, none⟩ = false := bo.frozen 11
  have zr11 : w2.frozen? ⟨w.heap.size + 1, 11, none⟩ = false := br.frozen 11
  have fp12 : w2.cell? ⟨w.heap.size, 12, none⟩ = some (.int .i64 x.now) := bp.cell 12
  have fo12 : w2.cell? ⟨w.heap.size + 1 + 1, 12, none⟩ = some (.int .i64 0) := bo.cell 12
  have fr12 : w2.cell? ⟨w.heap.size + 1, 12, none⟩ = some (.int .i64 0) := br.cell 12
  have zo12 : w2.frozen? ⟨w.heap.size + 1 + 1, 12, none⟩ = false := bo.frozen 12
  have zr12 : w2.frozen? ⟨w.heap.size + 1, 12, none⟩ = false := br.frozen 12
  have fp13 : w2.cell? ⟨w.heap.size, 13, none⟩ = some (.int .i64 x.dropped) := bp.cell 13
  have fo13 : w2.cell? ⟨w.heap.size + 1 + 1, 13, none⟩ = some (.int .i64 0) := bo.cell 13
  have fr13 : w2.cell? ⟨w.heap.size + 1, 13, none⟩ = some (.int .i64 0) := br.cell 13
  have zo13 : w2.frozen? ⟨w.heap.size + 1 + 1, 13, none⟩ = false := bo.frozen 13
  have zr13 : w2.frozen? ⟨w.heap.size + 1, 13, none⟩ = false := br.frozen 13
  go_wp2_with fail
  refine (toNodeS_c _ x.nodes _ (sNodeL.ext (by (repeat (refine Ext.setCell ?_ (by omega) _)); exact E2) r3) (by omega)).mono ?_
  rintro e w3 ⟨⟨r3', rfl, O3'⟩, hx3⟩
  have hn3 : w2.heap.size ≤ w3.heap.size := by have := hx3.size; simpa [World.setCell] using this
  obtain ⟨A3, k3, rfl, _, _⟩ := Shape.sl_form O3'.rd
  have O3 : sNodeL.own (w2.heap.size) w3.heap.size w3 [.slice A3 x.nodes.length k3] x.nodes := by simpa [World.setCell] using O3'
  clear O3'
  replace bp : Blk w3 (w.heap.size) 37 #[.int .i64 x.topology.size, c1, c2, c3, c4, c5, c6, c7, .int .i64 x.downNodes, c9, c10, c11, .int .i64 x.now, .int .i64 x.dropped] := Blk.ext hx3 (by (repeat (refine Blk.far ?_ (by omega) _)); exact bp)
  replace br : Blk w3 (w.heap.size + 1) 58 #[.int .i64 0, .slice none 0 0, .slice none 0 0, .slice none 0 0, .slice none 0 0, .slice none 0 0, .slice none 0 0, .slice none 0 0, .int .i64 0, .slice none 0 0, .slice none 0 0, .slice none 0 0, .int .i64 0, .int .i64 0] := Blk.ext hx3 (by (repeat (refine Blk.far ?_ (by omega) _)); exact br)
  replace bo : Blk w3 (w.heap.size + 1 + 1) 58 #[.int .i64 x.topology.size, .slice A0_1 x.topology.links.length k0_1, .slice A1_0 x.trust.keys.length k1_0, .slice A1_1 x.trust.rules.length k1_1, .slice A1_2 x.trust.anchors.length k1_2, .slice A1_3 x.trust.certificates.length k1_3, .slice A2 x.producers.length k2, .slice none 0 0, .int .i64 0, .slice none 0 0, .slice none 0 0, .slice none 0 0, .int .i64 0, .int .i64 0] := Blk.ext hx3 (by simpa using (Blk.set_ (bo) 6 _))
  have E3 : Ext w w3 := Ext.trans (by (repeat (refine Ext.setCell ?_ (by omega) _)); exact E2) hx3
  have Q3 : Fr (w.heap.size + 1 + 1 + 1) w2 w3 := Fr.trans (by (repeat (refine Fr.setCell ?_ (by omega) _)); exact Fr.refl _ _) (Fr.ext hx3)
  clear hx3
  clear fp0 fo0 fr0 zo0 zr0 fp1 fo1 fr1 zo1 zr1 fp2 fo2 fr2 zo2 zr2 fp3 fo3 fr3 zo3 zr3 fp4 fo4 fr4 zo4 zr4 fp5 fo5 fr5 zo5 zr5 fp6 fo6 fr6 zo6 zr6 fp7 fo7 fr7 zo7 zr7 fp8 fo8 fr8 zo8 zr8 fp9 fo9 fr9 zo9 zr9 fp10 fo10 fr10 zo10 zr10 fp11 fo11 fr11 zo11 zr11 fp12 fo12 fr12 zo12 zr12 fp13 fo13 fr13 zo13 zr13
  have fp0 : w3.cell? ⟨w.heap.size, 0, none⟩ = some (.int .i64 x.topology.size) := bp.cell 0
  have fo0 : w3.cell? ⟨w.heap.size + 1 + 1, 0, none⟩ = some (.int .i64 x.topology.size) := bo.cell 0
  have fr0 : w3.cell? ⟨w.heap.size + 1, 0, none⟩ = some (.int .i64 0) := br.cell 0
  have zo0 : w3.frozen? ⟨w.heap.size + 1 + 1, 0, none⟩ = false := bo.frozen 0
  have zr0 : w3.frozen? ⟨w.heap.size + 1, 0, none⟩ = false := br.frozen 0
  have fp1 : w3.cell? ⟨w.heap.size, 1, none⟩ = some (c1) := bp.cell 1
  have fo1 : w3.cell? ⟨w.heap.size + 1 + 1, 1, none⟩ = some (.slice A0_1 x.topology.links.length k0_1) := bo.cell 1
  have fr1 : w3.cell? ⟨w.heap.size + 1, 1, none⟩ = some (.slice none 0 0) := br.cell 1
  have zo1 : w3.frozen? ⟨w.heap.size + 1 + 1, 1, none⟩ = false := bo.frozen 1
  have zr1 : w3.frozen? ⟨w.heap.size + 1, 1, none⟩ = false := br.frozen 1
  have fp2 : w3.cell? ⟨w.heap.size, 2, none⟩ = some (c2) := bp.cell 2
  have fo2 : w3.cell? ⟨w.heap.size + 1 + 1, 2, none⟩ = some (.slice A1_0 x.trust.keys.length k1_0) := bo.cell 2
  have fr2 : w3.cell? ⟨w.heap.size + 1, 2, none⟩ = some (.slice none 0 0) := br.cell 2
  have zo2 : w3.frozen? ⟨w.heap.size + 1 + 1, 2, none⟩ = false := bo.frozen 2
  have zr2 : w3.frozen? ⟨w.heap.size + 1, 2, none⟩ = false := br.frozen 2
  have fp3 : w3.cell? ⟨w.heap.size, 3, none⟩ = some (c3) := bp.cell 3
  have fo3 : w3.cell? ⟨w.heap.size + 1 + 1, 3, none⟩ = some (.slice A1_1 x.trust.rules.length k1_1) := bo.cell 3
  have fr3 : w3.cell? ⟨w.heap.size + 1, 3, none⟩ = some (.slice none 0 0) := br.cell 3
  have zo3 : w3.frozen? ⟨w.heap.size + 1 + 1, 3, none⟩ = false := bo.frozen 3
  have zr3 : w3.frozen? ⟨w.heap.size + 1, 3, none⟩ = false := br.frozen 3
  have fp4 : w3.cell? ⟨w.heap.size, 4, none⟩ = some (c4) := bp.cell 4
  have fo4 : w3.cell? ⟨w.heap.size + 1 + 1, 4, none⟩ = some (.slice A1_2 x.trust.anchors.length k1_2) := bo.cell 4
  have fr4 : w3.cell? ⟨w.heap.size + 1, 4, none⟩ = some (.slice none 0 0) := br.cell 4
  have zo4 : w3.frozen? ⟨w.heap.size + 1 + 1, 4, none⟩ = false := bo.frozen 4
  have zr4 : w3.frozen? ⟨w.heap.size + 1, 4, none⟩ = false := br.frozen 4
  have fp5 : w3.cell? ⟨w.heap.size, 5, none⟩ = some (c5) := bp.cell 5
  have fo5 : w3.cell? ⟨w.heap.size + 1 + 1, 5, none⟩ = some (.slice A1_3 x.trust.certificates.length k1_3) := bo.cell 5
  have fr5 : w3.cell? ⟨w.heap.size + 1, 5, none⟩ = some (.slice none 0 0) := br.cell 5
  have zo5 : w3.frozen? ⟨w.heap.size + 1 + 1, 5, none⟩ = false := bo.frozen 5
  have zr5 : w3.frozen? ⟨w.heap.size + 1, 5, none⟩ = false := br.frozen 5
  have fp6 : w3.cell? ⟨w.heap.size, 6, none⟩ = some (c6) := bp.cell 6
  have fo6 : w3.cell? ⟨w.heap.size + 1 + 1, 6, none⟩ = some (.slice A2 x.producers.length k2) := bo.cell 6
  have fr6 : w3.cell? ⟨w.heap.size + 1, 6, none⟩ = some (.slice none 0 0) := br.cell 6
  have zo6 : w3.frozen? ⟨w.heap.size + 1 + 1, 6, none⟩ = false := bo.frozen 6
  have zr6 : w3.frozen? ⟨w.heap.size + 1, 6, none⟩ = false := br.frozen 6
  have fp7 : w3.cell? ⟨w.heap.size, 7, none⟩ = some (c7) := bp.cell 7
  have fo7 : w3.cell? ⟨w.heap.size + 1 + 1, 7, none⟩ = some (.slice none 0 0) := bo.cell 7
  have fr7 : w3.cell? ⟨w.heap.size + 1, 7, none⟩ = some (.slice none 0 0) := br.cell 7
  have zo7 : w3.frozen? ⟨w.heap.size + 1 + 1, 7, none⟩ = false := bo.frozen 7
  have zr7 : w3.frozen? ⟨w.heap.size + 1, 7, none⟩ = false := br.frozen 7
  have fp8 : w3.cell? ⟨w.heap.size, 8, none⟩ = some (.int .i64 x.downNodes) := bp.cell 8
  have fo8 : w3.cell? ⟨w.heap.size + 1 + 1, 8, none⟩ = some (.int .i64 0) := bo.cell 8
  have fr8 : w3.cell? ⟨w.heap.size + 1, 8, none⟩ = some (.int .i64 0) := br.cell 8
  have zo8 : w3.frozen? ⟨w.heap.size + 1 + 1, 8, none⟩ = false := bo.frozen 8
  have zr8 : w3.frozen? ⟨w.heap.size + 1, 8, none⟩ = false := br.frozen 8
  have fp9 : w3.cell? ⟨w.heap.size, 9, none⟩ = some (c9) := bp.cell 9
  have fo9 : w3.cell? ⟨w.heap.size + 1 + 1, 9, none⟩ = some (.slice none 0 0) := bo.cell 9
  have fr9 : w3.cell? ⟨w.heap.size + 1, 9, none⟩ = some (.slice none 0 0) := br.cell 9
  have zo9 : w3.frozen? ⟨w.heap.size + 1 + 1, 9, none⟩ = false := bo.frozen 9
  have zr9 : w3.frozen? ⟨w.heap.size + 1, 9, none⟩ = false := br.frozen 9
  have fp10 : w3.cell? ⟨w.heap.size, 10, none⟩ = some (c10) := bp.cell 10
  have fo10 : w3.cell? ⟨w.heap.size + 1 + 1, 10, none⟩ = some (.slice none 0 0) := bo.cell 10
  have fr10 : w3.cell? ⟨w.heap.size + 1, 10, none⟩ = some (.slice none 0 0) := br.cell 10
  have zo10 : w3.frozen? ⟨w.heap.size + 1 + 1, 10, none⟩ = false := bo.frozen 10
  have zr10 : w3.frozen? ⟨w.heap.size + 1, 10, none⟩ = false := br.frozen 10
  have fp11 : w3.cell? ⟨w.heap.size, 11, none⟩ = some (c11) := bp.cell 11
  have fo11 : w3.cell? ⟨w.heap.size + 1 + 1, 11, none⟩ = some (.slice none 0 0) := bo.cell 11
  have fr11 : w3.cell? ⟨w.heap.size + 1, 11, none⟩ = some (.slice none 0 0) := br.cell 11
  have zo11 : w3.frozen? ⟨w.heap.size + 1 + 1, 11, none⟩ = false := bo.frozen 11
  have zr11 : w3.frozen? ⟨w.heap.size + 1, 11, none⟩ = false := br.frozen 11
  have fp12 : w3.cell? ⟨w.heap.size, 12, none⟩ = some (.int .i64 x.now) := bp.cell 12
  have fo12 : w3.cell? ⟨w.heap.size + 1 + 1, 12, none⟩ = some (.int .i64 0) := bo.cell 12
  have fr12 : w3.cell? ⟨w.heap.size + 1, 12, none⟩ = some (.int .i64 0) := br.cell 12
  have zo12 : w3.frozen? ⟨w.heap.size + 1 + 1, 12, none⟩ = false := bo.frozen 12
  have zr12 : w3.frozen? ⟨w.heap.size + 1, 12, none⟩ = false := br.frozen 12
  have fp13 : w3.cell? ⟨w.heap.size, 13, none⟩ = some (.int .i64 x.dropped) := bp.cell 13
  have fo13 : w3.cell? ⟨w.heap.size + 1 + 1, 13, none⟩ = some (.int .i64 0) := bo.cell 13
  have fr13 : w3.cell? ⟨w.heap.size + 1, 13, none⟩ = some (.int .i64 0) := br.cell 13
  have zo13 : w3.frozen? ⟨w.heap.size + 1 + 1, 13, none⟩ = false := bo.frozen 13
  have zr13 : w3.frozen? ⟨w.heap.size + 1, 13, none⟩ = false := br.frozen 13
  go_wp2_with fail
  refine (toIntS_c _ x.failedLinks _ (sInts.ext (by (repeat (refine Ext.setCell ?_ (by omega) _)); exact E3) r5) (by omega)).mono ?_
  rintro e w4 ⟨⟨r5', rfl, O4'⟩, hx4⟩
  have hn4 : w3.heap.size ≤ w4.heap.size := by have := hx4.size; simpa [World.setCell] using this
  obtain ⟨A4, k4, rfl, _, _⟩ := Shape.sl_form O4'.rd
  have O4 : sInts.own (w3.heap.size) w4.heap.size w4 [.slice A4 x.failedLinks.length k4] x.failedLinks := by simpa [World.setCell] using O4'
  clear O4'
  replace bp : Blk w4 (w.heap.size) 37 #[.int .i64 x.topology.size, c1, c2, c3, c4, c5, c6, c7, .int .i64 x.downNodes, c9, c10, c11, .int .i64 x.now, .int .i64 x.dropped] := Blk.ext hx4 (by (repeat (refine Blk.far ?_ (by omega) _)); exact bp)
  replace br : Blk w4 (w.heap.size + 1) 58 #[.int .i64 0, .slice none 0 0, .slice none 0 0, .slice none 0 0, .slice none 0 0, .slice none 0 0, .slice none 0 0, .slice none 0 0, .int .i64 0, .slice none 0 0, .slice none 0 0, .slice none 0 0, .int .i64 0, .int .i64 0] := Blk.ext hx4 (by (repeat (refine Blk.far ?_ (by omega) _)); exact br)
  replace bo : Blk w4 (w.heap.size + 1 + 1) 58 #[.int .i64 x.topology.size, .slice A0_1 x.topology.links.length k0_1, .slice A1_0 x.trust.keys.length k1_0, .slice A1_1 x.trust.rules.length k1_1, .slice A1_2 x.trust.anchors.length k1_2, .slice A1_3 x.trust.certificates.length k1_3, .slice A2 x.producers.length k2, .slice A3 x.nodes.length k3, .int .i64 x.downNodes, .slice none 0 0, .slice none 0 0, .slice none 0 0, .int .i64 0, .int .i64 0] := Blk.ext hx4 (by simpa using (Blk.set_ ((Blk.set_ (bo) 7 _)) 8 _))
  have E4 : Ext w w4 := Ext.trans (by (repeat (refine Ext.setCell ?_ (by omega) _)); exact E3) hx4
  have Q4 : Fr (w.heap.size + 1 + 1 + 1) w3 w4 := Fr.trans (by (repeat (refine Fr.setCell ?_ (by omega) _)); exact Fr.refl _ _) (Fr.ext hx4)
  clear hx4
  clear fp0 fo0 fr0 zo0 zr0 fp1 fo1 fr1 zo1 zr1 fp2 fo2 fr2 zo2 zr2 fp3 fo3 fr3 zo3 zr3 fp4 fo4 fr4 zo4 zr4 fp5 fo5 fr5 zo5 zr5 fp6 fo6 fr6 zo6 zr6 fp7 fo7 fr7 zo7 zr7 fp8 fo8 fr8 zo8 zr8 fp9 fo9 fr9 zo9 zr9 fp10 fo10 fr10 zo10 zr10 fp11 fo11 fr11 zo11 zr11 fp12 fo12 fr12 zo12 zr12 fp13 fo13 fr13 zo13 zr13
  have fp0 : w4.cell? ⟨w.heap.size, 0, none⟩ = some (.int .i64 x.topology.size) := bp.cell 0
  have fo0 : w4.cell? ⟨w.heap.size + 1 + 1, 0, none⟩ = some (.int .i64 x.topology.size) := bo.cell 0
  have fr0 : w4.cell? ⟨w.heap.size + 1, 0, none⟩ = some (.int .i64 0) := br.cell 0
  have zo0 : w4.frozen? ⟨w.heap.size + 1 + 1, 0, none⟩ = false := bo.frozen 0
  have zr0 : w4.frozen? ⟨w.heap.size + 1, 0, none⟩ = false := br.frozen 0
  have fp1 : w4.cell? ⟨w.heap.size, 1, none⟩ = some (c1) := bp.cell 1
  have fo1 : w4.cell? ⟨w.heap.size + 1 + 1, 1, none⟩ = some (.slice A0_1 x.topology.links.length k0_1) := bo.cell 1
  have fr1 : w4.cell? ⟨w.heap.size + 1, 1, none⟩ = some (.slice none 0 0) := br.cell 1
  have zo1 : w4.frozen? ⟨w.heap.size + 1 + 1, 1, none⟩ = false := bo.frozen 1
  have zr1 : w4.frozen? ⟨w.heap.size + 1, 1, none⟩ = false := br.frozen 1
  have fp2 : w4.cell? ⟨w.heap.size, 2, none⟩ = some (c2) := bp.cell 2
  have fo2 : w4.cell? ⟨w.heap.size + 1 + 1, 2, none⟩ = some (.slice A1_0 x.trust.keys.length k1_0) := bo.cell 2
  have fr2 : w4.cell? ⟨w.heap.size + 1, 2, none⟩ = some (.slice none 0 0) := br.cell 2
  have zo2 : w4.frozen? ⟨w.heap.size + 1 + 1, 2, none⟩ = false := bo.frozen 2
  have zr2 : w4.frozen? ⟨w.heap.size + 1, 2, none⟩ = false := br.frozen 2
  have fp3 : w4.cell? ⟨w.heap.size, 3, none⟩ = some (c3) := bp.cell 3
  have fo3 : w4.cell? ⟨w.heap.size + 1 + 1, 3, none⟩ = some (.slice A1_1 x.trust.rules.length k1_1) := bo.cell 3
  have fr3 : w4.cell? ⟨w.heap.size + 1, 3, none⟩ = some (.slice none 0 0) := br.cell 3
  have zo3 : w4.frozen? ⟨w.heap.size + 1 + 1, 3, none⟩ = false := bo.frozen 3
  have zr3 : w4.frozen? ⟨w.heap.size + 1, 3, none⟩ = false := br.frozen 3
  have fp4 : w4.cell? ⟨w.heap.size, 4, none⟩ = some (c4) := bp.cell 4
  have fo4 : w4.cell? ⟨w.heap.size + 1 + 1, 4, none⟩ = some (.slice A1_2 x.trust.anchors.length k1_2) := bo.cell 4
  have fr4 : w4.cell? ⟨w.heap.size + 1, 4, none⟩ = some (.slice none 0 0) := br.cell 4
  have zo4 : w4.frozen? ⟨w.heap.size + 1 + 1, 4, none⟩ = false := bo.frozen 4
  have zr4 : w4.frozen? ⟨w.heap.size + 1, 4, none⟩ = false := br.frozen 4
  have fp5 : w4.cell? ⟨w.heap.size, 5, none⟩ = some (c5) := bp.cell 5
  have fo5 : w4.cell? ⟨w.heap.size + 1 + 1, 5, none⟩ = some (.slice A1_3 x.trust.certificates.length k1_3) := bo.cell 5
  have fr5 : w4.cell? ⟨w.heap.size + 1, 5, none⟩ = some (.slice none 0 0) := br.cell 5
  have zo5 : w4.frozen? ⟨w.heap.size + 1 + 1, 5, none⟩ = false := bo.frozen 5
  have zr5 : w4.frozen? ⟨w.heap.size + 1, 5, none⟩ = false := br.frozen 5
  have fp6 : w4.cell? ⟨w.heap.size, 6, none⟩ = some (c6) := bp.cell 6
  have fo6 : w4.cell? ⟨w.heap.size + 1 + 1, 6, none⟩ = some (.slice A2 x.producers.length k2) := bo.cell 6
  have fr6 : w4.cell? ⟨w.heap.size + 1, 6, none⟩ = some (.slice none 0 0) := br.cell 6
  have zo6 : w4.frozen? ⟨w.heap.size + 1 + 1, 6, none⟩ = false := bo.frozen 6
  have zr6 : w4.frozen? ⟨w.heap.size + 1, 6, none⟩ = false := br.frozen 6
  have fp7 : w4.cell? ⟨w.heap.size, 7, none⟩ = some (c7) := bp.cell 7
  have fo7 : w4.cell? ⟨w.heap.size + 1 + 1, 7, none⟩ = some (.slice A3 x.nodes.length k3) := bo.cell 7
  have fr7 : w4.cell? ⟨w.heap.size + 1, 7, none⟩ = some (.slice none 0 0) := br.cell 7
  have zo7 : w4.frozen? ⟨w.heap.size + 1 + 1, 7, none⟩ = false := bo.frozen 7
  have zr7 : w4.frozen? ⟨w.heap.size + 1, 7, none⟩ = false := br.frozen 7
  have fp8 : w4.cell? ⟨w.heap.size, 8, none⟩ = some (.int .i64 x.downNodes) := bp.cell 8
  have fo8 : w4.cell? ⟨w.heap.size + 1 + 1, 8, none⟩ = some (.int .i64 x.downNodes) := bo.cell 8
  have fr8 : w4.cell? ⟨w.heap.size + 1, 8, none⟩ = some (.int .i64 0) := br.cell 8
  have zo8 : w4.frozen? ⟨w.heap.size + 1 + 1, 8, none⟩ = false := bo.frozen 8
  have zr8 : w4.frozen? ⟨w.heap.size + 1, 8, none⟩ = false := br.frozen 8
  have fp9 : w4.cell? ⟨w.heap.size, 9, none⟩ = some (c9) := bp.cell 9
  have fo9 : w4.cell? ⟨w.heap.size + 1 + 1, 9, none⟩ = some (.slice none 0 0) := bo.cell 9
  have fr9 : w4.cell? ⟨w.heap.size + 1, 9, none⟩ = some (.slice none 0 0) := br.cell 9
  have zo9 : w4.frozen? ⟨w.heap.size + 1 + 1, 9, none⟩ = false := bo.frozen 9
  have zr9 : w4.frozen? ⟨w.heap.size + 1, 9, none⟩ = false := br.frozen 9
  have fp10 : w4.cell? ⟨w.heap.size, 10, none⟩ = some (c10) := bp.cell 10
  have fo10 : w4.cell? ⟨w.heap.size + 1 + 1, 10, none⟩ = some (.slice none 0 0) := bo.cell 10
  have fr10 : w4.cell? ⟨w.heap.size + 1, 10, none⟩ = some (.slice none 0 0) := br.cell 10
  have zo10 : w4.frozen? ⟨w.heap.size + 1 + 1, 10, none⟩ = false := bo.frozen 10
  have zr10 : w4.frozen? ⟨w.heap.size + 1, 10, none⟩ = false := br.frozen 10
  have fp11 : w4.cell? ⟨w.heap.size, 11, none⟩ = some (c11) := bp.cell 11
  have fo11 : w4.cell? ⟨w.heap.size + 1 + 1, 11, none⟩ = some (.slice none 0 0) := bo.cell 11
  have fr11 : w4.cell? ⟨w.heap.size + 1, 11, none⟩ = some (.slice none 0 0) := br.cell 11
  have zo11 : w4.frozen? ⟨w.heap.size + 1 + 1, 11, none⟩ = false := bo.frozen 11
  have zr11 : w4.frozen? ⟨w.heap.size + 1, 11, none⟩ = false := br.frozen 11
  have fp12 : w4.cell? ⟨w.heap.size, 12, none⟩ = some (.int .i64 x.now) := bp.cell 12
  have fo12 : w4.cell? ⟨w.heap.size + 1 + 1, 12, none⟩ = some (.int .i64 0) := bo.cell 12
  have fr12 : w4.cell? ⟨w.heap.size + 1, 12, none⟩ = some (.int .i64 0) := br.cell 12
  have zo12 : w4.frozen? ⟨w.heap.size + 1 + 1, 12, none⟩ = false := bo.frozen 12
  have zr12 : w4.frozen? ⟨w.heap.size + 1, 12, none⟩ = false := br.frozen 12
  have fp13 : w4.cell? ⟨w.heap.size, 13, none⟩ = some (.int .i64 x.dropped) := bp.cell 13
  have fo13 : w4.cell? ⟨w.heap.size + 1 + 1, 13, none⟩ = some (.int .i64 0) := bo.cell 13
  have fr13 : w4.cell? ⟨w.heap.size + 1, 13, none⟩ = some (.int .i64 0) := br.cell 13
  have zo13 : w4.frozen? ⟨w.heap.size + 1 + 1, 13, none⟩ = false := bo.frozen 13
  have zr13 : w4.frozen? ⟨w.heap.size + 1, 13, none⟩ = false := br.frozen 13
  go_wp2_with fail
  refine (toPacketInFlightS_c _ x.inFlight _ (sPacketInFlightL.ext (by (repeat (refine Ext.setCell ?_ (by omega) _)); exact E4) r6) (by omega)).mono ?_
  rintro e w5 ⟨⟨r6', rfl, O5'⟩, hx5⟩
  have hn5 : w4.heap.size ≤ w5.heap.size := by have := hx5.size; simpa [World.setCell] using this
  obtain ⟨A5, k5, rfl, _, _⟩ := Shape.sl_form O5'.rd
  have O5 : sPacketInFlightL.own (w4.heap.size) w5.heap.size w5 [.slice A5 x.inFlight.length k5] x.inFlight := by simpa [World.setCell] using O5'
  clear O5'
  replace bp : Blk w5 (w.heap.size) 37 #[.int .i64 x.topology.size, c1, c2, c3, c4, c5, c6, c7, .int .i64 x.downNodes, c9, c10, c11, .int .i64 x.now, .int .i64 x.dropped] := Blk.ext hx5 (by (repeat (refine Blk.far ?_ (by omega) _)); exact bp)
  replace br : Blk w5 (w.heap.size + 1) 58 #[.int .i64 0, .slice none 0 0, .slice none 0 0, .slice none 0 0, .slice none 0 0, .slice none 0 0, .slice none 0 0, .slice none 0 0, .int .i64 0, .slice none 0 0, .slice none 0 0, .slice none 0 0, .int .i64 0, .int .i64 0] := Blk.ext hx5 (by (repeat (refine Blk.far ?_ (by omega) _)); exact br)
  replace bo : Blk w5 (w.heap.size + 1 + 1) 58 #[.int .i64 x.topology.size, .slice A0_1 x.topology.links.length k0_1, .slice A1_0 x.trust.keys.length k1_0, .slice A1_1 x.trust.rules.length k1_1, .slice A1_2 x.trust.anchors.length k1_2, .slice A1_3 x.trust.certificates.length k1_3, .slice A2 x.producers.length k2, .slice A3 x.nodes.length k3, .int .i64 x.downNodes, .slice A4 x.failedLinks.length k4, .slice none 0 0, .slice none 0 0, .int .i64 0, .int .i64 0] := Blk.ext hx5 (by simpa using (Blk.set_ (bo) 9 _))
  have E5 : Ext w w5 := Ext.trans (by (repeat (refine Ext.setCell ?_ (by omega) _)); exact E4) hx5
  have Q5 : Fr (w.heap.size + 1 + 1 + 1) w4 w5 := Fr.trans (by (repeat (refine Fr.setCell ?_ (by omega) _)); exact Fr.refl _ _) (Fr.ext hx5)
  clear hx5
  clear fp0 fo0 fr0 zo0 zr0 fp1 fo1 fr1 zo1 zr1 fp2 fo2 fr2 zo2 zr2 fp3 fo3 fr3 zo3 zr3 fp4 fo4 fr4 zo4 zr4 fp5 fo5 fr5 zo5 zr5 fp6 fo6 fr6 zo6 zr6 fp7 fo7 fr7 zo7 zr7 fp8 fo8 fr8 zo8 zr8 fp9 fo9 fr9 zo9 zr9 fp10 fo10 fr10 zo10 zr10 fp11 fo11 fr11 zo11 zr11 fp12 fo12 fr12 zo12 zr12 fp13 fo13 fr13 zo13 zr13
  have fp0 : w5.cell? ⟨w.heap.size, 0, none⟩ = some (.int .i64 x.topology.size) := bp.cell 0
  have fo0 : w5.cell? ⟨w.heap.size + 1 + 1, 0, none⟩ = some (.int .i64 x.topology.size) := bo.cell 0
  have fr0 : w5.cell? ⟨w.heap.size + 1, 0, none⟩ = some (.int .i64 0) := br.cell 0
  have zo0 : w5.frozen? ⟨w.heap.size + 1 + 1, 0, none⟩ = false := bo.frozen 0
  have zr0 : w5.frozen? ⟨w.heap.size + 1, 0, none⟩ = false := br.frozen 0
  have fp1 : w5.cell? ⟨w.heap.size, 1, none⟩ = some (c1) := bp.cell 1
  have fo1 : w5.cell? ⟨w.heap.size + 1 + 1, 1, none⟩ = some (.slice A0_1 x.topology.links.length k0_1) := bo.cell 1
  have fr1 : w5.cell? ⟨w.heap.size + 1, 1, none⟩ = some (.slice none 0 0) := br.cell 1
  have zo1 : w5.frozen? ⟨w.heap.size + 1 + 1, 1, none⟩ = false := bo.frozen 1
  have zr1 : w5.frozen? ⟨w.heap.size + 1, 1, none⟩ = false := br.frozen 1
  have fp2 : w5.cell? ⟨w.heap.size, 2, none⟩ = some (c2) := bp.cell 2
  have fo2 : w5.cell? ⟨w.heap.size + 1 + 1, 2, none⟩ = some (.slice A1_0 x.trust.keys.length k1_0) := bo.cell 2
  have fr2 : w5.cell? ⟨w.heap.size + 1, 2, none⟩ = some (.slice none 0 0) := br.cell 2
  have zo2 : w5.frozen? ⟨w.heap.size + 1 + 1, 2, none⟩ = false := bo.frozen 2
  have zr2 : w5.frozen? ⟨w.heap.size + 1, 2, none⟩ = false := br.frozen 2
  have fp3 : w5.cell? ⟨w.heap.size, 3, none⟩ = some (c3) := bp.cell 3
  have fo3 : w5.cell? ⟨w.heap.size + 1 + 1, 3, none⟩ = some (.slice A1_1 x.trust.rules.length k1_1) := bo.cell 3
  have fr3 : w5.cell? ⟨w.heap.size + 1, 3, none⟩ = some (.slice none 0 0) := br.cell 3
  have zo3 : w5.frozen? ⟨w.heap.size + 1 + 1, 3, none⟩ = false := bo.frozen 3
  have zr3 : w5.frozen? ⟨w.heap.size + 1, 3, none⟩ = false := br.frozen 3
  have fp4 : w5.cell? ⟨w.heap.size, 4, none⟩ = some (c4) := bp.cell 4
  have fo4 : w5.cell? ⟨w.heap.size + 1 + 1, 4, none⟩ = some (.slice A1_2 x.trust.anchors.length k1_2) := bo.cell 4
  have fr4 : w5.cell? ⟨w.heap.size + 1, 4, none⟩ = some (.slice none 0 0) := br.cell 4
  have zo4 : w5.frozen? ⟨w.heap.size + 1 + 1, 4, none⟩ = false := bo.frozen 4
  have zr4 : w5.frozen? ⟨w.heap.size + 1, 4, none⟩ = false := br.frozen 4
  have fp5 : w5.cell? ⟨w.heap.size, 5, none⟩ = some (c5) := bp.cell 5
  have fo5 : w5.cell? ⟨w.heap.size + 1 + 1, 5, none⟩ = some (.slice A1_3 x.trust.certificates.length k1_3) := bo.cell 5
  have fr5 : w5.cell? ⟨w.heap.size + 1, 5, none⟩ = some (.slice none 0 0) := br.cell 5
  have zo5 : w5.frozen? ⟨w.heap.size + 1 + 1, 5, none⟩ = false := bo.frozen 5
  have zr5 : w5.frozen? ⟨w.heap.size + 1, 5, none⟩ = false := br.frozen 5
  have fp6 : w5.cell? ⟨w.heap.size, 6, none⟩ = some (c6) := bp.cell 6
  have fo6 : w5.cell? ⟨w.heap.size + 1 + 1, 6, none⟩ = some (.slice A2 x.producers.length k2) := bo.cell 6
  have fr6 : w5.cell? ⟨w.heap.size + 1, 6, none⟩ = some (.slice none 0 0) := br.cell 6
  have zo6 : w5.frozen? ⟨w.heap.size + 1 + 1, 6, none⟩ = false := bo.frozen 6
  have zr6 : w5.frozen? ⟨w.heap.size + 1, 6, none⟩ = false := br.frozen 6
  have fp7 : w5.cell? ⟨w.heap.size, 7, none⟩ = some (c7) := bp.cell 7
  have fo7 : w5.cell? ⟨w.heap.size + 1 + 1, 7, none⟩ = some (.slice A3 x.nodes.length k3) := bo.cell 7
  have fr7 : w5.cell? ⟨w.heap.size + 1, 7, none⟩ = some (.slice none 0 0) := br.cell 7
  have zo7 : w5.frozen? ⟨w.heap.size + 1 + 1, 7, none⟩ = false := bo.frozen 7
  have zr7 : w5.frozen? ⟨w.heap.size + 1, 7, none⟩ = false := br.frozen 7
  have fp8 : w5.cell? ⟨w.heap.size, 8, none⟩ = some (.int .i64 x.downNodes) := bp.cell 8
  have fo8 : w5.cell? ⟨w.heap.size + 1 + 1, 8, none⟩ = some (.int .i64 x.downNodes) := bo.cell 8
  have fr8 : w5.cell? ⟨w.heap.size + 1, 8, none⟩ = some (.int .i64 0) := br.cell 8
  have zo8 : w5.frozen? ⟨w.heap.size + 1 + 1, 8, none⟩ = false := bo.frozen 8
  have zr8 : w5.frozen? ⟨w.heap.size + 1, 8, none⟩ = false := br.frozen 8
  have fp9 : w5.cell? ⟨w.heap.size, 9, none⟩ = some (c9) := bp.cell 9
  have fo9 : w5.cell? ⟨w.heap.size + 1 + 1, 9, none⟩ = some (.slice A4 x.failedLinks.length k4) := bo.cell 9
  have fr9 : w5.cell? ⟨w.heap.size + 1, 9, none⟩ = some (.slice none 0 0) := br.cell 9
  have zo9 : w5.frozen? ⟨w.heap.size + 1 + 1, 9, none⟩ = false := bo.frozen 9
  have zr9 : w5.frozen? ⟨w.heap.size + 1, 9, none⟩ = false := br.frozen 9
  have fp10 : w5.cell? ⟨w.heap.size, 10, none⟩ = some (c10) := bp.cell 10
  have fo10 : w5.cell? ⟨w.heap.size + 1 + 1, 10, none⟩ = some (.slice none 0 0) := bo.cell 10
  have fr10 : w5.cell? ⟨w.heap.size + 1, 10, none⟩ = some (.slice none 0 0) := br.cell 10
  have zo10 : w5.frozen? ⟨w.heap.size + 1 + 1, 10, none⟩ = false := bo.frozen 10
  have zr10 : w5.frozen? ⟨w.heap.size + 1, 10, none⟩ = false := br.frozen 10
  have fp11 : w5.cell? ⟨w.heap.size, 11, none⟩ = some (c11) := bp.cell 11
  have fo11 : w5.cell? ⟨w.heap.size + 1 + 1, 11, none⟩ = some (.slice none 0 0) := bo.cell 11
  have fr11 : w5.cell? ⟨w.heap.size + 1, 11, none⟩ = some (.slice none 0 0) := br.cell 11
  have zo11 : w5.frozen? ⟨w.heap.size + 1 + 1, 11, none⟩ = false := bo.frozen 11
  have zr11 : w5.frozen? ⟨w.heap.size + 1, 11, none⟩ = false := br.frozen 11
  have fp12 : w5.cell? ⟨w.heap.size, 12, none⟩ = some (.int .i64 x.now) := bp.cell 12
  have fo12 : w5.cell? ⟨w.heap.size + 1 + 1, 12, none⟩ = some (.int .i64 0) := bo.cell 12
  have fr12 : w5.cell? ⟨w.heap.size + 1, 12, none⟩ = some (.int .i64 0) := br.cell 12
  have zo12 : w5.frozen? ⟨w.heap.size + 1 + 1, 12, none⟩ = false := bo.frozen 12
  have zr12 : w5.frozen? ⟨w.heap.size + 1, 12, none⟩ = false := br.frozen 12
  have fp13 : w5.cell? ⟨w.heap.size, 13, none⟩ = some (.int .i64 x.dropped) := bp.cell 13
  have fo13 : w5.cell? ⟨w.heap.size + 1 + 1, 13, none⟩ = some (.int .i64 0) := bo.cell 13
  have fr13 : w5.cell? ⟨w.heap.size + 1, 13, none⟩ = some (.int .i64 0) := br.cell 13
  have zo13 : w5.frozen? ⟨w.heap.size + 1 + 1, 13, none⟩ = false := bo.frozen 13
  have zr13 : w5.frozen? ⟨w.heap.size + 1, 13, none⟩ = false := br.frozen 13
  go_wp2_with fail
  refine (toConsumerS_c _ x.consumers _ (sConsumerL.ext (by (repeat (refine Ext.setCell ?_ (by omega) _)); exact E5) r7) (by omega)).mono ?_
  rintro e w6 ⟨⟨r7', rfl, O6'⟩, hx6⟩
  have hn6 : w5.heap.size ≤ w6.heap.size := by have := hx6.size; simpa [World.setCell] using this
  obtain ⟨A6, k6, rfl, _, _⟩ := Shape.sl_form O6'.rd
  have O6 : sConsumerL.own (w5.heap.size) w6.heap.size w6 [.slice A6 x.consumers.length k6] x.consumers := by simpa [World.setCell] using O6'
  clear O6'
  replace bp : Blk w6 (w.heap.size) 37 #[.int .i64 x.topology.size, c1, c2, c3, c4, c5, c6, c7, .int .i64 x.downNodes, c9, c10, c11, .int .i64 x.now, .int .i64 x.dropped] := Blk.ext hx6 (by (repeat (refine Blk.far ?_ (by omega) _)); exact bp)
  replace br : Blk w6 (w.heap.size + 1) 58 #[.int .i64 0, .slice none 0 0, .slice none 0 0, .slice none 0 0, .slice none 0 0, .slice none 0 0, .slice none 0 0, .slice none 0 0, .int .i64 0, .slice none 0 0, .slice none 0 0, .slice none 0 0, .int .i64 0, .int .i64 0] := Blk.ext hx6 (by (repeat (refine Blk.far ?_ (by omega) _)); exact br)
  replace bo : Blk w6 (w.heap.size + 1 + 1) 58 #[.int .i64 x.topology.size, .slice A0_1 x.topology.links.length k0_1, .slice A1_0 x.trust.keys.length k1_0, .slice A1_1 x.trust.rules.length k1_1, .slice A1_2 x.trust.anchors.length k1_2, .slice A1_3 x.trust.certificates.length k1_3, .slice A2 x.producers.length k2, .slice A3 x.nodes.length k3, .int .i64 x.downNodes, .slice A4 x.failedLinks.length k4, .slice A5 x.inFlight.length k5, .slice none 0 0, .int .i64 0, .int .i64 0] := Blk.ext hx6 (by simpa using (Blk.set_ (bo) 10 _))
  have E6 : Ext w w6 := Ext.trans (by (repeat (refine Ext.setCell ?_ (by omega) _)); exact E5) hx6
  have Q6 : Fr (w.heap.size + 1 + 1 + 1) w5 w6 := Fr.trans (by (repeat (refine Fr.setCell ?_ (by omega) _)); exact Fr.refl _ _) (Fr.ext hx6)
  clear hx6
  clear fp0 fo0 fr0 zo0 zr0 fp1 fo1 fr1 zo1 zr1 fp2 fo2 fr2 zo2 zr2 fp3 fo3 fr3 zo3 zr3 fp4 fo4 fr4 zo4 zr4 fp5 fo5 fr5 zo5 zr5 fp6 fo6 fr6 zo6 zr6 fp7 fo7 fr7 zo7 zr7 fp8 fo8 fr8 zo8 zr8 fp9 fo9 fr9 zo9 zr9 fp10 fo10 fr10 zo10 zr10 fp11 fo11 fr11 zo11 zr11 fp12 fo12 fr12 zo12 zr12 fp13 fo13 fr13 zo13 zr13
  have fp0 : w6.cell? ⟨w.heap.size, 0, none⟩ = some (.int .i64 x.topology.size) := bp.cell 0
  have fo0 : w6.cell? ⟨w.heap.size + 1 + 1, 0, none⟩ = some (.int .i64 x.topology.size) := bo.cell 0
  have fr0 : w6.cell? ⟨w.heap.size + 1, 0, none⟩ = some (.int .i64 0) := br.cell 0
  have zo0 : w6.frozen? ⟨w.heap.size + 1 + 1, 0, none⟩ = false := bo.frozen 0
  have zr0 : w6.frozen? ⟨w.heap.size + 1, 0, none⟩ = false := br.frozen 0
  have fp1 : w6.cell? ⟨w.heap.size, 1, none⟩ = some (c1) := bp.cell 1
  have fo1 : w6.cell? ⟨w.heap.size + 1 + 1, 1, none⟩ = some (.slice A0_1 x.topology.links.length k0_1) := bo.cell 1
  have fr1 : w6.cell? ⟨w.heap.size + 1, 1, none⟩ = some (.slice none 0 0) := br.cell 1
  have zo1 : w6.frozen? ⟨w.heap.size + 1 + 1, 1, none⟩ = false := bo.frozen 1
  have zr1 : w6.frozen? ⟨w.heap.size + 1, 1, none⟩ = false := br.frozen 1
  have fp2 : w6.cell? ⟨w.heap.size, 2, none⟩ = some (c2) := bp.cell 2
  have fo2 : w6.cell? ⟨w.heap.size + 1 + 1, 2, none⟩ = some (.slice A1_0 x.trust.keys.length k1_0) := bo.cell 2
  have fr2 : w6.cell? ⟨w.heap.size + 1, 2, none⟩ = some (.slice none 0 0) := br.cell 2
  have zo2 : w6.frozen? ⟨w.heap.size + 1 + 1, 2, none⟩ = false := bo.frozen 2
  have zr2 : w6.frozen? ⟨w.heap.size + 1, 2, none⟩ = false := br.frozen 2
  have fp3 : w6.cell? ⟨w.heap.size, 3, none⟩ = some (c3) := bp.cell 3
  have fo3 : w6.cell? ⟨w.heap.size + 1 + 1, 3, none⟩ = some (.slice A1_1 x.trust.rules.length k1_1) := bo.cell 3
  have fr3 : w6.cell? ⟨w.heap.size + 1, 3, none⟩ = some (.slice none 0 0) := br.cell 3
  have zo3 : w6.frozen? ⟨w.heap.size + 1 + 1, 3, none⟩ = false := bo.frozen 3
  have zr3 : w6.frozen? ⟨w.heap.size + 1, 3, none⟩ = false := br.frozen 3
  have fp4 : w6.cell? ⟨w.heap.size, 4, none⟩ = some (c4) := bp.cell 4
  have fo4 : w6.cell? ⟨w.heap.size + 1 + 1, 4, none⟩ = some (.slice A1_2 x.trust.anchors.length k1_2) := bo.cell 4
  have fr4 : w6.cell? ⟨w.heap.size + 1, 4, none⟩ = some (.slice none 0 0) := br.cell 4
  have zo4 : w6.frozen? ⟨w.heap.size + 1 + 1, 4, none⟩ = false := bo.frozen 4
  have zr4 : w6.frozen? ⟨w.heap.size + 1, 4, none⟩ = false := br.frozen 4
  have fp5 : w6.cell? ⟨w.heap.size, 5, none⟩ = some (c5) := bp.cell 5
  have fo5 : w6.cell? ⟨w.heap.size + 1 + 1, 5, none⟩ = some (.slice A1_3 x.trust.certificates.length k1_3) := bo.cell 5
  have fr5 : w6.cell? ⟨w.heap.size + 1, 5, none⟩ = some (.slice none 0 0) := br.cell 5
  have zo5 : w6.frozen? ⟨w.heap.size + 1 + 1, 5, none⟩ = false := bo.frozen 5
  have zr5 : w6.frozen? ⟨w.heap.size + 1, 5, none⟩ = false := br.frozen 5
  have fp6 : w6.cell? ⟨w.heap.size, 6, none⟩ = some (c6) := bp.cell 6
  have fo6 : w6.cell? ⟨w.heap.size + 1 + 1, 6, none⟩ = some (.slice A2 x.producers.length k2) := bo.cell 6
  have fr6 : w6.cell? ⟨w.heap.size + 1, 6, none⟩ = some (.slice none 0 0) := br.cell 6
  have zo6 : w6.frozen? ⟨w.heap.size + 1 + 1, 6, none⟩ = false := bo.frozen 6
  have zr6 : w6.frozen? ⟨w.heap.size + 1, 6, none⟩ = false := br.frozen 6
  have fp7 : w6.cell? ⟨w.heap.size, 7, none⟩ = some (c7) := bp.cell 7
  have fo7 : w6.cell? ⟨w.heap.size + 1 + 1, 7, none⟩ = some (.slice A3 x.nodes.length k3) := bo.cell 7
  have fr7 : w6.cell? ⟨w.heap.size + 1, 7, none⟩ = some (.slice none 0 0) := br.cell 7
  have zo7 : w6.frozen? ⟨w.heap.size + 1 + 1, 7, none⟩ = false := bo.frozen 7
  have zr7 : w6.frozen? ⟨w.heap.size + 1, 7, none⟩ = false := br.frozen 7
  have fp8 : w6.cell? ⟨w.heap.size, 8, none⟩ = some (.int .i64 x.downNodes) := bp.cell 8
  have fo8 : w6.cell? ⟨w.heap.size + 1 + 1, 8, none⟩ = some (.int .i64 x.downNodes) := bo.cell 8
  have fr8 : w6.cell? ⟨w.heap.size + 1, 8, none⟩ = some (.int .i64 0) := br.cell 8
  have zo8 : w6.frozen? ⟨w.heap.size + 1 + 1, 8, none⟩ = false := bo.frozen 8
  have zr8 : w6.frozen? ⟨w.heap.size + 1, 8, none⟩ = false := br.frozen 8
  have fp9 : w6.cell? ⟨w.heap.size, 9, none⟩ = some (c9) := bp.cell 9
  have fo9 : w6.cell? ⟨w.heap.size + 1 + 1, 9, none⟩ = some (.slice A4 x.failedLinks.length k4) := bo.cell 9
  have fr9 : w6.cell? ⟨w.heap.size + 1, 9, none⟩ = some (.slice none 0 0) := br.cell 9
  have zo9 : w6.frozen? ⟨w.heap.size + 1 + 1, 9, none⟩ = false := bo.frozen 9
  have zr9 : w6.frozen? ⟨w.heap.size + 1, 9, none⟩ = false := br.frozen 9
  have fp10 : w6.cell? ⟨w.heap.size, 10, none⟩ = some (c10) := bp.cell 10
  have fo10 : w6.cell? ⟨w.heap.size + 1 + 1, 10, none⟩ = some (.slice A5 x.inFlight.length k5) := bo.cell 10
  have fr10 : w6.cell? ⟨w.heap.size + 1, 10, none⟩ = some (.slice none 0 0) := br.cell 10
  have zo10 : w6.frozen? ⟨w.heap.size + 1 + 1, 10, none⟩ = false := bo.frozen 10
  have zr10 : w6.frozen? ⟨w.heap.size + 1, 10, none⟩ = false := br.frozen 10
  have fp11 : w6.cell? ⟨w.heap.size, 11, none⟩ = some (c11) := bp.cell 11
  have fo11 : w6.cell? ⟨w.heap.size + 1 + 1, 11, none⟩ = some (.slice none 0 0) := bo.cell 11
  have fr11 : w6.cell? ⟨w.heap.size + 1, 11, none⟩ = some (.slice none 0 0) := br.cell 11
  have zo11 : w6.frozen? ⟨w.heap.size + 1 + 1, 11, none⟩ = false := bo.frozen 11
  have zr11 : w6.frozen? ⟨w.heap.size + 1, 11, none⟩ = false := br.frozen 11
  have fp12 : w6.cell? ⟨w.heap.size, 12, none⟩ = some (.int .i64 x.now) := bp.cell 12
  have fo12 : w6.cell? ⟨w.heap.size + 1 + 1, 12, none⟩ = some (.int .i64 0) := bo.cell 12
  have fr12 : w6.cell? ⟨w.heap.size + 1, 12, none⟩ = some (.int .i64 0) := br.cell 12
  have zo12 : w6.frozen? ⟨w.heap.size + 1 + 1, 12, none⟩ = false := bo.frozen 12
  have zr12 : w6.frozen? ⟨w.heap.size + 1, 12, none⟩ = false := br.frozen 12
  have fp13 : w6.cell? ⟨w.heap.size, 13, none⟩ = some (.int .i64 x.dropped) := bp.cell 13
  have fo13 : w6.cell? ⟨w.heap.size + 1 + 1, 13, none⟩ = some (.int .i64 0) := bo.cell 13
  have fr13 : w6.cell? ⟨w.heap.size + 1, 13, none⟩ = some (.int .i64 0) := br.cell 13
  have zo13 : w6.frozen? ⟨w.heap.size + 1 + 1, 13, none⟩ = false := bo.frozen 13
  have zr13 : w6.frozen? ⟨w.heap.size + 1, 13, none⟩ = false := br.frozen 13
  go_wp2
  refine bodyPost_ret (v := .agg #[.int .i64 x.topology.size, .slice A0_1 x.topology.links.length k0_1, .slice A1_0 x.trust.keys.length k1_0, .slice A1_1 x.trust.rules.length k1_1, .slice A1_2 x.trust.anchors.length k1_2, .slice A1_3 x.trust.certificates.length k1_3, .slice A2 x.producers.length k2, .slice A3 x.nodes.length k3, .int .i64 x.downNodes, .slice A4 x.failedLinks.length k4, .slice A5 x.inFlight.length k5, .slice A6 x.consumers.length k6, .int .i64 x.now, .int .i64 x.dropped]) (by simp [results, Tryz.results10, go_sem, fr0, fr1, fr2, fr3, fr4, fr5, fr6, fr7, fr8, fr9, fr10, fr11, fr12, fr13]) rfl ⟨⟨_, rfl, ?_⟩, ?_⟩
  · have hsz : ∀ (W : World) (p : Addr) (u : Value), (W.setCell p u).heap.size = W.heap.size := fun W p u => by simp [World.setCell]
    simp only [hsz]
    have QF := fun W => fun h : Fr (w.heap.size + 1 + 1 + 1) w6 W => h
    clear QF
    refine Shape.own.via ?_
    refine Shape.own.pair (lo := w.heap.size) (m := w0.heap.size) (m' := w0.heap.size) (cs := [_, _]) ?_ (by omega) ?_ (by omega) (by omega)
    · refine Shape.own.wide (lo := w.heap.size + 1 + 1 + 1) (hi := w0.heap.size) ?_ (by omega) (by omega)
      exact Shape.own.fr (N := w.heap.size + 1 + 1 + 1) ((((((O0.fr Q1 (by omega) (by omega)).fr Q2 (by omega) (by omega)).fr Q3 (by omega) (by omega)).fr Q4 (by omega) (by omega)).fr Q5 (by omega) (by omega)).fr Q6 (by omega) (by omega)) (by (repeat (refine Fr.setCell ?_ (by omega) _)); exact Fr.refl _ _) (by omega) (by omega)
    refine Shape.own.pair (lo := w0.heap.size) (m := w1.heap.size) (m' := w1.heap.size) (cs := [_, _, _, _]) ?_ (by omega) ?_ (by omega) (by omega)
    · refine Shape.own.wide (lo := w0.heap.size) (hi := w1.heap.size) ?_ (by omega) (by omega)
      exact Shape.own.fr (N := w.heap.size + 1 + 1 + 1) (((((O1.fr Q2 (by omega) (by omega)).fr Q3 (by omega) (by omega)).fr Q4 (by omega) (by omega)).fr Q5 (by omega) (by omega)).fr Q6 (by omega) (by omega)) (by (repeat (refine Fr.setCell ?_ (by omega) _)); exact Fr.refl _ _) (by omega) (by omega)
    refine Shape.own.pair (lo := w1.heap.size) (m := w2.heap.size) (m' := w2.heap.size) (cs := [_]) ?_ (by omega) ?_ (by omega) (by omega)
    · refine Shape.own.wide (lo := w1.heap.size) (hi := w2.heap.size) ?_ (by omega) (by omega)
      exact Shape.own.fr (N := w.heap.size + 1 + 1 + 1) ((((O2.fr Q3 (by omega) (by omega)).fr Q4 (by omega) (by omega)).fr Q5 (by omega) (by omega)).fr Q6 (by omega) (by omega)) (by (repeat (refine Fr.setCell ?_ (by omega) _)); exact Fr.refl _ _) (by omega) (by omega)
    refine Shape.own.pair (lo := w2.heap.size) (m := w3.heap.size) (m' := w3.heap.size) (cs := [_]) ?_ (by omega) ?_ (by omega) (by omega)
    · refine Shape.own.wide (lo := w2.heap.size) (hi := w3.heap.size) ?_ (by omega) (by omega)
      exact Shape.own.fr (N := w.heap.size + 1 + 1 + 1) (((O3.fr Q4 (by omega) (by omega)).fr Q5 (by omega) (by omega)).fr Q6 (by omega) (by omega)) (by (repeat (refine Fr.setCell ?_ (by omega) _)); exact Fr.refl _ _) (by omega) (by omega)
    refine Shape.own.pair (lo := w3.heap.size) (m := w3.heap.size) (m' := w3.heap.size) (cs := [_]) ?_ (by omega) ?_ (by omega) (by omega)
    · exact Shape.own_int r4
    refine Shape.own.pair (lo := w3.heap.size) (m := w4.heap.size) (m' := w4.heap.size) (cs := [_]) ?_ (by omega) ?_ (by omega) (by omega)
    · refine Shape.own.wide (lo := w3.heap.size) (hi := w4.heap.size) ?_ (by omega) (by omega)
      exact Shape.own.fr (N := w.heap.size + 1 + 1 + 1) ((O4.fr Q5 (by omega) (by omega)).fr Q6 (by omega) (by omega)) (by (repeat (refine Fr.setCell ?_ (by omega) _)); exact Fr.refl _ _) (by omega) (by omega)
    refine Shape.own.pair (lo := w4.heap.size) (m := w5.heap.size) (m' := w5.heap.size) (cs := [_]) ?_ (by omega) ?_ (by omega) (by omega)
    · refine Shape.own.wide (lo := w4.heap.size) (hi := w5.heap.size) ?_ (by omega) (by omega)
      exact Shape.own.fr (N := w.heap.size + 1 + 1 + 1) (O5.fr Q6 (by omega) (by omega)) (by (repeat (refine Fr.setCell ?_ (by omega) _)); exact Fr.refl _ _) (by omega) (by omega)
    refine Shape.own.pair (lo := w5.heap.size) (m := w6.heap.size) (m' := w6.heap.size) (cs := [_]) ?_ (by omega) ?_ (by omega) (by omega)
    · refine Shape.own.wide (lo := w5.heap.size) (hi := w6.heap.size) ?_ (by omega) (by omega)
      exact Shape.own.fr (N := w.heap.size + 1 + 1 + 1) O6 (by (repeat (refine Fr.setCell ?_ (by omega) _)); exact Fr.refl _ _) (by omega) (by omega)
    refine Shape.own.pair (lo := w6.heap.size) (m := w6.heap.size) (m' := w6.heap.size) (cs := [_]) ?_ (by omega) ?_ (by omega) (by omega)
    · exact Shape.own_int r8
    exact Shape.own_int r9
  · (repeat (refine Ext.setCell ?_ (by omega) _)); exact E6

end Go.Proofs.YtjdhggkbdognnaaGreat
