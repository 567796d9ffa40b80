import Derived.Test.YteebeeoimghmhaaGreatDoorRaw
import Derived.Test.YteebeeoimghmhaaGreatDoorProg
import Derived.WalkKit
import Derived.Shelf.RegionOpenPlain
import Derived.Lib.SliceRun
import Derived.Lib.JoinLaws
import Derived.Lib.Overlaps
import Derived.Lib.AppendZerosOnto
import Derived.Laws.Externs
import Derived.Laws.NewBlocks
import Derived.Shelf.Spec.SlicesInsert
import Derived.Test.YteebeeoimghmhaaGreatDoorExG
namespace Go.Proofs.YteebeeoimghmhaaGreatDoor
open Go.RowKit Go.Lib
set_option linter.unusedVariables false
set_option linter.unusedSimpArgs false
abbrev INSF : FuncId := 139
abbrev OVLF : FuncId := 152
abbrev TS : TypeId := 56
abbrev TE : TypeId := 89
set_option maxHeartbeats 4000000 in
set_option maxRecDepth 1000000 in
theorem ins_shift (g c n i vb voff m vc : Nat) (cs vs : List Value) (w : World) (hi : i < n) (hm : 0 < m) (hroom : n + m ≤ c) (hc63 : c ≤ 9223372036854775807) (hvb : vb ≠ g) (hcl : cs.length = n * 2) (hvl : vs.length = m * 2)
  (hcs : ∀ j v, cs[j]? = some v → w.cell? ⟨g, j, none⟩ = some v) (hsp : ∀ j, j < (n + m) * 2 → (w.cell? ⟨g, j, none⟩).isSome = true) (hfz : ∀ j, j < (n + m) * 2 → w.frozen? ⟨g, j, none⟩ = false)
  (hvs : ∀ j v, vs[j]? = some v → w.cell? ⟨vb, voff + j, none⟩ = some v) (h1c : ∀ v ∈ cs, oneV v) (h1v : ∀ v ∈ vs, oneV v)
  (tA tB : TypeId) (kA kB : Nat) (hsa : w.shape? vb = some (tA, kA)) (hsb : w.shape? g = some (tB, kB)) (hkB : kB ≠ 0) (hfa : w.frozen? ⟨vb, voff, none⟩ = false) (hfe : w.frozen? ⟨vb, kA, none⟩ = false) :
  Calls Tryz.prog INSF #[.slice (some ⟨g, 0, none⟩) n c, .int .i64 i, .slice (some ⟨vb, voff, none⟩) m vc] w fun e w' =>
   e = .returned (.slice (some ⟨g, 0, none⟩) (n + m) c) ∧ w' = (w.drew.setCells g ((i + m) * 2) (cs.drop (i * 2))).setCells g (i * 2) vs := by
 have hz1 : ¬ ((m : Int) = 0) := by omega
 have hz2 : ¬ ((i : Int) = (n : Int)) := by omega
 have hsz : (Tryz.prog.info? TE).map (·.size) = some 2 := by kernel_rfl
 have hov : ∀ lb cb, (callFunc OVLF #[.slice (some ⟨vb, voff, none⟩) m vc, .slice (some ⟨g, (i + m) * 2, none⟩) lb cb]).run Tryz.prog w = .ok (.value (.bool false)) w := fun lb cb => by
  rw [run_callFunc_extern Tryz.func152 (by kernel_rfl) (by kernel_rfl) (by kernel_rfl) (e := Extern.SlicesOverlaps.overlaps #[TS, TS] #[4]) (by kernel_rfl),
   Lib.run_overlaps_apart w TS 4 TE Tryz.underlying56 2 (fun _ => by kernel_rfl) ⟨vb, voff, none⟩ ⟨g, (i + m) * 2, none⟩ m vc lb cb hvb tA tB kA kB hsa hsb hkB hfa hfe]
  rfl
 have hdl : (cs.drop (i * 2)).length = (n - i) * 2 := by rw [List.length_drop, hcl]; omega
 have mixed : Tryz.prog.follows .mixedOrders = true := by kernel_rfl
 have hw1 : IntKind.i64.wrap ((i : Int) + (m : Int)) = (i : Int) + (m : Int) := by rw [IntKind.wrap_i64]; omega
 have hb1 : (0 : Int) ≤ (i : Int) + (m : Int) := by omega
 have hin : i ≤ n := by omega
 have htn : ((i : Int) + (m : Int)).toNat = i + m := by omega
 have hb2 : ¬ (c = i + m) := by omega
 have hb3 : (i : Int) ≤ (n : Int) + (m : Int) := by omega
 have hb4 : ¬ (c = i) := by omega
 have hcp1 : ∀ ty dc sc, (Builtin.copy_ #[TS, TS] ty #[.slice (some ⟨g, (i + m) * 2, none⟩) (n + m - (i + m)) dc, .slice (some ⟨g, i * 2, none⟩) (n + m - i) sc]).run Tryz.prog w.drew = .ok (goInt (Nat.min (n + m - i) (n + m - (i + m)))) (w.drew.setCells g ((i + m) * 2) (cs.drop (i * 2))) := fun ty dc sc =>
  run_copy_rows w.drew TS TS ty TE 2 g ((i + m) * 2) (n + m - (i + m)) dc ⟨g, i * 2, none⟩ (n + m - i) sc (cs.drop (i * 2)) Tryz.underlying56 hsz (by rw [hdl]; simp only [Nat.min_def]; split <;> omega)
   (fun j v hj => by rw [Addr.add_lit]; exact hcs (i * 2 + j) v (by rwa [List.getElem?_drop] at hj))
   (fun j hj => hsp _ (by omega)) (fun j hj => hfz _ (by omega)) (fun v hv => h1c v (List.mem_of_mem_drop hv))
 obtain ⟨W1, hW1⟩ : ∃ W1, W1 = w.drew.setCells g ((i + m) * 2) (cs.drop (i * 2)) := ⟨_, rfl⟩
 have hsp1 : ∀ k, k < (n + m) * 2 → (W1.cell? ⟨g, k, none⟩).isSome = true := fun k hk => by
  rw [hW1]
  exact isSome_setCells g (cs.drop (i * 2)) ((i + m) * 2) w.drew (fun j hj => hsp _ (by omega)) _ (hsp k hk)
 have hcp2 : ∀ (W : World), (∀ x, W.cell? x = W1.cell? x) → (∀ x, W.frozen? x = W1.frozen? x) → ∀ ty dc, (Builtin.copy_ #[TS, TS] ty #[.slice (some ⟨g, i * 2, none⟩) (n + m - i) dc, .slice (some ⟨vb, voff, none⟩) m vc]).run Tryz.prog W = .ok (goInt (Nat.min m (n + m - i))) (W.setCells g (i * 2) vs) := fun W hWc hWf ty dc =>
  run_copy_rows W TS TS ty TE 2 g (i * 2) (n + m - i) dc ⟨vb, voff, none⟩ m vc vs Tryz.underlying56 hsz (by rw [hvl]; simp only [Nat.min_def]; split <;> omega)
   (fun j v hj => by
    rw [Addr.add_lit, hWc, hW1, World.cell?_setCells_out g _ _ _ _ (fun h _ => absurd h hvb)]
    exact hvs j v hj)
   (fun j hj => by rw [hWc]; exact hsp1 _ (by omega)) (fun j hj => by rw [hWf, hW1, World.frozen?_setCells]; exact hfz _ (by omega)) h1v
 rw [← hW1] at hcp1
 go_enter Tryz.func139, Tryz.ntmps139
 go_wp2_with (simp only [hov])
 go_region_law_o (refine step_copy_runI rfl _ _ TS TS rfl _ _ (by simp [Act.eval, Act.put]) (by simp [Act.eval, Act.put]) (hcp1 _ _ _) ?_)
 go_wp2_with (at_builtin; refine wpList_copy_runI _ rfl _ _ TS TS rfl _ _ rfl rfl (hcp2 _ (fun _ => rfl) (fun _ => rfl) _ _) ?_)
 go_ret
 first | exact ⟨rfl, rfl⟩ | exact ⟨rfl, by rw [hW1]⟩
set_option maxHeartbeats 4000000 in
set_option maxRecDepth 1000000 in
theorem ins_room (g c n vb voff m vc : Nat) (vs : List Value) (w : World) (hm : 0 < m) (hroom : n + m ≤ c) (hc63 : c ≤ 9223372036854775807) (hvl : vs.length = m * 2)
  (hsp : ∀ j, j < (n + m) * 2 → (w.cell? ⟨g, j, none⟩).isSome = true) (hfz : ∀ j, j < (n + m) * 2 → w.frozen? ⟨g, j, none⟩ = false) (hvs : ∀ j v, vs[j]? = some v → w.cell? ⟨vb, voff + j, none⟩ = some v) (h1v : ∀ v ∈ vs, oneV v) :
  Calls Tryz.prog INSF #[.slice (some ⟨g, 0, none⟩) n c, .int .i64 n, .slice (some ⟨vb, voff, none⟩) m vc] w fun e w' =>
   e = .returned (.slice (some ⟨g, 0, none⟩) (n + m) c) ∧ w' = w.setCells g (n * 2) vs := by
 have hz1 : ¬ ((m : Int) = 0) := by omega
 have mixed : Tryz.prog.follows .mixedOrders = true := by kernel_rfl
 obtain ⟨i0, hi0, hz0, hzs, hzb⟩ := info_parts (show (Tryz.prog.info? TE).map (fun i => (i.zero, i.size, i.bytes)) = some (some (.agg #[.slice none 0 0, .int .i64 0]), 2, 32) by kernel_rfl)
 have hsrc : Src Tryz.prog i0.size TS (.slice (some ⟨vb, voff, none⟩) m vc) m vs w := by
  rw [hzs]
  exact Src.ofSlice w Tryz.underlying56 ⟨vb, voff, none⟩ m vc vs hvl (fun j u hj => by rw [Addr.add_lit]; exact hvs j u hj) (fun v hv => oneV_to (h1v v hv))
 have hrun : ∀ ty, (Builtin.append_ #[TS, TS] ty #[.slice (some ⟨g, 0, none⟩) n c, .slice (some ⟨vb, voff, none⟩) m vc]).run Tryz.prog w = .ok (.slice (some ⟨g, 0, none⟩) (n + m) c) (w.setCells g (n * 2) vs) := fun ty => by
  have := run_append_room_src w TS TS ty TE i0 Tryz.underlying56 hi0 g 0 n c _ m vs hsrc hroom (fun j hj => by rw [hzs, Nat.zero_add]; exact hsp _ (by omega)) (fun j hj => by rw [hzs, Nat.zero_add]; exact hfz _ (by omega))
  rw [hzs, Nat.zero_add] at this
  exact this
 go_enter Tryz.func139, Tryz.ntmps139
 go_wp2_with (at_builtin; refine Lib.wpList_append_run _ rfl _ _ _ _ rfl _ _ rfl rfl _ _ (hrun _) ?_)
 go_ret
 exact ⟨rfl, rfl⟩
set_option maxHeartbeats 4000000 in
set_option maxRecDepth 1000000 in
theorem ins_end (base : Option Addr) (n c vb voff m vc : Nat) (cs vs : List Value) (w : World) (hm : 0 < m) (hnc : n ≤ c) (hroom : c < n + m) (hbig : (n + m) * 32 ≤ 140737488355328) (hcl : cs.length = n * 2) (hvl : vs.length = m * 2) (hnil : base = none → n = 0)
  (hcs : ∀ a, base = some a → ∀ j v, cs[j]? = some v → w.cell? (a.add j) = some v) (hvs : ∀ j v, vs[j]? = some v → w.cell? ⟨vb, voff + j, none⟩ = some v) (h1v : ∀ v ∈ vs, oneV v) :
  Calls Tryz.prog INSF #[.slice base n c, .int .i64 n, .slice (some ⟨vb, voff, none⟩) m vc] w fun e w' =>
   e = .returned (.slice (some ⟨w.heap.size, 0, none⟩) (n + m) (grownCap w (n + m) c TE)) ∧
   w' = w.drew.alloc (.cells ((cs ++ vs).toArray ++ Builtin.zeroCells (Value.agg #[.slice none 0 0, .int .i64 0]).cells (grownCap w (n + m) c TE - (n + m))) TE) := by
 have mixed : Tryz.prog.follows .mixedOrders = true := by kernel_rfl
 obtain ⟨i0, hi0, hz0, hzs, hzb⟩ := info_parts (show (Tryz.prog.info? TE).map (fun i => (i.zero, i.size, i.bytes)) = some (some (.agg #[.slice none 0 0, .int .i64 0]), 2, 32) by kernel_rfl)
 have hz1 : ¬ ((m : Int) = 0) := by omega
 have hsrc : Src Tryz.prog i0.size TS (.slice (some ⟨vb, voff, none⟩) m vc) m vs w := by
  rw [hzs]
  exact Src.ofSlice w Tryz.underlying56 ⟨vb, voff, none⟩ m vc vs hvl (fun j u hj => by rw [Addr.add_lit]; exact hvs j u hj) (fun v hv => oneV_to (h1v v hv))
 have hold : (Builtin.firstCells i0.size n (.slice base n c)).run Tryz.prog w.drew = .ok cs.toArray w.drew := by
  rw [hzs]
  cases base with
  | none =>
   have h0 := hnil rfl
   subst h0
   rw [show cs = [] from List.length_eq_zero_iff.1 (by simpa using hcl)]
   exact run_firstCells_none w.drew 2 0 0 c
  | some a => exact run_firstCells_some w.drew 2 n a n c cs hcl (fun j v hj => hcs a rfl j v hj)
 have hrun : ∀ ty, (Builtin.append_ #[TS, TS] ty #[.slice base n c, .slice (some ⟨vb, voff, none⟩) m vc]).run Tryz.prog w = _ := fun ty =>
  run_append_grow_src w TS TS ty TE i0 _ Tryz.underlying56 hi0 hz0 base n c cs hold _ m vs hsrc hroom (by omega) (by rw [hzb]; exact growslice_fits hroom hbig)
 go_enter Tryz.func139, Tryz.ntmps139
 cases base with
 | none =>
  have h0 := hnil rfl
  subst h0
  go_wp2_with (at_builtin; refine Lib.wpList_append_run _ rfl _ _ _ _ rfl _ _ rfl rfl _ _ (hrun _) ?_)
  go_ret
  exact ⟨rfl, rfl⟩
 | some a =>
  obtain ⟨ab, ao, asp⟩ := a
  go_wp2_with (at_builtin; refine Lib.wpList_append_run _ rfl _ _ _ _ rfl _ _ rfl rfl _ _ (hrun _) ?_)
  all_goals (go_ret; exact ⟨rfl, rfl⟩)
set_option maxHeartbeats 4000000 in
set_option maxRecDepth 1000000 in
theorem ins_grow (g c n i vb voff m vc : Nat) (cs vs : List Value) (w : World) (hi : i < n) (hm : 0 < m) (hnc : n ≤ c) (hroom : c < n + m) (hbig : (n + m) * 32 ≤ 140737488355328) (hcl : cs.length = n * 2) (hvl : vs.length = m * 2)
  (hcs : ∀ j v, cs[j]? = some v → w.cell? ⟨g, j, none⟩ = some v) (hvs : ∀ j v, vs[j]? = some v → w.cell? ⟨vb, voff + j, none⟩ = some v) (h1c : ∀ v ∈ cs, oneV v) (h1v : ∀ v ∈ vs, oneV v) :
  Calls Tryz.prog INSF #[.slice (some ⟨g, 0, none⟩) n c, .int .i64 i, .slice (some ⟨vb, voff, none⟩) m vc] w fun e w' =>
   e = .returned (.slice (some ⟨w.heap.size, 0, none⟩) (n + m) (grownCap w (n + m) c TE)) ∧
   w' = (((w.alloc (.cells ((cs.take (i * 2)).toArray ++ Builtin.zeroCells (Value.agg #[.slice none 0 0, .int .i64 0]).cells (n + m - i) ++ Builtin.zeroCells (Value.agg #[.slice none 0 0, .int .i64 0]).cells (grownCap w (n + m) c TE - (n + m))) TE)).drew.setCells w.heap.size (i * 2) vs).drew).setCells w.heap.size ((i + m) * 2) (cs.drop (i * 2)) := by
 have mixed : Tryz.prog.follows .mixedOrders = true := by kernel_rfl
 obtain ⟨i0, hi0, hz0, hzs, hzb⟩ := info_parts (show (Tryz.prog.info? TE).map (fun i => (i.zero, i.size, i.bytes)) = some (some (.agg #[.slice none 0 0, .int .i64 0]), 2, 32) by kernel_rfl)
 have hz1 : ¬ ((m : Int) = 0) := by omega
 have hz2 : ¬ ((i : Int) = (n : Int)) := by omega
 have hz3 : (c : Int) < (n : Int) + (m : Int) := by omega
 have hsz : (Tryz.prog.info? TE).map (·.size) = some 2 := by rw [hi0]; simp [hzs]
 have hbw : g < w.heap.size := block_lt_of_cell (hcs 0 _ (List.getElem?_eq_getElem (by omega)))
 have hvw : vb < w.heap.size := block_lt_of_cell (hvs 0 _ (List.getElem?_eq_getElem (by omega)))
 have hkk : (n : Int) + (m : Int) - (i : Int) = ((n + m - i : Nat) : Int) := by omega
 have hik : i + (n + m - i) = n + m := by omega
 have hold : (Builtin.firstCells i0.size i (.slice (some ⟨g, 0, none⟩) i c)).run Tryz.prog w.drew = .ok (cs.take (i * 2)).toArray w.drew := by
  rw [hzs]
  exact run_firstCells_some w.drew 2 i ⟨g, 0, none⟩ i c (cs.take (i * 2)) (by rw [List.length_take]; omega) (fun j v hj => by
   rw [Addr.add_lit, Nat.zero_add]
   rw [List.getElem?_take] at hj
   split at hj
   ·exact hcs j v hj
   ·cases hj)
 have hrz : ∀ ty, (Builtin.append_ #[TS, 3] ty #[.slice (some ⟨g, 0, none⟩) i c, .int .i64 ((n : Int) + (m : Int) - (i : Int))]).run Tryz.prog w =
   .ok (.slice (some ⟨w.heap.size, 0, none⟩) (n + m) (grownCap w (n + m) c TE)) (w.drew.alloc (.cells ((cs.take (i * 2)).toArray ++ Builtin.zeroCells (Value.agg #[.slice none 0 0, .int .i64 0]).cells (n + m - i) ++ Builtin.zeroCells (Value.agg #[.slice none 0 0, .int .i64 0]).cells (grownCap w (n + m) c TE - (n + m))) TE)) := fun ty => by
  have h := Lib.run_append_grow_zeros w TS 3 ty TE i0 _ .i64 .i64 Tryz.underlying56 Tryz.underlying3 hi0 hz0 (some ⟨g, 0, none⟩) i c (cs.take (i * 2)) hold (n + m - i) (by omega) (by omega) (by omega) (by omega) (by rw [hzb]; omega) (by rw [hzb, hik]; exact growslice_fits hroom hbig)
  rw [hik] at h
  rw [hkk]
  exact h
 obtain ⟨G, hG⟩ : ∃ G, G = grownCap w (n + m) c TE := ⟨_, rfl⟩
 obtain ⟨ROW, hROW⟩ : ∃ ROW : Array Value, ROW = (cs.take (i * 2)).toArray ++ Builtin.zeroCells (Value.agg #[.slice none 0 0, .int .i64 0]).cells (n + m - i) ++ Builtin.zeroCells (Value.agg #[.slice none 0 0, .int .i64 0]).cells (G - (n + m)) := ⟨_, rfl⟩
 rw [← hG] at hrz ⊢
 rw [← hROW] at hrz ⊢
 have hRl : (n + m) * 2 ≤ ROW.size := by
  rw [hROW]
  have e2 : (Value.agg #[.slice none 0 0, .int .i64 0]).cells.size = 2 := rfl
  simp only [Array.size_append, Builtin.zeroCells, Array.size_map, Array.size_range, e2, List.size_toArray, List.length_take]
  omega
 obtain ⟨W1, hW1⟩ : ∃ W1, W1 = w.drew.alloc (.cells ROW TE) := ⟨_, rfl⟩
 rw [← hW1] at hrz
 have hN : ∀ j, j < (n + m) * 2 → (W1.cell? ⟨w.heap.size, j, none⟩).isSome = true := fun j hj => by
  rw [hW1, World.cell?_alloc_at (w := w.drew) ROW _ w.heap.size j rfl, Array.getElem?_eq_getElem (by omega)]; rfl
 have hNf : ∀ j, W1.frozen? ⟨w.heap.size, j, none⟩ = false := fun j => by rw [hW1]; exact World.frozen?_alloc_at (w := w.drew) ROW _ w.heap.size j rfl
 have hOb : ∀ j v, w.cell? ⟨g, j, none⟩ = some v → W1.cell? ⟨g, j, none⟩ = some v := fun j v h => by rw [hW1, World.cell?_alloc_past (w := w.drew) _ g j hbw]; exact h
 have hOv : ∀ j v, w.cell? ⟨vb, j, none⟩ = some v → W1.cell? ⟨vb, j, none⟩ = some v := fun j v h => by rw [hW1, World.cell?_alloc_past (w := w.drew) _ vb j hvw]; exact h
 have hcpA : ∀ (W : World), (∀ x, W.cell? x = W1.cell? x) → (∀ x, W.frozen? x = W1.frozen? x) → ∀ ty dc, (Builtin.copy_ #[TS, TS] ty #[.slice (some ⟨w.heap.size, i * 2, none⟩) (n + m - i) dc, .slice (some ⟨vb, voff, none⟩) m vc]).run Tryz.prog W = .ok (goInt (Nat.min m (n + m - i))) (W.setCells w.heap.size (i * 2) vs) := fun W hWc hWf ty dc =>
  run_copy_rows W TS TS ty TE 2 w.heap.size (i * 2) (n + m - i) dc ⟨vb, voff, none⟩ m vc vs Tryz.underlying56 hsz (by rw [hvl]; simp only [Nat.min_def]; split <;> omega)
   (fun j v hj => by rw [Addr.add_lit, hWc]; exact hOv _ v (hvs j v hj))
   (fun j hj => by rw [hWc]; exact hN _ (by omega)) (fun j hj => by rw [hWf]; exact hNf _) h1v
 have hGn : n + m ≤ G := by rw [hG]; exact grownCap_ge w _ _ _
 have hG63 : G ≤ 9223372036854775807 := by
  have := grownCap_le_maxLen w (n + m) c TE (by unfold maxLen; omega)
  rw [← hG] at this
  unfold maxLen at this
  omega
 have hGi : ¬ (G = i) := by omega
 have hGim : ¬ (G = i + m) := by omega
 have hci : ¬ (c = i) := by omega
 have hbN : g ≠ w.heap.size := by omega
 have hdl : (cs.drop (i * 2)).length = (n - i) * 2 := by rw [List.length_drop, hcl]; omega
 have hcpB : ∀ (W : World), (∀ x, W.cell? x = (W1.setCells w.heap.size (i * 2) vs).cell? x) → (∀ x, W.frozen? x = (W1.setCells w.heap.size (i * 2) vs).frozen? x) → ∀ ty dc sc, (Builtin.copy_ #[TS, TS] ty #[.slice (some ⟨w.heap.size, (i + m) * 2, none⟩) (n + m - (i + m)) dc, .slice (some ⟨g, i * 2, none⟩) (n - i) sc]).run Tryz.prog W = .ok (goInt (Nat.min (n - i) (n + m - (i + m)))) (W.setCells w.heap.size ((i + m) * 2) (cs.drop (i * 2))) := fun W hWc hWf ty dc sc =>
  run_copy_rows W TS TS ty TE 2 w.heap.size ((i + m) * 2) (n + m - (i + m)) dc ⟨g, i * 2, none⟩ (n - i) sc (cs.drop (i * 2)) Tryz.underlying56 hsz (by rw [hdl]; simp only [Nat.min_def]; split <;> omega)
   (fun j v hj => by
    rw [Addr.add_lit, hWc, World.cell?_setCells_out _ _ _ _ _ (fun h _ => absurd h hbN)]
    exact hOb _ v (hcs (i * 2 + j) v (by rwa [List.getElem?_drop] at hj)))
   (fun j hj => by rw [hWc]; exact isSome_setCells w.heap.size vs (i * 2) W1 (fun t ht => hN _ (by omega)) _ (hN _ (by omega)))
   (fun j hj => by rw [hWf, World.frozen?_setCells]; exact hNf _) (fun v hv => h1c v (List.mem_of_mem_drop hv))
 subst hW1
 have hE1 : ∀ x, ((w.alloc (.cells ROW TE)).drew).cell? x = (w.drew.alloc (.cells ROW TE)).cell? x := fun x => rfl
 have hE2 : ∀ x, ((w.alloc (.cells ROW TE)).drew).frozen? x = (w.drew.alloc (.cells ROW TE)).frozen? x := fun x => rfl
 have hF1 : ∀ x, (((w.alloc (.cells ROW TE)).drew.setCells w.heap.size (i * 2) vs).drew).cell? x = ((w.drew.alloc (.cells ROW TE)).setCells w.heap.size (i * 2) vs).cell? x := fun x => rfl
 have hF2 : ∀ x, (((w.alloc (.cells ROW TE)).drew.setCells w.heap.size (i * 2) vs).drew).frozen? x = ((w.drew.alloc (.cells ROW TE)).setCells w.heap.size (i * 2) vs).frozen? x := fun x => rfl
 have hw1 : IntKind.i64.wrap ((i : Int) + (m : Int)) = (i : Int) + (m : Int) := by rw [IntKind.wrap_i64]; omega
 have hb1 : (0 : Int) ≤ (i : Int) + (m : Int) := by omega
 have hin : i ≤ n := by omega
 have htn : ((i : Int) + (m : Int)).toNat = i + m := by omega
 have hb3 : (i : Int) ≤ (n : Int) := by omega
 clear hkk hik hold hROW hG hRl
 go_enter Tryz.func139, Tryz.ntmps139
 go_wp2_with (first
  | (at_builtin; refine Lib.wpList_append_run _ rfl _ _ _ _ rfl _ _ rfl rfl _ _ (hrz _) ?_)
  | (at_builtin; refine wpList_copy_runI _ rfl _ _ TS TS rfl _ _ rfl rfl (hcpA _ hE1 hE2 _ _) ?_)
  | (at_builtin; refine wpList_copy_runI _ rfl _ _ TS TS rfl _ _ rfl rfl (hcpB _ (fun _ => rfl) (fun _ => rfl) _ _ _) ?_))
 go_region_law_o (refine step_copy_runI rfl _ _ TS TS rfl (.slice (some ⟨w.heap.size, (i + m) * 2, none⟩) (n + m - (i + m)) (G - (i + m))) (.slice (some ⟨g, i * 2, none⟩) (n - i) (c - i)) (by simp [Act.eval, Act.put]) (by simp [Act.eval, Act.put]) (hcpB _ hF1 hF2 3 (G - (i + m)) (c - i)) ?_)
 go_wp2
 go_ret
 exact ⟨rfl, rfl⟩
end Go.Proofs.YteebeeoimghmhaaGreatDoor
namespace Go.Proofs.YteebeeoimghmhaaGreatDoor
open Go.RowKit
set_option linter.unusedVariables false
set_option linter.unusedSimpArgs false
set_option maxRecDepth 100000
structure Laid (w w' : World) (g : Nat) (cells : List Value) (n : Nat) (e' : Ending) : Prop where
 ex : ∃ (g' c : Nat) (cur : Array Value), e' = .returned (.slice (some ⟨g', 0, none⟩) n c) ∧ (g' = g ∨ (w.heap.size ≤ g' ∧ g' < w'.heap.size)) ∧ w'.heap[g']? = some (.cells cur TE (0, 0)) ∧ cur.size = c * 2 ∧ n ≤ c ∧ c ≤ maxLen ∧ ∀ (j : Nat) (v : Value), cells[j]? = some v → cur[j]? = some v
 out : OutM (fun b => b = g) w w'
theorem laid_new {w : World} {g n c : Nat} {cells : List Value} {row : Array Value} {w' : World} {e' : Ending} (he : e' = .returned (.slice (some ⟨w.heap.size, 0, none⟩) n c)) (hx : Ext w w') (hr : w'.heap[w.heap.size]? = some (.cells row TE (0, 0))) (hs : row.size = c * 2) (hn : n ≤ c) (hc : c ≤ maxLen) (hj : ∀ (j : Nat) (v : Value), cells[j]? = some v → row[j]? = some v) : Laid w w' g cells n e' :=
 ⟨⟨w.heap.size, c, row, he, .inr ⟨Nat.le_refl _, (Array.getElem?_eq_some_iff.1 hr).1⟩, hr, hs, hn, hc, hj⟩, OutM.ext hx⟩
theorem ext_drew (w : World) : Ext w w.drew := (Ext.refl w).drew
theorem ext_setNew {w w1 : World} (h : Ext w w1) (o : Nat) (vs : List Value) {b : Nat} (hb : w.heap.size ≤ b) : Ext w (w1.setCells b o vs) := by
 induction vs generalizing w1 o with
 | nil => exact h
 | cons v vs ih => exact ih (h.setCell hb v) (o + 1)
theorem ins_raw (g c n i vb voff vc : Nat) (base : Option Addr) (cs vs : List Value) (w : World) (hi : i ≤ n) (hn40 : n < 2 ^ 40) (hbase : (base = none ∧ n = 0 ∧ c = 0) ∨ (base = some ⟨g, 0, none⟩ ∧ ∃ cur, w.heap[g]? = some (.cells cur TE (0, 0)) ∧ cur.size = c * 2))
  (hnc : n ≤ c) (hcm : c ≤ maxLen) (hvb : vb ≠ g) (hcl : cs.length = n * 2) (hvl : vs.length = 2) (hcs : base ≠ none → ∀ j v, cs[j]? = some v → w.cell? ⟨g, j, none⟩ = some v)
  (hvs : ∀ j v, vs[j]? = some v → w.cell? ⟨vb, voff + j, none⟩ = some v) (h1c : ∀ v ∈ cs, oneV v) (h1v : ∀ v ∈ vs, oneV v) (hvh : ∃ cur e, w.heap[vb]? = some (.cells cur e (0, 0))) :
  Calls Tryz.prog INSF #[.slice base n c, .int .i64 (i : Nat), .slice (some ⟨vb, voff, none⟩) 1 vc] w fun e' w' => Laid w w' g (cs.take (i * 2) ++ vs ++ cs.drop (i * 2)) (n + 1) e' := by
 have hcm' := hcm
 unfold maxLen at hcm'
 have e2 : (Value.agg #[.slice none 0 0, .int .i64 0]).cells.size = 2 := rfl
 have hzc : ∀ q, (Builtin.zeroCells (Value.agg #[.slice none 0 0, .int .i64 0]).cells q).size = q * 2 := fun q => by simp [Builtin.zeroCells, e2]
 by_cases hroom : n + 1 ≤ c
 ·rcases hbase with ⟨_, h1, h2⟩ | ⟨rfl, cur, hh, hs⟩
  ·omega
  ·have hsp : ∀ j, j < (n + 1) * 2 → (w.cell? ⟨g, j, none⟩).isSome = true := fun j hj => by
    rw [block_cell' hh, Array.getElem?_eq_getElem (by omega)]
    rfl
   have hfz : ∀ j, j < (n + 1) * 2 → w.frozen? ⟨g, j, none⟩ = false := fun j hj => by
    simp only [World.frozen?, hh, Bool.and_eq_false_iff, decide_eq_false_iff_not]
    right
    exact Nat.not_lt_zero _
   have hcs' := hcs (by simp)
   by_cases hin : i = n
   ·subst hin
    refine (ins_room g c i vb voff 1 vc vs w (by omega) hroom (by omega) (by omega) hsp hfz hvs h1v).mono ?_
    rintro e' w' ⟨rfl, rfl⟩
    have HW := wrote_setCells Tryz.prog g (i * 2) vs w cur TE hh (by omega) h1v
    obtain ⟨cur', h1, h2, h3⟩ := HW.blk cur TE (0, 0) hh
    refine ⟨⟨g, c, cur', rfl, .inl rfl, h1, h2.trans hs, hroom, hcm, fun j v hj => ?_⟩, HW.outM⟩
    rw [List.take_of_length_le (by omega), List.drop_eq_nil_of_le (by omega), List.append_nil] at hj
    rw [h3]
    by_cases hjc : j < cs.length
    ·rw [List.getElem?_append_left hjc] at hj
     rw [if_neg (by omega)]
     have := hcs' j v hj
     rw [block_cell' hh] at this
     exact this
    ·rw [List.getElem?_append_right (by omega)] at hj
     have hjl := (List.getElem?_eq_some_iff.1 hj).1
     rw [if_pos ⟨by omega, by omega, by omega⟩, ← hj]
     congr 1
     omega
   ·obtain ⟨curv, ev, hv⟩ := hvh
    have hvf : ∀ o, w.frozen? ⟨vb, o, none⟩ = false := fun o => by
     simp only [World.frozen?, hv, Bool.and_eq_false_iff, decide_eq_false_iff_not]
     right
     exact Nat.not_lt_zero _
    refine (ins_shift g c n i vb voff 1 vc cs vs w (by omega) (by omega) hroom (by omega) hvb hcl (by omega) hcs' hsp hfz hvs h1c h1v ev TE curv.size cur.size (by simp only [World.shape?, hv]) (by simp only [World.shape?, hh]) (by omega) (hvf _) (hvf _)).mono ?_
    rintro e' w' ⟨rfl, rfl⟩
    have hdl : (cs.drop (i * 2)).length = (n - i) * 2 := by rw [List.length_drop, hcl]; omega
    have hh1 : w.drew.heap[g]? = some (.cells cur TE (0, 0)) := hh
    have HW1 := wrote_setCells Tryz.prog g ((i + 1) * 2) (cs.drop (i * 2)) w.drew cur TE hh1 (by omega) (fun v hv => h1c v (List.mem_of_mem_drop hv))
    obtain ⟨cur1, a1, a2, a3⟩ := HW1.blk cur TE (0, 0) hh1
    have HW2 := wrote_setCells Tryz.prog g (i * 2) vs _ cur1 TE a1 (by omega) h1v
    obtain ⟨cur2, b1, b2, b3⟩ := HW2.blk cur1 TE (0, 0) a1
    refine ⟨⟨g, c, cur2, rfl, .inl rfl, b1, by omega, hroom, hcm, fun j v hj => ?_⟩, ((OutM.ext (ext_drew w)).trans HW1.outM).trans HW2.outM⟩
    have htl : (cs.take (i * 2)).length = i * 2 := by rw [List.length_take]; omega
    rw [b3]
    by_cases hj1 : j < i * 2
    ·rw [List.append_assoc, List.getElem?_append_left (by omega), List.getElem?_take, if_pos hj1] at hj
     rw [if_neg (by omega), a3, if_neg (by omega)]
     have := hcs' j v hj
     rw [block_cell' hh] at this
     exact this
    ·rw [List.append_assoc, List.getElem?_append_right (by omega), htl] at hj
     by_cases hj2 : j - i * 2 < vs.length
     ·rw [List.getElem?_append_left hj2] at hj
      rw [if_pos ⟨by omega, by omega, by omega⟩]
      exact hj
     ·rw [List.getElem?_append_right (by omega)] at hj
      have hjl := (List.getElem?_eq_some_iff.1 hj).1
      rw [if_neg (by omega), a3, if_pos ⟨by omega, by omega, by omega⟩, ← hj]
      congr 1
      omega
 ·have hge := grownCap_ge w (n + 1) c TE
  have hcM := grownCap_le_maxLen w (n + 1) c TE (by unfold maxLen; omega)
  have hcsa : ∀ a, base = some a → ∀ j v, cs[j]? = some v → w.cell? (a.add j) = some v := fun a ha j v hj => by
   rcases hbase with ⟨h0, _⟩ | ⟨rfl, _⟩
   ·rw [h0] at ha; cases ha
   ·injection ha with ha
    subst ha
    rw [Addr.add_lit, Nat.zero_add]
    exact hcs (by simp) j v hj
  by_cases hin : i = n
  ·subst hin
   refine (ins_end base i c vb voff 1 vc cs vs w (by omega) hnc (by omega) (by omega) hcl (by omega) (fun h => by
    rcases hbase with ⟨_, h1, _⟩ | ⟨h1, _⟩
    ·exact h1
    ·rw [h1] at h; cases h) hcsa hvs h1v).mono ?_
   rintro e' w' ⟨rfl, rfl⟩
   refine laid_new rfl ((ext_drew w).alloc _) (MapKept.heap_alloc w.drew _).1 ?_ hge hcM (fun j v hj => ?_)
   ·simp only [Array.size_append, List.size_toArray, List.length_append, hzc]
    omega
   ·rw [List.take_of_length_le (by omega), List.drop_eq_nil_of_le (by omega), List.append_nil] at hj
    have hjl := (List.getElem?_eq_some_iff.1 hj).1
    rw [Array.getElem?_append_left (by simpa using hjl)]
    simpa using hj
  ·rcases hbase with ⟨_, h1, _⟩ | ⟨rfl, cur, hh, hs⟩
   ·omega
   ·have hcs' := hcs (by simp)
    refine (ins_grow g c n i vb voff 1 vc cs vs w (by omega) (by omega) hnc (by omega) (by omega) hcl (by omega) hcs' hvs h1c h1v).mono ?_
    generalize hG : grownCap w (n + 1) c TE = G at hge hcM
    rintro e' w' ⟨rfl, rfl⟩
    have hdl : (cs.drop (i * 2)).length = (n - i) * 2 := by rw [List.length_drop, hcl]; omega
    have htl : (cs.take (i * 2)).length = i * 2 := by rw [List.length_take]; omega
    obtain ⟨ROW, hROW⟩ : ∃ ROW : Array Value, ROW = (cs.take (i * 2)).toArray ++ Builtin.zeroCells (Value.agg #[.slice none 0 0, .int .i64 0]).cells (n + 1 - i) ++ Builtin.zeroCells (Value.agg #[.slice none 0 0, .int .i64 0]).cells (G - (n + 1)) := ⟨_, rfl⟩
    rw [← hROW]
    have hRs : ROW.size = G * 2 := by
     rw [hROW]
     simp only [Array.size_append, List.size_toArray, htl, hzc]
     omega
    have hRj : ∀ j v, j < i * 2 → cs[j]? = some v → ROW[j]? = some v := fun j v hj hv => by
     rw [hROW, Array.append_assoc, Array.getElem?_append_left (by simp; omega)]
     simp only [List.getElem?_toArray, List.getElem?_take, if_pos hj]
     exact hv
    have hh1 : ((w.alloc (.cells ROW TE)).drew).heap[w.heap.size]? = some (.cells ROW TE (0, 0)) := (MapKept.heap_alloc w _).1
    have HW1 := wrote_setCells Tryz.prog w.heap.size (i * 2) vs (w.alloc (.cells ROW TE)).drew ROW TE hh1 (by omega) h1v
    obtain ⟨cur1, a1, a2, a3⟩ := HW1.blk ROW TE (0, 0) hh1
    have a1' : ((w.alloc (.cells ROW TE)).drew.setCells w.heap.size (i * 2) vs).drew.heap[w.heap.size]? = some (.cells cur1 TE (0, 0)) := a1
    have HW2 := wrote_setCells Tryz.prog w.heap.size ((i + 1) * 2) (cs.drop (i * 2)) _ cur1 TE a1' (by omega) (fun v hv => h1c v (List.mem_of_mem_drop hv))
    obtain ⟨cur2, b1, b2, b3⟩ := HW2.blk cur1 TE (0, 0) a1'
    refine laid_new rfl (ext_setNew (ext_setNew ((Ext.refl w).alloc _).drew _ _ (Nat.le_refl _)).drew _ _ (Nat.le_refl _)) b1 (by omega) hge hcM (fun j v hj => ?_)
    rw [b3]
    by_cases hj1 : j < i * 2
    ·rw [List.append_assoc, List.getElem?_append_left (by omega), List.getElem?_take, if_pos hj1] at hj
     rw [if_neg (by omega), a3, if_neg (by omega)]
     exact hRj j v hj1 hj
    ·rw [List.append_assoc, List.getElem?_append_right (by omega), htl] at hj
     by_cases hj2 : j - i * 2 < vs.length
     ·rw [List.getElem?_append_left hj2] at hj
      rw [if_neg (by omega), a3, if_pos ⟨by omega, by omega, by omega⟩]
      exact hj
     ·rw [List.getElem?_append_right (by omega)] at hj
      have hjl := (List.getElem?_eq_some_iff.1 hj).1
      rw [if_pos ⟨by omega, by omega, by omega⟩, ← hj]
      congr 1
      omega
end Go.Proofs.YteebeeoimghmhaaGreatDoor
namespace Go.Proofs.YteebeeoimghmhaaGreatDoor
open Go.RowKit
set_option linter.unusedVariables false
set_option linter.unusedSimpArgs false
set_option maxRecDepth 100000
theorem ins_at {α : Type} (l : List α) (x : α) (i : Nat) (hi : i ≤ l.length) {t : Nat} {y : α} (h : (l.take i ++ x :: l.drop i)[t]? = some y) : (t < i ∧ l[t]? = some y) ∨ (t = i ∧ y = x) ∨ (i < t ∧ l[t - 1]? = some y) := by
 have htl : (l.take i).length = i := by rw [List.length_take]; omega
 by_cases h1 : t < i
 ·rw [List.getElem?_append_left (by omega), List.getElem?_take, if_pos h1] at h
  exact .inl ⟨h1, h⟩
 ·rw [List.getElem?_append_right (by omega), htl] at h
  by_cases h2 : t = i
  ·subst h2
   rw [Nat.sub_self] at h
   simp only [List.getElem?_cons_zero, Option.some.injEq] at h
   exact .inr (.inl ⟨rfl, h.symm⟩)
  ·rw [show t - i = (t - 1 - i) + 1 by omega, List.getElem?_cons_succ, List.getElem?_drop, show i + (t - 1 - i) = t - 1 by omega] at h
   exact .inr (.inr ⟨by omega, h⟩)
theorem ins_con {α : Type} (en : α → List DT) (hK : ∀ x, (en x).length = 2) (h1v : ∀ x d, d ∈ en x → (∃ v, d = .at v ∧ oneV v) ∨ ∃ e k l, d = .sl e k l) {w0 : World} {l : List α} {i : Nat} {x : α} (hi : i ≤ l.length) (hl : l.length < 2 ^ 40) :
  ConOk Tryz.prog w0 INSF [.v (.sl TE 2 (l.map en)), .v (.at (.int .i64 (i : Nat))), .v (.sl TE 2 [en x])] [.v (.sl TE 2 ((l.take i ++ x :: l.drop i).map en))] := by
 refine ⟨TE, 2, l.map en, _, _, rfl, rfl, fun _ _ => by kernel_rfl, fun w v vs S S2 R hx hlt hS hR hOw hRest => ?_⟩
 match vs, hRest with
 | [v1, v2], ⟨h1, hs⟩ =>
 subst h1
 obtain ⟨vb, voff, vc, rfl, hle, hRb, hvh, ωv, hv⟩ := hs
 have hvbl : vb < w.heap.size := hlt vb (.inr (.inr hRb))
 obtain ⟨_, hv2⟩ := hv 0 (en x) rfl
 have hone : ∀ y d u N Q, d ∈ en y → OwN w N Q u d → oneV u := fun y d u N Q hd hOw => by
  rcases h1v y d hd with ⟨v, hv, ho⟩ | ⟨e2, k2, l2, hv⟩
  ·rw [hv] at hOw
   have : u = v := ow_at_eq ⟨N, hOw⟩
   rw [this]; exact ho
  ·rw [hv] at hOw
   exact ow_one ⟨N, hOw⟩
 let V : List Value := (List.range 2).map fun j => (w.cell? ⟨vb, voff + j, none⟩).getD undef
 have hV : ∀ j d, (en x)[j]? = some d → ∃ u, V[j]? = some u ∧ w.cell? ⟨vb, voff + j, none⟩ = some u ∧ Ow w (fun b => S2 b ∧ ωv b = some (0, j)) u d := fun j d hd => by
  obtain ⟨u, hu, hO⟩ := hv2 j d hd
  rw [Nat.zero_mul, Nat.add_zero] at hu
  have hj : j < 2 := by rw [← hK x]; exact (List.getElem?_eq_some_iff.1 hd).1
  exact ⟨u, by simp only [V, List.getElem?_map, List.getElem?_range hj, Option.map_some, hu, Option.getD_some], hu, hO⟩
 have hVl : V.length = 2 := by simp [V]
 have hVc : ∀ j u, V[j]? = some u → w.cell? ⟨vb, voff + j, none⟩ = some u ∧ oneV u := fun j u hu => by
  have hj : j < 2 := by rw [← hVl]; exact (List.getElem?_eq_some_iff.1 hu).1
  have hd : (en x)[j]? = some ((en x)[j]'(by rw [hK]; exact hj)) := List.getElem?_eq_getElem _
  obtain ⟨u', h1, h2, N, hO⟩ := hV j _ hd
  rw [hu] at h1
  injection h1 with h1
  subst h1
  exact ⟨h2, hone x _ u N _ (List.mem_of_getElem? hd) hO⟩
 have hVone : ∀ u ∈ V, oneV u := fun u hu => by
  obtain ⟨j, hj⟩ := List.getElem?_of_mem hu
  exact (hVc j u hj).2
 have key : ∀ (g c : Nat) (base : Option Addr) (C : List Value) (ω : Nat → Option (Nat × Nat)), ((base = none ∧ l.length = 0 ∧ c = 0 ∧ g = w.heap.size) ∨ (base = some ⟨g, 0, none⟩ ∧ S g ∧ ω g = none ∧ ∃ cur, w.heap[g]? = some (.cells cur TE (0, 0)) ∧ cur.size = c * 2)) → l.length ≤ c → c ≤ maxLen → C.length = l.length * 2 →
   (base ≠ none → ∀ j u, C[j]? = some u → w.cell? ⟨g, j, none⟩ = some u) → (∀ t y, l[t]? = some y → ∀ j d, (en y)[j]? = some d → ∃ u, C[t * 2 + j]? = some u ∧ Ow w (fun b => S b ∧ ω b = some (t, j)) u d) → (∀ u ∈ C, oneV u) →
   Calls Tryz.prog INSF #[.slice base l.length c, .int .i64 (i : Nat), .slice (some ⟨vb, voff, none⟩) 1 vc] w fun e' w' => ∃ v', e' = .returned v' ∧ OutM S w w' ∧ Ow w' (fun b => S b ∨ S2 b ∨ (w.heap.size ≤ b ∧ b < w'.heap.size)) v' (.sl TE 2 ((l.take i ++ x :: l.drop i).map en)) := by
  intro g c base C ω hb hlc hcm hCl hCc hC hC1
  have hvg : vb ≠ g := by
   rcases hb with ⟨_, _, _, rfl⟩ | ⟨_, hSg, _⟩
   ·omega
   ·rintro rfl; exact (hR vb hRb).1 hSg
  refine (ins_raw g c l.length i vb voff vc base C V w hi hl (by
   rcases hb with ⟨h1, h2, h3, _⟩ | ⟨h1, _, _, h2⟩
   ·exact .inl ⟨h1, h2, h3⟩
   ·exact .inr ⟨h1, h2⟩) hlc hcm hvg hCl hVl hCc (fun j u hu => (hVc j u hu).1) hC1 hVone hvh).mono ?_
  rintro e' w' ⟨⟨g', c', cur', rfl, hg', hh', hs', hn', hc', hcell⟩, hO⟩
  refine ⟨_, rfl, ⟨hO.os, hO.tape, hO.output, hO.size, fun b hb' hnS => hO.block b hb' (fun he => ?_), hO.sizes⟩, ?_⟩
  ·rcases hb with ⟨_, _, _, h4⟩ | ⟨_, hSg, _⟩
   ·omega
   ·exact hnS (by rw [he]; exact hSg)
  ·have hlen : ((l.take i ++ x :: l.drop i).map en).length = l.length + 1 := by
    simp only [List.length_map, List.length_append, List.length_take, List.length_cons, List.length_drop]
    omega
   rw [← hlen]
   let ω2 : Nat → Option (Nat × Nat) := fun b => open Classical in if S2 b then (ωv b).map (fun q => (i, q.2)) else if S b then (ω b).map (fun q => (if q.1 < i then q.1 else q.1 + 1, q.2)) else none
   have hω2S : ∀ b t j, S b → ω b = some (t, j) → ω2 b = some (if t < i then t else t + 1, j) := fun b t j hb1 hb2 => by
    show @ite _ (S2 b) (Classical.propDecidable _) _ _ = _
    rw [if_neg (hS b hb1).2, if_pos hb1, hb2]
    rfl
   have hω2V : ∀ b j, S2 b → ωv b = some (0, j) → ω2 b = some (i, j) := fun b j hb1 hb2 => by
    show @ite _ (S2 b) (Classical.propDecidable _) _ _ = _
    rw [if_pos hb1, hb2]
    rfl
   have hsame : ∀ b, b < w.heap.size → ¬ b = g → w'.heap[b]? = w.heap[b]? := fun b hb1 hb2 => hO.block b hb1 hb2
   have hng : ∀ b t j, S b → ω b = some (t, j) → ¬ b = g := fun b t j hb1 hb2 he => by
    rcases hb with ⟨_, _, _, h4⟩ | ⟨_, _, h5, _⟩
    ·have := hlt b (.inl hb1)
     omega
    ·rw [he, h5] at hb2; cases hb2
   have hng2 : ∀ b, S2 b → ¬ b = g := fun b hb1 he => by
    rcases hb with ⟨_, _, _, h4⟩ | ⟨_, hSg, _⟩
    ·have := hlt b (.inr (.inl hb1))
     omega
    ·exact (hS g hSg).2 (by rw [← he]; exact hb1)
   refine Ow.sl (g := g') (cur := cur') (fz := (0, 0)) ?_ hh' rfl (by rw [hlen]; exact hn') hc' hs' ω2 ?_ (fun t es ht => ?_)
   ·rcases hg' with rfl | hg'
    ·rcases hb with ⟨_, _, _, rfl⟩ | ⟨_, hSg, _⟩
     ·exact .inr (.inr ⟨Nat.le_refl _, (Array.getElem?_eq_some_iff.1 hh').1⟩)
     ·exact .inl hSg
    ·exact .inr (.inr hg')
   ·show @ite _ (S2 g') (Classical.propDecidable _) _ _ = _
    have hS2g : ¬ S2 g' := fun h => by
     rcases hg' with rfl | hg'
     ·exact hng2 _ h rfl
     ·have := hlt g' (.inr (.inl h))
      omega
    rw [if_neg hS2g]
    by_cases hSg' : S g'
    ·rw [if_pos hSg']
     rcases hg' with rfl | hg'
     ·rcases hb with ⟨_, _, _, h4⟩ | ⟨_, _, h5, _⟩
      ·have := hlt _ (.inl hSg')
       omega
      ·rw [h5]; rfl
     ·have := hlt g' (.inl hSg')
      omega
    ·rw [if_neg hSg']
   ·rw [List.getElem?_map, Option.map_eq_some_iff] at ht
    obtain ⟨y, hy, rfl⟩ := ht
    have htl : (C.take (i * 2)).length = i * 2 := by rw [List.length_take]; omega
    refine ⟨hK y, fun j d hd => ?_⟩
    have hj2 : j < 2 := by rw [← hK y]; exact (List.getElem?_eq_some_iff.1 hd).1
    rcases ins_at l x i hi hy with ⟨h1, h2⟩ | ⟨rfl, rfl⟩ | ⟨h1, h2⟩
    ·obtain ⟨u, hu, hO1⟩ := hC t y h2 j d hd
     refine ⟨u, hcell _ _ ?_, Ow.mono hO1 (fun b hb1 => ⟨.inl hb1.1, ?_⟩) (fun b hb1 hb2 => hsame b hb1 (hng b t j hb2.1 hb2.2))⟩
     ·rw [List.append_assoc, List.getElem?_append_left (by omega), List.getElem?_take, if_pos (by omega)]
      exact hu
     ·rw [hω2S b t j hb1.1 hb1.2, if_pos h1]
    ·obtain ⟨u, hu, _, hO1⟩ := hV j d hd
     refine ⟨u, hcell _ _ ?_, Ow.mono hO1 (fun b hb1 => ⟨.inr (.inl hb1.1), hω2V b j hb1.1 hb1.2⟩) (fun b hb1 hb2 => hsame b hb1 (hng2 b hb2.1))⟩
     rw [List.append_assoc, List.getElem?_append_right (by omega), htl, show t * 2 + j - t * 2 = j by omega, List.getElem?_append_left (by rw [hVl]; exact hj2)]
     exact hu
    ·obtain ⟨u, hu, hO1⟩ := hC (t - 1) y h2 j d hd
     refine ⟨u, hcell _ _ ?_, Ow.mono hO1 (fun b hb1 => ⟨.inl hb1.1, ?_⟩) (fun b hb1 hb2 => hsame b hb1 (hng b (t - 1) j hb2.1 hb2.2))⟩
     ·rw [List.append_assoc, List.getElem?_append_right (by omega), htl, List.getElem?_append_right (by rw [hVl]; omega), hVl, List.getElem?_drop, show i * 2 + (t * 2 + j - i * 2 - 2) = (t - 1) * 2 + j by omega]
      exact hu
     ·rw [hω2S b (t - 1) j hb1.1 hb1.2, if_neg (by omega), show t - 1 + 1 = t by omega]
 obtain ⟨N, hO⟩ := hOw
 cases N with
 | zero => exact hO.elim
 | succ N =>
 rcases hO with ⟨rfl, hnil⟩ | ⟨g, c, cur, fz, rfl, hSg, hh, hf, hl1, hl2, hl3, ω, hω, hi2⟩
 ·have hl0 : l = [] := by simpa using hnil
  have := key w.heap.size 0 none [] (fun _ => none) (.inl ⟨rfl, by rw [hl0]; rfl, rfl, rfl⟩) (by rw [hl0]; exact Nat.le_refl _) (by simp [maxLen]) (by rw [hl0]; rfl) (fun h => absurd rfl h) (fun t y hy => by rw [hl0] at hy; simp at hy) (fun u hu => by cases hu)
  rw [hl0] at this ⊢
  exact this
 ·have hfz : fz = (0, 0) := hf
  subst hfz
  rw [List.length_map] at hl1 ⊢
  let C : List Value := (List.range (l.length * 2)).map fun j => (cur[j]?).getD undef
  have hCl : C.length = l.length * 2 := by simp [C]
  have hCj : ∀ j u, C[j]? = some u → cur[j]? = some u := fun j u hu => by
   have hj : j < l.length * 2 := by rw [← hCl]; exact (List.getElem?_eq_some_iff.1 hu).1
   have hjc : j < cur.size := by omega
   simp only [C, List.getElem?_map, List.getElem?_range hj, Option.map_some, Option.some.injEq] at hu
   rw [Array.getElem?_eq_getElem hjc] at hu ⊢
   simpa using hu
  have hCe : ∀ t y, l[t]? = some y → ∀ j d, (en y)[j]? = some d → ∃ u, C[t * 2 + j]? = some u ∧ OwN w N (fun b => S b ∧ ω b = some (t, j)) u d := fun t y hy j d hd => by
   obtain ⟨u, hu, hO1⟩ := (hi2 t (en y) (by rw [List.getElem?_map, hy]; rfl)).2 j d hd
   have hj : j < 2 := by rw [← hK y]; exact (List.getElem?_eq_some_iff.1 hd).1
   have ht : t < l.length := (List.getElem?_eq_some_iff.1 hy).1
   refine ⟨u, ?_, hO1⟩
   simp only [C, List.getElem?_map, List.getElem?_range (show t * 2 + j < l.length * 2 by omega), Option.map_some, hu, Option.getD_some]
  refine key g c _ C ω (.inr ⟨rfl, hSg, hω, cur, hh, hl3⟩) hl1 hl2 hCl (fun _ j u hu => by rw [block_cell' hh]; exact hCj j u hu) (fun t y hy j d hd => by
   obtain ⟨u, h1, h2⟩ := hCe t y hy j d hd
   exact ⟨u, h1, N, h2⟩) (fun u hu => ?_)
  obtain ⟨q, hq⟩ := List.getElem?_of_mem hu
  have hql : q < l.length * 2 := by rw [← hCl]; exact (List.getElem?_eq_some_iff.1 hq).1
  have hqt : q / 2 < l.length := by omega
  have hy : l[q / 2]? = some l[q / 2] := List.getElem?_eq_getElem hqt
  have hd : (en l[q / 2])[q % 2]? = some ((en l[q / 2])[q % 2]'(by rw [hK]; omega)) := List.getElem?_eq_getElem _
  obtain ⟨u', h1, h2⟩ := hCe (q / 2) _ hy (q % 2) _ hd
  rw [show q / 2 * 2 + q % 2 = q by omega, hq] at h1
  injection h1 with h1
  subst h1
  exact hone _ _ _ _ _ (List.mem_of_getElem? hd) h2
end Go.Proofs.YteebeeoimghmhaaGreatDoor
