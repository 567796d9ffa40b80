import Derived.Test.YtifkepnfaggkiaaGreatDoorEngMut
import Derived.Laws.IdiomCopy
import Derived.Test.YtifkepnfaggkiaaGreatDoorProg
import Derived.WalkKit
import Derived.Shelf.RegionOpenPlain
import Derived.Deep.LoopGhost
import Derived.Deep.Draws
import Derived.Test.YtifkepnfaggkiaaGreatDoorPg2
import Derived.Test.YtifkepnfaggkiaaGreatDoorExC
namespace Go.Proofs.YtifkepnfaggkiaaGreatDoor
open Go.RowKit
set_option linter.unusedVariables false
set_option linter.unusedSimpArgs false
theorem OutM.refl (M : Nat → Prop) (w : World) : OutM M w w := ⟨rfl, rfl, rfl, Nat.le_refl _, fun _ _ _ => rfl, fun b cur e fz h => ⟨cur, h, rfl⟩⟩
theorem OutM.trans {M : Nat → Prop} {w w1 w2 : World} (h : OutM M w w1) (k : OutM M w1 w2) : OutM M w w2 :=
 ⟨k.os.trans h.os, k.tape.trans h.tape, k.output.trans h.output, Nat.le_trans h.size k.size, fun b hb hM => (k.block b (Nat.lt_of_lt_of_le hb h.size) hM).trans (h.block b hb hM), fun b cur e fz hh => by
  obtain ⟨c1, h1, h2⟩ := h.sizes b cur e fz hh
  obtain ⟨c2, h3, h4⟩ := k.sizes b c1 e fz h1
  exact ⟨c2, h3, h4.trans h2⟩⟩
theorem OutM.ext {M : Nat → Prop} {w w' : World} (h : Ext w w') : OutM M w w' := ⟨h.os, h.tape, h.output, h.size, fun b hb _ => h.block b hb, fun b cur e fz hh => ⟨cur, (h.block b (Array.getElem?_eq_some_iff.1 hh).1).trans hh, rfl⟩⟩
theorem OutM.mono {M N : Nat → Prop} {w w' : World} (h : OutM M w w') (hMN : ∀ b, M b → N b) : OutM N w w' := ⟨h.os, h.tape, h.output, h.size, fun b hb hN => h.block b hb (fun hM => hN (hMN b hM)), h.sizes⟩
theorem OutM.same {M R : Nat → Prop} {w w' : World} (h : OutM M w w') (hR : ∀ b, R b → ¬ M b) : SameOn R w w' := fun b hb hr => h.block b hb (hR b hr)
theorem Wrote.outM {w w' : World} {g o : Nat} {vs : List Value} (h : Wrote w w' g o vs) : OutM (fun b => b = g) w w' := by
 have hx := h.ext (bs0 { w with heap := #[] }) ⟨rfl, rfl, rfl, Nat.zero_le _, fun b hb => absurd hb (Nat.not_lt_zero _), fun b cur e fz hh => by simp [bs0] at hh⟩ (.inl (Nat.zero_le _))
 refine ⟨hx.os, hx.tape, hx.output, Nat.le_of_eq h.size.symm, fun b _ hb => h.same b hb, fun b cur e fz hh => ?_⟩
 by_cases hb : b = g
 ·subst hb
  obtain ⟨cur', h1, h2, _⟩ := h.blk cur e fz hh
  exact ⟨cur', h1, h2⟩
 ·exact ⟨cur, (h.same b hb).trans hh, rfl⟩
theorem ziI {v : Value} (h : oneV v) : v.oneCell' = true := by
 cases v with
 | agg l => exact absurd rfl (h.1 l)
 | tuple l => exact absurd rfl (h.2 l)
 | _ => rfl
theorem ziF (P : Program) (g o : Nat) (vs : List Value) (w : World) (cur : Array Value) (e : Nat) (hh : w.heap[g]? = some (.cells cur e (0, 0))) (hl : o + vs.length ≤ cur.size) (hv : ∀ v ∈ vs, oneV v) : Wrote w (w.setCells g o vs) g o vs := by
 obtain ⟨w', hr, hW⟩ := zdH (P := P) g o vs 0 w cur e (0, 0) hh rfl (by simpa using hl) hv
 have hc : ∀ j, j < vs.length → w.cell? ⟨g, o + j, none⟩ = cur[o + j]? := fun j hj => zx hh _
 have h2 := run_storeCells_cells (P := P) g o vs 0 w (fun j hj => by rw [Nat.add_zero, hc j hj, Array.getElem?_eq_getElem (by omega)]; rfl) (fun j hj => by
  simp only [World.frozen?, hh, Nat.add_zero, Bool.and_eq_false_iff, decide_eq_false_iff_not]
  right
  exact Nat.not_lt_zero _) (fun v hv' => ziI (hv v hv'))
 rw [hr] at h2
 injection h2 with _ h2
 rw [h2] at hW
 exact hW
theorem Wrote.cell {w w' : World} {g o : Nat} {vs : List Value} (h : Wrote w w' g o vs) {cur : Array Value} {e : Nat} {fz : Nat × Nat} (hh : w.heap[g]? = some (.cells cur e fz)) (hl : o + vs.length ≤ cur.size) (m : Nat) :
  w'.cell? ⟨g, m, none⟩ = if o ≤ m ∧ m < o + vs.length then vs[m - o]? else w.cell? ⟨g, m, none⟩ := by
 obtain ⟨cur', h1, h2, h3⟩ := h.blk cur e fz hh
 rw [zx h1, zx hh, h3]
 by_cases hm : o ≤ m ∧ m < o + vs.length
 ·rw [if_pos hm, if_pos ⟨hm.1, hm.2, by omega⟩]
 ·rw [if_neg hm, if_neg (fun hx => hm ⟨hx.1, hx.2.1⟩)]
theorem OutM.cell {M : Nat → Prop} {w w' : World} (h : OutM M w w') {a : Addr} {v : Value} (hM : ¬ M a.block) (ha : w.cell? a = some v) : w'.cell? a = some v := by
 have hb := World.block_lt_of_cell? w a ha
 unfold World.cell? at *
 rw [h.block _ hb hM]
 exact ha
theorem znb {P : Program} (w : World) (t e ty : TypeId) (z : Value) (ht : P.underlying t = some (.slice e)) (hv : ∀ w, (zeroValue e).run P w = .ok z w) (h1 : ∀ v ∈ z.cells.toList, oneV v) (b o n c : Nat) (hn : 0 < n) (hz : 0 < z.cells.size)
  (hc : ∀ j, j < n * z.cells.size → (w.cell? ⟨b, o + j, none⟩).isSome = true) (hf : ∀ j, j < n * z.cells.size → w.frozen? ⟨b, o + j, none⟩ = false) :
  (Builtin.clear_ #[t] ty #[.slice (some ⟨b, o, none⟩) n c]).run P w = .ok (.tuple #[]) (w.setCells b o (Builtin.zeroCells z.cells n).toList) := by
 have hlen : (Builtin.zeroCells z.cells n).toList.length = n * z.cells.size := by simp [Builtin.zeroCells]
 have hst := run_storeCells_cells (P := P) b o (Builtin.zeroCells z.cells n).toList 0 w (by rw [hlen]; simpa using hc) (by rw [hlen]; simpa using hf) (fun v hv' => by
  simp only [Builtin.zeroCells, Array.toList_map, List.mem_map] at hv'
  obtain ⟨i, _, rfl⟩ := hv'
  refine ziI (h1 _ ?_)
  rw [getElem!_pos z.cells (i % z.cells.size) (Nat.mod_lt _ hz)]
  simp)
 simp only [Nat.add_zero] at hst
 obtain ⟨m, rfl⟩ : ∃ m, n = m + 1 := ⟨n - 1, by omega⟩
 simp [Builtin.clear_, run_underlying ht, hv, hst]
end Go.Proofs.YtifkepnfaggkiaaGreatDoor
namespace Go.Proofs.YtifkepnfaggkiaaGreatDoor
open Go.RowKit Go.Lib
set_option linter.unusedVariables false
set_option linter.unusedSimpArgs false
def kept (p : Nat → Bool) (n : Nat) : List Nat := (List.range n).filter fun x => !p x
theorem zfJ (p : Nat → Bool) (n : Nat) : kept p (n + 1) = kept p n ++ if p n then [] else [n] := by
 unfold kept
 rw [List.range_succ, List.filter_append]
 cases h : p n <;> simp [h]
theorem zrP {p : Nat → Bool} {n t x : Nat} (h : (kept p n)[t]? = some x) : x < n ∧ p x = false := by
 have := List.mem_of_getElem? h
 simpa [kept] using this
theorem zp4 (p : Nat → Bool) (n : Nat) : (kept p n).length ≤ n := by
 have := List.length_filter_le (fun x => !p x) (List.range n)
 simpa [kept] using this
theorem zre {p : Nat → Bool} {k n : Nat} (hk : p k = true) : k < n → (kept p n).length < n := by
 intro h
 induction n with
 | zero => omega
 | succ n ih =>
  rw [zfJ]
  by_cases hkn : k = n
  ·subst hkn
   rw [hk]
   have := zp4 p k
   simp
   omega
  ·have := ih (by omega)
   have h2 : (if p n then ([] : List Nat) else [n]).length ≤ 1 := by split <;> simp
   rw [List.length_append]
   omega
theorem zv4 {p : Nat → Bool} {k : Nat} (h : ∀ x, x < k → p x = false) : kept p k = List.range k := by
 unfold kept
 rw [List.filter_eq_self]
 intro x hx
 rw [h x (by simpa using hx)]
 rfl
abbrev DELF : FuncId := 188
abbrev IDXF : FuncId := 195
set_option maxHeartbeats 4000000 in
set_option maxRecDepth 1000000 in
theorem zvC (gf : FuncId) (lb : Array Value) (eg : ∀ args w, (callFunc gf args).run Tryz.prog w = .ok (.enter gf args) w) (ei : ∀ args w, (callFunc IDXF args).run Tryz.prog w = .ok (.enter IDXF args) w) (g c n e k0 : Nat) (w : World) (X : Nat → List Value) (p : Nat → Bool)
  (hX : ∀ x, x < n → ∃ c0 c1 c2, X x = [c0, c1, c2] ∧ oneV c0 ∧ oneV c1 ∧ oneV c2) (hsh : ∃ cur, w.heap[g]? = some (.cells cur e (0, 0)) ∧ cur.size = c * 3)
  (hcell : ∀ x r v, x < n → (X x)[r]? = some v → w.cell? ⟨g, x * 3 + r, none⟩ = some v) (hnc : n ≤ c) (hcm : c ≤ maxLen) (hk0 : k0 < n) (hpk : p k0 = true) (hpl : ∀ x, x < k0 → p x = false)
  (hidx : Calls Tryz.prog IDXF #[.slice (some ⟨g, 0, none⟩) n c, .func (.func gf) #[] lb] w fun e' w' => e' = .returned (.int .i64 (k0 : Nat)) ∧ Ext w w')
  (hcall : ∀ W x, OutM (fun b => b = g) w W → x < n → Calls Tryz.prog gf (#[.agg (X x).toArray] ++ lb) W fun e' W' => e' = .returned (.bool (p x)) ∧ Ext W W') :
  Calls Tryz.prog DELF #[.slice (some ⟨g, 0, none⟩) n c, .func (.func gf) #[] lb] w fun e' w' => e' = .returned (.slice (some ⟨g, 0, none⟩) (kept p n).length c) ∧ OutM (fun b => b = g) w w' ∧
   ∀ t x r v, (kept p n)[t]? = some x → (X x)[r]? = some v → w'.cell? ⟨g, t * 3 + r, none⟩ = some v := by
 unfold maxLen at hcm
 have HC := Lib.hid hcall
 have HX := Lib.hid hX
 have HE := Lib.hid hcell
 have HS := Lib.hid hsh
 have HPL := Lib.hid hpl
 clear hcall hX hcell hsh hpl
 have hne1 : ((k0 : Int) == -1) = false := beq_eq_false_iff_ne.2 (by omega)
 go_enter Tryz.func188, Tryz.ntmps188
 go_wp2_with (go_at_fn IDXF; refine hidx.mono ?_; rintro e' w1 ⟨rfl, hx1⟩)
 go_loopg [5, 6, 7] n (fun gg s5 s6 _ wr => ∃ (i j : Nat), s5 = .int .i64 i ∧ s6 = .int .i64 j ∧ j ≤ n ∧ n - j ≤ gg ∧ k0 < j ∧ i = (kept p j).length ∧ Aside (OutM (fun b => b = g) w wr ∧ (∀ t x r v, (kept p j)[t]? = some x → (X x)[r]? = some v → wr.cell? ⟨g, t * 3 + r, none⟩ = some v) ∧ ∀ x r v, j ≤ x → x < n → (X x)[r]? = some v → wr.cell? ⟨g, x * 3 + r, none⟩ = some v))
 case atStart =>
  have hka : kept p (k0 + 1) = List.range k0 := by
   rw [zfJ, hpk, zv4 HPL.out]
   simp
  refine ⟨k0, k0 + 1, rfl, by go_num, by omega, by omega, by omega, by rw [hka]; simp, OutM.ext hx1, fun t x r v ht hv => ?_, fun x r v _ hx hv => hx1.cell (HE.out x r v hx hv)⟩
  have hlt : t < k0 := by have := (List.getElem?_eq_some_iff.1 (hka ▸ ht)).1; simpa using this
  rw [hka, List.getElem?_range hlt] at ht
  injection ht with ht
  subst ht
  exact hx1.cell (HE.out t r v (by omega) hv)
 case round =>
  obtain ⟨i, j, rfl, rfl, hjn, hgg, hkj, hi, I⟩ := hrel
  obtain ⟨IO, IL, IH⟩ := I.out
  have hij : i < j := by rw [hi]; exact zre hpk hkj
  have HI := Lib.hid hi
  clear hi
  by_cases hlt : j < n
  ·have hltz : (j : Int) < (n : Int) := by omega
   obtain ⟨c0, c1, c2, hXj, o0, o1, o2⟩ := HX.out j hlt
   have f0 := IH j 0 c0 (Nat.le_refl _) hlt (by rw [hXj]; rfl)
   have f1 := IH j 1 c1 (Nat.le_refl _) hlt (by rw [hXj]; rfl)
   have f2 := IH j 2 c2 (Nat.le_refl _) hlt (by rw [hXj]; rfl)
   simp only [Nat.add_zero] at f0 f1 f2
   have HO := Lib.hid IO
   have HL := Lib.hid IL
   have HH := Lib.hid IH
   clear IO IL IH I
   have s0 := fun a m W => run_store Tryz.prog W a c0 m (ziI o0)
   have s1 := fun a m W => run_store Tryz.prog W a c1 m (ziI o1)
   have s2 := fun a m W => run_store Tryz.prog W a c2 m (ziI o2)
   have HJ := HC.out (wr.alloc (.cells #[c0, c1, c2] 96)) j (HO.out.trans (OutM.ext ((Ext.refl wr).alloc _))) hlt
   rw [hXj] at HJ
   have hsz : g < wr.heap.size := by
    obtain ⟨cur, hh, _⟩ := HS.out
    exact Nat.lt_of_lt_of_le (Array.getElem?_eq_some_iff.1 hh).1 HO.out.size
   cases hq : p j with
   | true =>
    rw [hq] at HJ
    go_wp2_with (go_at_fn gf; refine HJ.mono ?_; rintro e' w2 ⟨rfl, hx2⟩)
    go_roundg (n - (j + 1))
    case measure => omega
    case rel =>
     have hx3 : Ext wr w2 := ((Ext.refl wr).alloc _).trans hx2
     have hkk : kept p (j + 1) = kept p j := by rw [zfJ, hq]; simp
     refine ⟨i, j + 1, rfl, by go_num, by omega, Nat.le_refl _, by omega, by rw [hkk]; exact HI.out, HO.out.trans (OutM.ext hx3), fun t x r v ht hv => ?_, fun x r v hx hxn hv => hx3.cell (HH.out x r v (by omega) hxn hv)⟩
     rw [hkk] at ht
     exact hx3.cell (HL.out t x r v ht hv)
   | false =>
    rw [hq] at HJ
    have HJ2 : Calls Tryz.prog gf (#[.agg #[c0, c1, c2]] ++ lb) (wr.alloc (.cells #[c0, c1, c2] 96)) fun e' w2 => e' = .returned (.bool false) ∧ (w2.cell? ⟨wr.heap.size, 0, none⟩ = some c0 ∧ w2.cell? ⟨wr.heap.size, 1, none⟩ = some c1 ∧ w2.cell? ⟨wr.heap.size, 2, none⟩ = some c2) ∧
      (∃ d0 d1 d2, w2.cell? ⟨g, i * 3, none⟩ = some d0 ∧ w2.cell? ⟨g, i * 3 + 1, none⟩ = some d1 ∧ w2.cell? ⟨g, i * 3 + 2, none⟩ = some d2) ∧ (w2.frozen? ⟨g, i * 3, none⟩ = false ∧ w2.frozen? ⟨g, i * 3 + 1, none⟩ = false ∧ w2.frozen? ⟨g, i * 3 + 2, none⟩ = false) ∧
      Aside (Ext wr w2 ∧ ∃ cw, w2.heap[g]? = some (.cells cw e (0, 0)) ∧ cw.size = c * 3) := HJ.mono fun e' w2 ⟨he, hx2⟩ => by
     have hx3 : Ext wr w2 := ((Ext.refl wr).alloc _).trans hx2
     obtain ⟨cw, hcw, hcs⟩ : ∃ cw, w2.heap[g]? = some (.cells cw e (0, 0)) ∧ cw.size = c * 3 := by
      obtain ⟨cur, hh, hs⟩ := HS.out
      obtain ⟨c1', h1, h2⟩ := (HO.out.trans (OutM.ext hx3)).sizes g cur e (0, 0) hh
      exact ⟨c1', h1, h2.trans hs⟩
     have hfz : ∀ o, w2.frozen? ⟨g, o, none⟩ = false := fun o => by
      simp only [World.frozen?, hcw, Bool.and_eq_false_iff, decide_eq_false_iff_not]
      right
      exact Nat.not_lt_zero _
     have hg : ∀ o, o < c * 3 → ∃ d, w2.cell? ⟨g, o, none⟩ = some d := fun o ho => ⟨cw[o]'(by omega), by rw [zx hcw]; exact Array.getElem?_eq_getElem _⟩
     obtain ⟨d0, e0⟩ := hg (i * 3) (by omega)
     obtain ⟨d1, e1⟩ := hg (i * 3 + 1) (by omega)
     obtain ⟨d2, e2⟩ := hg (i * 3 + 2) (by omega)
     exact ⟨he, ⟨hx2.cell (by simp), hx2.cell (by simp), hx2.cell (by simp)⟩, ⟨d0, d1, d2, e0, e1, e2⟩, ⟨hfz _, hfz _, hfz _⟩, hx3, cw, hcw, hcs⟩
    clear HJ
    go_wp2_with (go_at_fn gf; refine HJ2.mono ?_; rintro e' w2 ⟨rfl, ⟨b0, b1, b2⟩, ⟨d0, d1, d2, g0, g1, g2⟩, ⟨z0, z1, z2⟩, HB⟩)
    go_roundg (n - (j + 1))
    case measure => omega
    case rel =>
     obtain ⟨hx3, cw, hcw, hcs⟩ := HB.out
     have hkk : kept p (j + 1) = kept p j ++ [j] := by rw [zfJ, hq]; simp
     have HW := ziF Tryz.prog g (i * 3) [c0, c1, c2] w2 cw e hcw (by simp; omega) (by simp [o0, o1, o2])
     have hcell := HW.cell hcw (by simp; omega)
     have hi := HI.out
     refine ⟨i + 1, j + 1, by go_num, by go_num, by omega, Nat.le_refl _, by omega, by rw [hkk]; simp [hi], (HO.out.trans (OutM.ext hx3)).trans HW.outM, fun t x r v ht hv => ?_, fun x r v hx hxn hv => ?_⟩
     ·refine (hcell (t * 3 + r)).trans ?_
      rw [hkk] at ht
      by_cases hti : t < i
      ·rw [List.getElem?_append_left (by omega)] at ht
       have hxn := zrP ht
       obtain ⟨a0, a1, a2, hXx, _⟩ := HX.out x (by omega)
       have hr : r < 3 := by
        have := (List.getElem?_eq_some_iff.1 hv).1
        rw [hXx] at this
        simpa using this
       rw [if_neg (by omega)]
       exact hx3.cell (HL.out t x r v ht hv)
      ·rw [List.getElem?_append_right (by omega)] at ht
       have hte : t = i := by
        have := (List.getElem?_eq_some_iff.1 ht).1
        simp only [List.length_singleton] at this
        omega
       subst hte
       rw [show t - (kept p j).length = 0 by omega] at ht
       simp only [List.getElem?_cons_zero, Option.some.injEq] at ht
       subst ht
       rw [hXj] at hv
       have hr : r < 3 := by simpa using (List.getElem?_eq_some_iff.1 hv).1
       rw [if_pos ⟨by omega, by simp; omega⟩, show t * 3 + r - t * 3 = r by omega]
       exact hv
     ·refine (hcell (x * 3 + r)).trans ?_
      rw [if_neg (by simp only [List.length_cons, List.length_nil]; omega)]
      exact hx3.cell (HH.out x r v (by omega) hxn hv)
  ·obtain rfl : j = n := by omega
   have hltz : ¬ (j : Int) < (j : Int) := by omega
   have HO := Lib.hid IO
   have HL := Lib.hid IL
   have HH := Lib.hid IH
   clear IO IL IH I
   obtain ⟨cw, hcw, hcs⟩ : ∃ cw, wr.heap[g]? = some (.cells cw e (0, 0)) ∧ cw.size = c * 3 := by
    obtain ⟨cur, hh, hs⟩ := HS.out
    obtain ⟨c1', h1, h2⟩ := HO.out.sizes g cur e (0, 0) hh
    exact ⟨c1', h1, h2.trans hs⟩
   have hcl := fun ty => znb (P := Tryz.prog) wr 25 96 ty (.agg #[.int .i64 0, .slice none 0 0, .int .i64 0]) Tryz.underlying25 (fun w => by kernel_rfl) (by simp [Value.cells, oneV]) g (i * 3) (j - i) (c - i) (by omega) (by decide) (fun o ho => by
     rw [zx hcw, Array.getElem?_eq_getElem (by have : (Value.agg #[.int .i64 0, .slice none 0 0, .int .i64 0]).cells.size = 3 := rfl; rw [this] at ho; omega)]
     rfl) (fun o ho => by
     simp only [World.frozen?, hcw, Bool.and_eq_false_iff, decide_eq_false_iff_not]
     right
     exact Nat.not_lt_zero _)
   generalize hZ : (Builtin.zeroCells (Value.agg #[.int .i64 0, .slice none 0 0, .int .i64 0]).cells (j - i)).toList = Z at hcl
   have HZ := Lib.hid hZ
   have HCW := Lib.hid hcw
   have HCS := Lib.hid hcs
   clear hZ hcw hcs
   go_wp2
   go_ret
   have hZl : Z.length = (j - i) * 3 := by rw [← HZ.out]; simp [Builtin.zeroCells]; rfl
   have hZ1 : ∀ v ∈ Z, oneV v := by
    intro v hv
    rw [← HZ.out] at hv
    simp only [Builtin.zeroCells, Array.toList_map, List.mem_map] at hv
    obtain ⟨o, _, rfl⟩ := hv
    have hm : o % 3 = 0 ∨ o % 3 = 1 ∨ o % 3 = 2 := by omega
    have he : (Value.agg #[.int .i64 0, .slice none 0 0, .int .i64 0]).cells.size = 3 := rfl
    rw [he]
    rcases hm with h | h | h <;> rw [h] <;> simp [Value.cells, oneV]
   have hcs := HCS.out
   have HW := ziF Tryz.prog g (i * 3) Z wr cw e HCW.out (by rw [hZl]; omega) hZ1
   have hcell := HW.cell HCW.out (by rw [hZl]; omega)
   have hi := HI.out
   refine ⟨by rw [hi]; rfl, HO.out.trans HW.outM, fun t x r v ht hv => ?_⟩
   have hxn := zrP ht
   obtain ⟨a0, a1, a2, hXx, _⟩ := HX.out x hxn.1
   have hr : r < 3 := by
    have := (List.getElem?_eq_some_iff.1 hv).1
    rw [hXx] at this
    simpa using this
   have htl := (List.getElem?_eq_some_iff.1 ht).1
   refine (hcell (t * 3 + r)).trans ?_
   rw [if_neg (by omega)]
   exact HL.out t x r v ht hv
end Go.Proofs.YtifkepnfaggkiaaGreatDoor
namespace Go.Proofs.YtifkepnfaggkiaaGreatDoor
open Go.RowKit
set_option linter.unusedVariables false
set_option linter.unusedSimpArgs false
set_option maxRecDepth 100000
theorem zvu {a : Bs} {w W : World} (h : a.Ext w) {S : Nat → Prop} (hS : ∀ b, S b → a.w.heap.size ≤ b ∨ a.C b) (k : OutM S w W) : a.Ext W :=
 ⟨k.os.trans h.os, k.tape.trans h.tape, k.output.trans h.output, Nat.le_trans h.size k.size, fun i hi hc => (k.block i (Nat.lt_of_lt_of_le hi h.size) (fun hs => (hS i hs).elim (fun h2 => absurd hi (Nat.not_lt.2 h2)) hc)).trans (h.block i hi hc), fun i cur e fz hi => by
  obtain ⟨c1, h1, h2⟩ := h.sz i cur e fz hi
  obtain ⟨c2, h3, h4⟩ := k.sizes i c1 e fz h1
  exact ⟨c2, h3, h4.trans h2⟩⟩
theorem zmy {α γ : Type} (p : Nat → α → Bool) (r : Nat → α → γ) : ∀ (l : List α) (i : Nat) (g : γ), scan p r i l = some g → ∃ j x, l[j]? = some x ∧ p (i + j) x = true ∧ g = r (i + j) x ∧ ∀ t y, t < j → l[t]? = some y → p (i + t) y = false
 | [], i, g, h => by cases h
 | x :: l, i, g, h => by
  unfold scan at h
  split at h
  ·rename_i hp
   injection h with h
   exact ⟨0, x, rfl, hp, h.symm, fun t y ht => absurd ht (Nat.not_lt_zero _)⟩
  ·rename_i hp
   obtain ⟨j, y, h1, h2, h3, h4⟩ := zmy p r l (i + 1) g h
   refine ⟨j + 1, y, by simpa using h1, by rw [show i + (j + 1) = i + 1 + j by omega]; exact h2, by rw [show i + (j + 1) = i + 1 + j by omega]; exact h3, fun t z ht hz => ?_⟩
   cases t with
   | zero => simp at hz; subst hz; simpa using hp
   | succ t =>
    have := h4 t z (by omega) (by simpa using hz)
    rw [show i + (t + 1) = i + 1 + t by omega]
    exact this
theorem ztc {α : Type} (p : α → Bool) (l : List α) : (idxI p l = -1 ∧ l.any p = false) ∨ ∃ (j : Nat) (x : α), idxI p l = j ∧ l[j]? = some x ∧ p x = true ∧ ∀ t y, t < j → l[t]? = some y → p y = false := by
 unfold idxI
 cases hs : scan (fun _ x => p x) (fun i _ => (i : Int)) 0 l with
 | none =>
  left
  refine ⟨rfl, ?_⟩
  rw [List.any_eq_false]
  intro x hx
  obtain ⟨j, hj⟩ := List.getElem?_of_mem hx
  have := zgJ _ _ l 0 hs j x hj
  simpa using this
 | some g =>
  right
  obtain ⟨j, x, h1, h2, h3, h4⟩ := zmy _ _ l 0 g hs
  exact ⟨j, x, by rw [h3]; simp, h1, h2, fun t y ht hy => h4 t y ht hy⟩
def pAt {α : Type} (p : α → Bool) (l : List α) (x : Nat) : Bool := match l[x]? with | some y => p y | none => false
theorem zlm {α : Type} (p : α → Bool) (l : List α) : ∀ j, j ≤ l.length → ((l.take j).filter fun y => !p y).map some = (kept (pAt p l) j).map fun x => l[x]?
 | 0, _ => by simp [kept]
 | j + 1, h => by
  have ih := zlm p l j (by omega)
  rw [List.take_succ_eq_append_getElem (show j < l.length by omega), List.filter_append, List.map_append, ih, zfJ, List.map_append]
  congr 1
  have hx : l[j]? = some l[j] := List.getElem?_eq_getElem (by omega)
  cases hp : p l[j] <;> simp [pAt, hx, hp]
theorem zrE {p : Nat → Bool} : ∀ {n t x : Nat}, (kept p n)[t]? = some x → (kept p x).length = t
 | 0, t, x, h => by simp [kept] at h
 | n + 1, t, x, h => by
  rw [zfJ] at h
  by_cases ht : t < (kept p n).length
  ·rw [List.getElem?_append_left ht] at h
   exact zrE h
  ·rw [List.getElem?_append_right (by omega)] at h
   split at h
   ·simp at h
   ·have hl := (List.getElem?_eq_some_iff.1 h).1
    simp only [List.length_singleton] at hl
    rw [show t - (kept p n).length = 0 by omega] at h
    simp only [List.getElem?_cons_zero, Option.some.injEq] at h
    subst h
    omega
theorem zqH {u : Value} {w w' : World} {e : Ending} (h : Gave [.v (.at u)] w e w') : e = .returned u ∧ Ext w w' := by
 obtain ⟨vs, ω, rfl, hx, ho⟩ := h
 match vs, ho with
 | [v], ⟨⟨n, hv⟩, _⟩ =>
  have : v = u := by
   cases n <;> (unfold OwN at hv; exact hv)
  subst this
  exact ⟨rfl, hx⟩
 | _ :: _ :: _, ⟨_, h2⟩ => exact h2.elim
set_option maxHeartbeats 4000000 in
theorem zv2 (gf : FuncId) (lb : Array Value) (ei : ∀ args w, (callFunc IDXF args).run Tryz.prog w = .ok (.enter IDXF args) w) (A : Option Addr) (n c : Nat) (w : World)
  (hidx : Calls Tryz.prog IDXF #[.slice A n c, .func (.func gf) #[] lb] w fun e' w' => e' = .returned (.int .i64 (-1)) ∧ Ext w w') :
  Calls Tryz.prog DELF #[.slice A n c, .func (.func gf) #[] lb] w fun e' w' => e' = .returned (.slice A n c) ∧ Ext w w' := by
 go_enter Tryz.func188, Tryz.ntmps188
 go_wp2_with (go_at_fn IDXF; refine hidx.mono ?_; rintro e' w1 ⟨rfl, hx1⟩)
 go_ret
 exact ⟨rfl, hx1⟩
theorem zwD {α : Type} (en : α → List DT) (hK : ∀ x, (en x).length = 3) (h1v : ∀ x d, d ∈ en x → (∃ v, d = .at v ∧ oneV v) ∨ ∃ e k l, d = .sl e k l) {F : Fns} {w0 : Bs} (hF : Sound Tryz.prog F w0) {gf : FuncId} (hg : gf < 2 ^ 40) {caps : List DT} {e : Nat} {l : List α} {p : α → Bool}
  (hcl : ∀ x ∈ l, F gf (.a (en x) :: caps.map .v) = some [.v (.at (.bool (p x)))])
  (hix : F IDXF [.v (.sl e 3 (l.map en)), .v (.fn gf caps)] = some [.v (.at (.int .i64 (idxI p l)))]) :
  zmQ Tryz.prog w0 DELF [.v (.sl e 3 (l.map en)), .v (.fn gf caps)] [.v (.sl e 3 ((l.filter fun x => !p x).map en))] := by
 refine ⟨e, 3, l.map en, [.v (.fn gf caps)], _, rfl, rfl, fun _ _ => by kernel_rfl, fun w v vs S S2 R hx hlt hS hR hOw hRest => ?_⟩
 have ei : ∀ args w, (callFunc IDXF args).run Tryz.prog w = .ok (.enter IDXF args) w := fun _ _ => by kernel_rfl
 match vs, hRest with
 | [vf], hfn =>
 obtain ⟨M, hM⟩ := hfn
 cases M with
 | zero => exact hM.elim
 | succ M =>
 obtain ⟨cs, rfl, hcs, hcj⟩ := hM
 have hI := ((hF _ _ _ hix).1 (by decide)).2 w [v, .func (.func gf) #[] cs.toArray] hx ⟨Ow.rd hOw (fun b hb => hlt b (.inl hb)), ⟨M + 1, cs, rfl, hcs, fun j d u hd hu => RdN.mono (fun b hb => hlt b (.inr (.inr hb))) (zq _ _) _ _ _ (hcj j d u hd hu)⟩, trivial⟩
 have hI2 : Calls Tryz.prog IDXF #[v, .func (.func gf) #[] cs.toArray] w fun e' w' => e' = .returned (.int .i64 (idxI p l)) ∧ Ext w w' := hI.mono fun _ _ h => zqH h
 rcases ztc p l with ⟨h1, h2⟩ | ⟨k0, x0, h1, h2, h3, h4⟩
 ·rw [h1] at hI2
  have hfil : (l.filter fun x => !p x) = l := by
   rw [List.filter_eq_self]
   intro x hx
   have := List.any_eq_false.1 h2 x hx
   simpa using this
  rw [hfil]
  obtain ⟨A, n, c, rfl⟩ : ∃ A n c, v = .slice A n c := by
   obtain ⟨N, hO⟩ := hOw
   cases N with
   | zero => exact hO.elim
   | succ N =>
    rcases hO with ⟨rfl, _⟩ | ⟨g, c, cur, fz, rfl, _⟩
    ·exact ⟨_, _, _, rfl⟩
    ·exact ⟨_, _, _, rfl⟩
  refine (zv2 gf cs.toArray ei A n c w hI2).mono ?_
  rintro e' w' ⟨rfl, hx'⟩
  exact ⟨_, rfl, OutM.ext hx', Ow.mono hOw (fun b hb => .inl hb) (SameOn.ext hx')⟩
 ·rw [h1] at hI2
  have hk0 : k0 < l.length := (List.getElem?_eq_some_iff.1 h2).1
  obtain ⟨N, hO⟩ := hOw
  cases N with
  | zero => exact hO.elim
  | succ N =>
  rcases hO with ⟨rfl, hnil⟩ | ⟨g, c, cur, fz, rfl, hSg, hh, hf, hl1, hl2, hl3, ω, hω, hi⟩
  ·have : l = [] := by simpa using hnil
   subst this
   simp at hk0
  ·have hfz : fz = (0, 0) := hf
   subst hfz
   rw [List.length_map] at hl1
   have hX : ∀ x y, l[x]? = some y → ∀ j d, (en y)[j]? = some d → ∃ u, cur[x * 3 + j]? = some u ∧ OwN w N (fun b => S b ∧ ω b = some (x, j)) u d := fun x y hy => (hi x (en y) (by rw [List.getElem?_map, hy]; rfl)).2
   let X : Nat → List Value := fun x => (List.range 3).map fun r => (cur[x * 3 + r]?).getD undef
   have hXr : ∀ x r v, (X x)[r]? = some v → r < 3 ∧ v = (cur[x * 3 + r]?).getD undef := fun x r v hv => by
    have hr : r < 3 := by simpa [X] using (List.getElem?_eq_some_iff.1 hv).1
    refine ⟨hr, ?_⟩
    simp only [X, List.getElem?_map, List.getElem?_range hr, Option.map_some, Option.some.injEq] at hv
    exact hv.symm
   have hXu : ∀ x y, l[x]? = some y → ∀ j d, (en y)[j]? = some d → ∃ u, (X x)[j]? = some u ∧ cur[x * 3 + j]? = some u ∧ OwN w N (fun b => S b ∧ ω b = some (x, j)) u d := fun x y hy j d hd => by
    obtain ⟨u, hu, hOw⟩ := hX x y hy j d hd
    have hj : j < 3 := by rw [← hK y]; exact (List.getElem?_eq_some_iff.1 hd).1
    refine ⟨u, ?_, hu, hOw⟩
    simp only [X, List.getElem?_map, List.getElem?_range hj, Option.map_some, hu, Option.getD_some]
   have hone : ∀ x y, l[x]? = some y → ∀ j, j < 3 → ∃ u, (X x)[j]? = some u ∧ oneV u := fun x y hy j hj => by
    have hd : (en y)[j]? = some ((en y)[j]'(by rw [hK]; exact hj)) := List.getElem?_eq_getElem _
    obtain ⟨u, h1, _, hOw⟩ := hXu x y hy j _ hd
    refine ⟨u, h1, ?_⟩
    rcases h1v y _ (List.mem_of_getElem? hd) with ⟨v, hv, ho⟩ | ⟨e2, k2, l2, hv⟩
    ·rw [hv] at hOw
     have : u = v := zpO ⟨N, hOw⟩
     rw [this]; exact ho
    ·rw [hv] at hOw
     exact zpu ⟨N, hOw⟩
   have hgl : g < w.heap.size := hlt g (.inl hSg)
   have hRg : ∀ b, R b → ¬ b = g := fun b hb he => (hR b hb).1 (by rw [he]; exact hSg)
   obtain ⟨hE, _⟩ := (hF gf _ _ (hcl x0 (List.mem_of_getElem? h2))).1 hg
   have hpa : ∀ x y, l[x]? = some y → pAt p l x = p y := fun x y hy => by unfold pAt; rw [hy]
   have hW := zvC gf cs.toArray hE ei g c l.length e k0 w X (pAt p l) (fun x hxl => by
     have hy : l[x]? = some l[x] := List.getElem?_eq_getElem hxl
     obtain ⟨u0, a0, b0⟩ := hone x _ hy 0 (by omega)
     obtain ⟨u1, a1, b1⟩ := hone x _ hy 1 (by omega)
     obtain ⟨u2, a2, b2⟩ := hone x _ hy 2 (by omega)
     refine ⟨u0, u1, u2, ?_, b0, b1, b2⟩
     have e0 := (hXr x 0 u0 a0).2
     have e1 := (hXr x 1 u1 a1).2
     have e2 := (hXr x 2 u2 a2).2
     rw [e0, e1, e2]
     rfl) ⟨cur, hh, hl3⟩ (fun x r v hxl hv => by
     have hy : l[x]? = some l[x] := List.getElem?_eq_getElem hxl
     obtain ⟨hr, hv2⟩ := hXr x r v hv
     have hd : (en l[x])[r]? = some ((en l[x])[r]'(by rw [hK]; exact hr)) := List.getElem?_eq_getElem _
     obtain ⟨u, hu1, hu2, _⟩ := hXu x _ hy r _ hd
     rw [hv] at hu1
     injection hu1 with hu1
     subst hu1
     rw [zx hh]
     exact hu2) hl1 hl2 hk0 ((hpa k0 x0 h2).trans h3) (fun x hx0 => by
     have hy : l[x]? = some l[x] := List.getElem?_eq_getElem (by omega)
     rw [hpa x _ hy]
     exact h4 x _ hx0 hy) (by rw [List.length_map] at hI2; exact hI2) (fun W x hO hxl => by
     have hy : l[x]? = some l[x] := List.getElem?_eq_getElem hxl
     have hxW : w0.Ext W := zvu hx (fun b hb => by rw [hb]; exact (hS g hSg).1) hO
     have hsame : SameOn (fun b => b < w.heap.size ∧ b ≠ g) w W := hO.same fun b hb => hb.2
     have hlt' : ∀ b, (b < w.heap.size ∧ b ≠ g) → Lt W b := fun b hb => Nat.lt_of_lt_of_le hb.1 hO.size
     have := ((hF gf _ _ (hcl l[x] (List.getElem_mem hxl))).1 hg).2 W (.agg (X x).toArray :: cs) hxW ⟨⟨X x, rfl, by simp [X, hK], fun j d u hd hu => by
      obtain ⟨u', hu1, _, hOw⟩ := hXu x _ hy j d hd
      rw [hu] at hu1
      injection hu1 with hu1
      subst hu1
      exact Rd.mono (Ow.rd ⟨N, hOw⟩ (R := fun b => b < w.heap.size ∧ b ≠ g) (fun b hb => ⟨hlt b (.inl hb.1), fun he => by subst he; rw [hω] at hb; cases hb.2⟩)) hlt' hsame⟩, zh3 _ _ (by simp [hcs]) fun j x' v' hx' hv' => by
      rw [List.getElem?_map, Option.map_eq_some_iff] at hx'
      obtain ⟨d, hd, rfl⟩ := hx'
      exact Rd.mono (R := fun b => b < w.heap.size ∧ b ≠ g) (Rd.mono ⟨M, hcj j d v' hd hv'⟩ (fun b hb => ⟨hlt b (.inr (.inr hb)), hRg b hb⟩) (zq _ _)) hlt' hsame⟩
     rw [hpa x _ hy]
     have e1 : (Value.agg (X x).toArray :: cs).toArray = #[Value.agg (X x).toArray] ++ cs.toArray := by simp
     rw [e1] at this
     exact this.mono fun _ _ h => zqH h)
   have hlen : (Value.slice (some ⟨g, 0, none⟩) (l.map en).length c) = .slice (some ⟨g, 0, none⟩) l.length c := by rw [List.length_map]
   rw [hlen]
   refine hW.mono ?_
   rintro e' w' ⟨rfl, hO, hc⟩
   have hfk := zlm p l l.length (Nat.le_refl _)
   rw [List.take_length] at hfk
   have hlenk : (l.filter fun y => !p y).length = (kept (pAt p l) l.length).length := by simpa using congrArg List.length hfk
   refine ⟨_, rfl, hO.mono fun b hb => by rw [hb]; exact hSg, ?_⟩
   obtain ⟨cur', hh', hs'⟩ := hO.sizes g cur e (0, 0) hh
   rw [← hlenk, ← List.length_map (f := en)]
   refine Ow.sl (g := g) (cur := cur') (fz := (0, 0)) (.inl hSg) hh' rfl (by rw [List.length_map, hlenk]; exact Nat.le_trans (zp4 _ _) hl1) hl2 (hs'.trans hl3) (fun b => (ω b).map fun q => ((kept (pAt p l) q.1).length, q.2)) (by simp [hω]) (fun t es ht => ?_)
   rw [List.getElem?_map, Option.map_eq_some_iff] at ht
   obtain ⟨y, hy, rfl⟩ := ht
   obtain ⟨x, hkx, hlx⟩ : ∃ x, (kept (pAt p l) l.length)[t]? = some x ∧ l[x]? = some y := by
    have h5 : (((l.filter fun y => !p y).map some)[t]?) = some (some y) := by rw [List.getElem?_map, hy]; rfl
    rw [hfk, List.getElem?_map, Option.map_eq_some_iff] at h5
    exact h5
   refine ⟨hK y, fun j d hd => ?_⟩
   obtain ⟨u, hu1, _, hOw⟩ := hXu x y hlx j d hd
   refine ⟨u, ?_, Ow.mono ⟨N, hOw⟩ (fun b hb => ⟨.inl hb.1, ?_⟩) (fun b hb hb' => hO.block b hb (fun he => by subst he; rw [hω] at hb'; cases hb'.2))⟩
   ·have := hc t x j u hkx hu1
    rw [zx hh'] at this
    exact this
   ·rw [hb.2]
    simp only [Option.map_some]
    rw [zrE hkx]
theorem zuY {α : Type} {f : α → Option Bool} {l r : List α} (h : delL f l = some r) : ∃ p : α → Bool, (∀ x ∈ l, f x = some (p x)) ∧ r = l.filter fun x => !p x := by
 refine ⟨fun x => (f x).getD false, ?_⟩
 induction l generalizing r with
 | nil =>
  simp only [delL, Option.some.injEq] at h
  subst h
  exact ⟨fun x hx => (by cases hx), rfl⟩
 | cons x l ih =>
  simp only [delL, Option.bind_eq_some_iff, Option.map_eq_some_iff] at h
  obtain ⟨b, hb, r', hr', rfl⟩ := h
  obtain ⟨h1, h2⟩ := ih hr'
  refine ⟨fun y hy => ?_, ?_⟩
  ·rcases List.mem_cons.1 hy with rfl | hy
   ·simp [hb]
   ·exact h1 y hy
  ·rw [List.filter_cons, ← h2]
   simp only [hb, Option.getD_some]
   cases b <;> rfl
end Go.Proofs.YtifkepnfaggkiaaGreatDoor
