/- Contracts: who may read. Printed by gencr.py. -/
import Derived.Test.YtlobcaofeobgaaaRd
import Derived.Test.YtlobcaofeobgaaaCon
import Derived.Test.YtlobcaofeobgaaaMk3
namespace Go.Proofs.Ytlobcaofeobgaaa
open Go.RowKit
set_option linter.unusedVariables false
set_option linter.unusedSimpArgs false
set_option maxRecDepth 100000
theorem eReader_inj (x y : DReader) (h : eReader x = eReader y) : x = y := by
  cases x; cases y
  simp only [eReader, List.cons.injEq, DT.sl.injEq, DT.at.injEq, Value.int.injEq, true_and, and_true] at h
  rw [h.1, map_inj eS_inj h.2.1, h.2.2]
theorem aRs_inj (a b : List DReader) (h : aRs a = aRs b) : a = b := by
  simp only [aRs, Arg.v.injEq, DT.sl.injEq, true_and] at h
  exact map_inj eReader_inj h
theorem readersOf_len (l : List DReader) (n : List ByteArray) : (readersOf l n).length ≤ 6 := rdK_len l n 6
theorem readersOf_i64 (l : List DReader) (n : List ByteArray) : ∀ x ∈ readersOf l n, I64 x := by
  intro x hx
  unfold readersOf rdK at hx
  rw [List.mem_map] at hx
  obtain ⟨j, hj, rfl⟩ := hx
  have := (List.mem_range.1 (List.mem_filter.1 hj).1)
  unfold I64
  omega
theorem szReaders {x : DAccessController} (h : szAccessController x ≤ 1048576) : x.readers.length < 2 ^ 40 := by
  have := szL_len szReader x.readers
  unfold szAccessController at h
  omega
theorem szName {n : List ByteArray} (h : (szL ByteArray.size) n ≤ 1048576) : n.length < 2 ^ 40 := by
  have := szL_len ByteArray.size n
  omega

theorem ramp_at (k : Int) (n j : Nat) (h : j < n) : (ramp k n)[j]'(by rw [ramp_length]; exact h) = k + (j : Int) := by simp [ramp]
set_option maxHeartbeats 4000000 in
theorem heldIntS_e (F : Fns) (n : Nat) (hn : n < 2 ^ 40) : evBody prims (fun F lv => aloop F lv fuel) TY F ⟨Try.f18, Try.f18.body.getD .skip, fun id => if id = 2 then [0, 1, 5] else []⟩ [aIs (ramp 1 n), aI 1] = some [aI (1 + (n : Int))] := by
  obtain ⟨p, hp⟩ : ∃ p : Prims, p = prims := ⟨_, rfl⟩
  rw [← hp]
  obtain ⟨p_arith, p_cmp, p_wrap, p_scmp, p_scat, p_catOk, p_ssize, p_sat, p_ssub, p_bytes, p_str, p_bnot, p_beq, p_min, p_max, p_len, p_int, p_nth, p_sub, p_rsub, p_ridx, p_rnth, p_rset, p_rapp, p_rlen, p_addN, p_full, p_fits, p_frz, p_own, p_opn, p_lend, p_rmov, p_rout⟩ := p
  have h_cmp : p_cmp = prims.cmp := congrArg Prims.cmp hp
  have h_len : p_len = prims.len := congrArg Prims.len hp
  have h_int : p_int = prims.int := congrArg Prims.int hp
  have h_nth : p_nth = prims.nth := congrArg Prims.nth hp
  have h_arith : p_arith = prims.arith := congrArg Prims.arith hp
  clear hp
  generalize hal : (fun (F : St → (Ex → St → Option (List Arg)) → Option (List Arg)) lv => aloop F lv fuel) = al
  have hlL : p_len ((ramp 1 n).map eI) = n := by rw [h_len, prims_len, ramp_length]
  have hnL : ∀ (k : Nat) (i : Int) (hi : i = k) (h : k < n), p_nth ((ramp 1 n).map eI) i = some [.at (.int .i64 (1 + (k : Int)))] := fun k i hi h => by
    rw [h_nth, prims_nth eI (ramp 1 n) k i hi (by rw [ramp_length]; exact h), ramp_at 1 n k h]
    rfl
  unfold aIs
  generalize (ramp 1 n).map eI = L at *
  generalize hr : (1 + (n : Int)) = r
  cbv
  rw [← hal]
  refine aloop_run (ι := Nat × Int × Int) (fun x => ⟨[.c (.rd true 3 1 L), .c (.at (.int .i64 x.2.2)), dd, dd, dd, .c (.at (.int .i64 x.2.1)), dd, dd, dd, dd, dd, dd, dd, dd, dd, dd, dd, dd, dd, dd, dd], [], 1⟩) (fun _ => _) (fun x => n - x.1) (fun x => x.2.1 = (x.1 : Int) ∧ x.1 ≤ n ∧ x.2.2 = 1 + (x.1 : Int)) ?_ fuel (0, 0, 1) _ rfl ⟨rfl, Nat.zero_le _, rfl⟩ (by simp [fuel]; omega)
  rintro ⟨k, i, q⟩ ⟨hi, hk, hq⟩ R hR
  simp only at hi hk hq
  have cI' : p_cmp .lss i (p_int (p_len L)) = decide (k < n) := by rw [h_cmp, h_int, hlL, hi]; simp [prims, icmp]
  by_cases h1 : k < n
  · rw [decide_eq_true h1] at cI'
    have n1 := hnL k i hi h1
    rw [← hq] at n1
    have c2 : p_cmp .neq q q = false := by rw [h_cmp]; simp [prims, icmp]
    have hadd : p_arith .add .i64 i 1 = ((k + 1 : Nat) : Int) := by rw [h_arith, prims_add i (by unfold I64; omega)]; omega
    have hadd2 : p_arith .add .i64 q 1 = 1 + ((k + 1 : Nat) : Int) := by rw [h_arith, prims_add q (by unfold I64; omega)]; omega
    cbv
    rw [cI']
    cbv
    rw [n1]
    cbv
    rw [c2]
    cbv
    exact hR (k + 1, _, _) ⟨hadd, h1, hadd2⟩ (by show n - (k + 1) < n - k; omega)
  · rw [decide_eq_false h1] at cI'
    have : q = r := by rw [← hr, hq]; congr 2; omega
    subst this
    cbv
    rw [cI']
    cbv

theorem heldIntS_c {n : Nat} (v : Value) (w : World) (h : sInts.rd w [v] (ramp 1 n)) (hn : n ≤ 1048576) :
    Calls Try.prog 18 #[v, .int .i64 1] w fun e w' => e = .returned (.int .i64 (1 + (n : Int))) ∧ Ext w w' := by
  obtain ⟨F, hF⟩ := tab_nil Try.prog
  have con : Con Try.prog 18 [aIs (ramp 1 n), aI 1] [aI (1 + (n : Int))] := con_of (live := fun id => if id = 2 then [0, 1, 5] else []) (by kernel_rfl) TY_ok hF Try.func18 (body := Try.f18.body.getD .skip) rfl (by kernel_rfl) (heldIntS_e F n (by omega))
  exact (con w [v, .int .i64 1] ⟨argRd_one (Enc.sl 3 Enc.int (by decide) w [v] _ h), argRd_at, trivial⟩).mono fun e w' he => gave_at he

set_option maxHeartbeats 4000000 in
theorem specCurrentReaders_c (cs : List Value) (x : DAccessController) (cs' : List Value) (n : List ByteArray) (w : World) (h : sAccessController.rd w cs x) (hn : strs.rd w cs' n) (hs : szAccessController x ≤ 1048576) (hs' : (szL ByteArray.size) n ≤ 1048576) :
    Calls Try.prog 8 #[.agg cs.toArray, .agg cs'.toArray] w (Gives sInts w (readersOf x.readers n)) := by
  obtain ⟨F, hF⟩ := tab_nil Try.prog
  have con : ∀ i : ByteArray × ByteArray, Con Try.prog 144 ((fun i : ByteArray × ByteArray => [aS i.1, aS i.2]) i) ((fun i : ByteArray × ByteArray => [aI (cmpStr i.1 i.2)]) i) := fun i => con_of (live := fun _ => []) (by kernel_rfl) TY_ok hF Try.func144 (body := Try.f144.body.getD .skip) rfl (by kernel_rfl) (specl4Cmp_e F i.1 i.2)
  obtain ⟨G, hG, f_l4, keep⟩ := tab_add hF (f := 144) (fun _ _ => by kernel_rfl) ((fun i : ByteArray × ByteArray => [aS i.1, aS i.2])) ((fun i : ByteArray × ByteArray => [aI (cmpStr i.1 i.2)])) ((fun i j h => by obtain ⟨h1, h2⟩ := two h; have h1 := aS_inj _ _ h1; have h2 := aS_inj _ _ h2; simp only [h1, h2])) con
  clear con keep hF F
  have hF := hG
  clear hG
  obtain ⟨F, rfl⟩ : ∃ F, F = G := ⟨_, rfl⟩
  have con : ∀ i : Int × Int, Con Try.prog 129 ((fun i : Int × Int => [aI i.1, aI i.2]) i) ((fun i : Int × Int => [aI (minI i.1 i.2)]) i) := fun i => con_of (live := fun _ => []) (by kernel_rfl) TY_ok hF Try.func129 (body := Try.f129.body.getD .skip) rfl (by kernel_rfl) (specMin_e F i.1 i.2)
  obtain ⟨G, hG, f_Min, keep⟩ := tab_add hF (f := 129) (fun _ _ => by kernel_rfl) ((fun i : Int × Int => [aI i.1, aI i.2])) ((fun i : Int × Int => [aI (minI i.1 i.2)])) ((fun i j h => by obtain ⟨h1, h2⟩ := two h; have h1 := aI_inj _ _ h1; have h2 := aI_inj _ _ h2; simp only [h1, h2])) con
  replace f_l4 := fun i => (keep _ (by decide) _).trans (f_l4 i)
  clear con keep hF F
  have hF := hG
  clear hG
  obtain ⟨F, rfl⟩ : ∃ F, F = G := ⟨_, rfl⟩
  have con : ∀ i : Int × Int, Con Try.prog 128 ((fun i : Int × Int => [aI i.1, aI i.2]) i) ((fun i : Int × Int => [aI (maxI i.1 i.2)]) i) := fun i => con_of (live := fun _ => []) (by kernel_rfl) TY_ok hF Try.func128 (body := Try.f128.body.getD .skip) rfl (by kernel_rfl) (specMax_e F i.1 i.2)
  obtain ⟨G, hG, f_Max, keep⟩ := tab_add hF (f := 128) (fun _ _ => by kernel_rfl) ((fun i : Int × Int => [aI i.1, aI i.2])) ((fun i : Int × Int => [aI (maxI i.1 i.2)])) ((fun i j h => by obtain ⟨h1, h2⟩ := two h; have h1 := aI_inj _ _ h1; have h2 := aI_inj _ _ h2; simp only [h1, h2])) con
  replace f_l4 := fun i => (keep _ (by decide) _).trans (f_l4 i)
  replace f_Min := fun i => (keep _ (by decide) _).trans (f_Min i)
  clear con keep hF F
  have hF := hG
  clear hG
  obtain ⟨F, rfl⟩ : ∃ F, F = G := ⟨_, rfl⟩
  have con : ∀ i : {i : List ByteArray × List ByteArray // i.1.length < 2 ^ 60}, Con Try.prog 127 ((fun i : {i : List ByteArray × List ByteArray // i.1.length < 2 ^ 60} => [aN i.1.1, aN i.1.2]) i) ((fun i : {i : List ByteArray × List ByteArray // i.1.length < 2 ^ 60} => [aI (cmpNames i.1.1 i.1.2)]) i) := fun i => con_of (live := fun id => if id = 2 then [2, 3, 5] else []) (by kernel_rfl) TY_ok hF Try.func127 (body := Try.f127.body.getD .skip) rfl (by kernel_rfl) (specCompareNames_e F (fun a b => f_l4 (a, b)) i.1.1 i.1.2 i.2)
  obtain ⟨G, hG, f_cmp, keep⟩ := tab_add hF (f := 127) (fun _ _ => by kernel_rfl) ((fun i : {i : List ByteArray × List ByteArray // i.1.length < 2 ^ 60} => [aN i.1.1, aN i.1.2])) ((fun i : {i : List ByteArray × List ByteArray // i.1.length < 2 ^ 60} => [aI (cmpNames i.1.1 i.1.2)])) ((fun i j h => by obtain ⟨h1, h2⟩ := two h; have h1 := aN_inj _ _ h1; have h2 := aN_inj _ _ h2; simp only [h1, h2])) con
  replace f_l4 := fun i => (keep _ (by decide) _).trans (f_l4 i)
  replace f_Min := fun i => (keep _ (by decide) _).trans (f_Min i)
  replace f_Max := fun i => (keep _ (by decide) _).trans (f_Max i)
  clear con keep hF F
  have hF := hG
  clear hG
  obtain ⟨F, rfl⟩ : ∃ F, F = G := ⟨_, rfl⟩
  have con : ∀ i : {i : List ByteArray × List ByteArray // i.1.length < 2 ^ 60}, Con Try.prog 103 ((fun i : {i : List ByteArray × List ByteArray // i.1.length < 2 ^ 60} => [aN i.1.1, aN i.1.2]) i) ((fun i : {i : List ByteArray × List ByteArray // i.1.length < 2 ^ 60} => [aB (decide (i.1.1 = i.1.2))]) i) := fun i => con_of (live := fun _ => []) (by kernel_rfl) TY_ok hF Try.func103 (body := Try.f103.body.getD .skip) rfl (by kernel_rfl) (specEqualNames_e F (fun a b h => f_cmp ⟨(a, b), h⟩) i.1.1 i.1.2 i.2)
  obtain ⟨G, hG, f_eq, keep⟩ := tab_add hF (f := 103) (fun _ _ => by kernel_rfl) ((fun i : {i : List ByteArray × List ByteArray // i.1.length < 2 ^ 60} => [aN i.1.1, aN i.1.2])) ((fun i : {i : List ByteArray × List ByteArray // i.1.length < 2 ^ 60} => [aB (decide (i.1.1 = i.1.2))])) ((fun i j h => by obtain ⟨h1, h2⟩ := two h; have h1 := aN_inj _ _ h1; have h2 := aN_inj _ _ h2; simp only [h1, h2])) con
  replace f_l4 := fun i => (keep _ (by decide) _).trans (f_l4 i)
  replace f_Min := fun i => (keep _ (by decide) _).trans (f_Min i)
  replace f_Max := fun i => (keep _ (by decide) _).trans (f_Max i)
  replace f_cmp := fun i => (keep _ (by decide) _).trans (f_cmp i)
  clear con keep hF F
  have hF := hG
  clear hG
  obtain ⟨F, rfl⟩ : ∃ F, F = G := ⟨_, rfl⟩
  have con : ∀ i : {i : List ByteArray × Nat // i.2 ≤ i.1.length ∧ i.1.length < 2 ^ 40}, Con Try.prog 104 ((fun i : {i : List ByteArray × Nat // i.2 ≤ i.1.length ∧ i.1.length < 2 ^ 40} => [aN i.1.1, aI i.1.2]) i) ((fun i : {i : List ByteArray × Nat // i.2 ≤ i.1.length ∧ i.1.length < 2 ^ 40} => [aN (i.1.1.take i.1.2)]) i) := fun i => con_of (live := fun _ => []) (by kernel_rfl) TY_ok hF Try.func104 (body := Try.f104.body.getD .skip) rfl (by kernel_rfl) (specTruncate_e F (fun a b => f_Min (a, b)) (fun a b => f_Max (a, b)) i.1.1 i.1.2 i.2.1 i.2.2)
  obtain ⟨G, hG, f_tr, keep⟩ := tab_add hF (f := 104) (fun _ _ => by kernel_rfl) ((fun i : {i : List ByteArray × Nat // i.2 ≤ i.1.length ∧ i.1.length < 2 ^ 40} => [aN i.1.1, aI i.1.2])) ((fun i : {i : List ByteArray × Nat // i.2 ≤ i.1.length ∧ i.1.length < 2 ^ 40} => [aN (i.1.1.take i.1.2)])) ((fun i j h => by obtain ⟨h1, h2⟩ := two h; have h1 := aN_inj _ _ h1; have h2 : i.1.2 = j.1.2 := Int.ofNat.inj (aI_inj _ _ h2); simp only [h1, h2])) con
  replace f_l4 := fun i => (keep _ (by decide) _).trans (f_l4 i)
  replace f_Min := fun i => (keep _ (by decide) _).trans (f_Min i)
  replace f_Max := fun i => (keep _ (by decide) _).trans (f_Max i)
  replace f_cmp := fun i => (keep _ (by decide) _).trans (f_cmp i)
  replace f_eq := fun i => (keep _ (by decide) _).trans (f_eq i)
  clear con keep hF F
  have hF := hG
  clear hG
  obtain ⟨F, rfl⟩ : ∃ F, F = G := ⟨_, rfl⟩
  have con : ∀ i : {i : List ByteArray × List ByteArray // i.1.length < 2 ^ 40}, Con Try.prog 73 ((fun i : {i : List ByteArray × List ByteArray // i.1.length < 2 ^ 40} => [aN i.1.1, aN i.1.2]) i) ((fun i : {i : List ByteArray × List ByteArray // i.1.length < 2 ^ 40} => [aB (hasPrefix i.1.1 i.1.2)]) i) := fun i => con_of (live := fun _ => []) (by kernel_rfl) TY_ok hF Try.func73 (body := Try.f73.body.getD .skip) rfl (by kernel_rfl) (specHasPrefix_e F (fun n k h1 h2 => f_tr ⟨(n, k), h1, h2⟩) (fun a b h => f_eq ⟨(a, b), h⟩) i.1.1 i.1.2 i.2)
  obtain ⟨G, hG, f_hp, keep⟩ := tab_add hF (f := 73) (fun _ _ => by kernel_rfl) ((fun i : {i : List ByteArray × List ByteArray // i.1.length < 2 ^ 40} => [aN i.1.1, aN i.1.2])) ((fun i : {i : List ByteArray × List ByteArray // i.1.length < 2 ^ 40} => [aB (hasPrefix i.1.1 i.1.2)])) ((fun i j h => by obtain ⟨h1, h2⟩ := two h; have h1 := aN_inj _ _ h1; have h2 := aN_inj _ _ h2; simp only [h1, h2])) con
  replace f_l4 := fun i => (keep _ (by decide) _).trans (f_l4 i)
  replace f_Min := fun i => (keep _ (by decide) _).trans (f_Min i)
  replace f_Max := fun i => (keep _ (by decide) _).trans (f_Max i)
  replace f_cmp := fun i => (keep _ (by decide) _).trans (f_cmp i)
  replace f_eq := fun i => (keep _ (by decide) _).trans (f_eq i)
  replace f_tr := fun i => (keep _ (by decide) _).trans (f_tr i)
  clear con keep hF F
  have hF := hG
  clear hG
  obtain ⟨F, rfl⟩ : ∃ F, F = G := ⟨_, rfl⟩
  have con : ∀ i : {i : List DReader × Int × List ByteArray // i.1.length < 2 ^ 40 ∧ i.2.2.length < 2 ^ 40}, Con Try.prog 45 ((fun i : {i : List DReader × Int × List ByteArray // i.1.length < 2 ^ 40 ∧ i.2.2.length < 2 ^ 40} => [aRs i.1.1, aI i.1.2.1, aN i.1.2.2]) i) ((fun i : {i : List DReader × Int × List ByteArray // i.1.length < 2 ^ 40 ∧ i.2.2.length < 2 ^ 40} => [aB (mayRead i.1.1 i.1.2.1 i.1.2.2)]) i) := fun i => con_of (live := fun id => if id = 2 then [0, 1, 5, 7] else []) (by kernel_rfl) TY_ok hF Try.func45 (body := Try.f45.body.getD .skip) rfl (by kernel_rfl) (specMayRead_e F (fun a b h => f_hp ⟨(a, b), h⟩) i.1.1 i.1.2.1 i.1.2.2 i.2.1 i.2.2)
  obtain ⟨G, hG, f_mr, keep⟩ := tab_add hF (f := 45) (fun _ _ => by kernel_rfl) ((fun i : {i : List DReader × Int × List ByteArray // i.1.length < 2 ^ 40 ∧ i.2.2.length < 2 ^ 40} => [aRs i.1.1, aI i.1.2.1, aN i.1.2.2])) ((fun i : {i : List DReader × Int × List ByteArray // i.1.length < 2 ^ 40 ∧ i.2.2.length < 2 ^ 40} => [aB (mayRead i.1.1 i.1.2.1 i.1.2.2)])) ((fun i j h => by obtain ⟨h1, h2, h3⟩ := three h; have h1 := aRs_inj _ _ h1; have h2 := aI_inj _ _ h2; have h3 := aN_inj _ _ h3; simp only [h1, h2, h3])) con
  replace f_l4 := fun i => (keep _ (by decide) _).trans (f_l4 i)
  replace f_Min := fun i => (keep _ (by decide) _).trans (f_Min i)
  replace f_Max := fun i => (keep _ (by decide) _).trans (f_Max i)
  replace f_cmp := fun i => (keep _ (by decide) _).trans (f_cmp i)
  replace f_eq := fun i => (keep _ (by decide) _).trans (f_eq i)
  replace f_tr := fun i => (keep _ (by decide) _).trans (f_tr i)
  replace f_hp := fun i => (keep _ (by decide) _).trans (f_hp i)
  clear con keep hF F
  have hF := hG
  clear hG
  obtain ⟨F, rfl⟩ : ∃ F, F = G := ⟨_, rfl⟩
  have con : ∀ i : {i : List DReader × List ByteArray // i.1.length < 2 ^ 40 ∧ i.2.length < 2 ^ 40}, Con Try.prog 32 ((fun i : {i : List DReader × List ByteArray // i.1.length < 2 ^ 40 ∧ i.2.length < 2 ^ 40} => [aRs i.1.1, aN i.1.2]) i) ((fun i : {i : List DReader × List ByteArray // i.1.length < 2 ^ 40 ∧ i.2.length < 2 ^ 40} => [aIs (readersOf i.1.1 i.1.2)]) i) := fun i => con_of (live := fun id => if id = 3 then [0, 3, 5, 6] else []) (by kernel_rfl) TY_ok hF Try.func32 (body := Try.f32.body.getD .skip) rfl (by kernel_rfl) (specReadersOf_e F i.1.1 i.1.2 (fun node => f_mr ⟨(i.1.1, node, i.1.2), i.2⟩))
  obtain ⟨G, hG, f_ro, keep⟩ := tab_add hF (f := 32) (fun _ _ => by kernel_rfl) ((fun i : {i : List DReader × List ByteArray // i.1.length < 2 ^ 40 ∧ i.2.length < 2 ^ 40} => [aRs i.1.1, aN i.1.2])) ((fun i : {i : List DReader × List ByteArray // i.1.length < 2 ^ 40 ∧ i.2.length < 2 ^ 40} => [aIs (readersOf i.1.1 i.1.2)])) ((fun i j h => by obtain ⟨h1, h2⟩ := two h; have h1 := aRs_inj _ _ h1; have h2 := aN_inj _ _ h2; simp only [h1, h2])) con
  replace f_l4 := fun i => (keep _ (by decide) _).trans (f_l4 i)
  replace f_Min := fun i => (keep _ (by decide) _).trans (f_Min i)
  replace f_Max := fun i => (keep _ (by decide) _).trans (f_Max i)
  replace f_cmp := fun i => (keep _ (by decide) _).trans (f_cmp i)
  replace f_eq := fun i => (keep _ (by decide) _).trans (f_eq i)
  replace f_tr := fun i => (keep _ (by decide) _).trans (f_tr i)
  replace f_hp := fun i => (keep _ (by decide) _).trans (f_hp i)
  replace f_mr := fun i => (keep _ (by decide) _).trans (f_mr i)
  clear con keep hF F
  have hF := hG
  clear hG
  obtain ⟨F, rfl⟩ : ∃ F, F = G := ⟨_, rfl⟩
  have con : Con Try.prog 8 [.a (eAccessController x), aN n] [aIs (readersOf x.readers n)] := con_of (live := fun _ => []) (by kernel_rfl) TY_ok hF Try.func8 (body := Try.f8.body.getD .skip) rfl (by kernel_rfl) (specCurrentReaders_e F x n (f_ro ⟨(x.readers, n), szReaders hs, szName hs'⟩))
  exact (con w [.agg cs.toArray, .agg cs'.toArray] ⟨argRd_agg (encAccessController w cs x h), argRd_agg (encStrs w cs' n hn), trivial⟩).mono fun e w' he => gave_ints (readersOf_i64 _ _) he

set_option maxHeartbeats 4000000 in
theorem implCurrentReaders_c (cs : List Value) (x : DAccessController) (cs' : List Value) (n : List ByteArray) (w : World) (h : sAccessController.rd w cs x) (hn : strs.rd w cs' n) (hs : szAccessController x ≤ 1048576) (hs' : (szL ByteArray.size) n ≤ 1048576) :
    Calls Try.prog 11 #[.agg cs.toArray, .agg cs'.toArray] w (Gives sInts w (readersOf x.readers n)) := by
  obtain ⟨F, hF⟩ := tab_nil Try.prog
  have con : ∀ i : {i : List ByteArray × List ByteArray // i.1.length < 2 ^ 60}, Con Try.prog 107 ((fun i : {i : List ByteArray × List ByteArray // i.1.length < 2 ^ 60} => [aL i.1.1, aL i.1.2]) i) ((fun i : {i : List ByteArray × List ByteArray // i.1.length < 2 ^ 60} => [aB (decide (i.1.1 = i.1.2))]) i) := fun i => con_of (live := fun id => if id = 4 then [0, 1, 12, 13] else []) (by kernel_rfl) TY_ok hF Try.func107 (body := Try.f107.body.getD .skip) rfl (by kernel_rfl) (slicesEqual_e F i.1.1 i.1.2 i.2)
  obtain ⟨G, hG, f_eq, keep⟩ := tab_add hF (f := 107) (fun _ _ => by kernel_rfl) ((fun i : {i : List ByteArray × List ByteArray // i.1.length < 2 ^ 60} => [aL i.1.1, aL i.1.2])) ((fun i : {i : List ByteArray × List ByteArray // i.1.length < 2 ^ 60} => [aB (decide (i.1.1 = i.1.2))])) ((fun i j h => by obtain ⟨h1, h2⟩ := two h; have h1 := aL_inj _ _ h1; have h2 := aL_inj _ _ h2; simp only [h1, h2])) con
  clear con keep hF F
  have hF := hG
  clear hG
  obtain ⟨F, rfl⟩ : ∃ F, F = G := ⟨_, rfl⟩
  have con : ∀ i : {i : List ByteArray × List ByteArray // i.1.length < 2 ^ 40}, Con Try.prog 78 ((fun i : {i : List ByteArray × List ByteArray // i.1.length < 2 ^ 40} => [aN i.1.1, aN i.1.2]) i) ((fun i : {i : List ByteArray × List ByteArray // i.1.length < 2 ^ 40} => [aB (hasPrefix i.1.1 i.1.2)]) i) := fun i => con_of (live := fun _ => []) (by kernel_rfl) TY_ok hF Try.func78 (body := Try.f78.body.getD .skip) rfl (by kernel_rfl) (implHasPrefix_e F (fun a b h => f_eq ⟨(a, b), h⟩) i.1.1 i.1.2 i.2)
  obtain ⟨G, hG, f_hp, keep⟩ := tab_add hF (f := 78) (fun _ _ => by kernel_rfl) ((fun i : {i : List ByteArray × List ByteArray // i.1.length < 2 ^ 40} => [aN i.1.1, aN i.1.2])) ((fun i : {i : List ByteArray × List ByteArray // i.1.length < 2 ^ 40} => [aB (hasPrefix i.1.1 i.1.2)])) ((fun i j h => by obtain ⟨h1, h2⟩ := two h; have h1 := aN_inj _ _ h1; have h2 := aN_inj _ _ h2; simp only [h1, h2])) con
  replace f_eq := fun i => (keep _ (by decide) _).trans (f_eq i)
  clear con keep hF F
  have hF := hG
  clear hG
  obtain ⟨F, rfl⟩ : ∃ F, F = G := ⟨_, rfl⟩
  have con : ∀ i : {i : DReader × Int × List ByteArray // i.2.2.length < 2 ^ 40}, Con Try.prog 80 ((fun i : {i : DReader × Int × List ByteArray // i.2.2.length < 2 ^ 40} => [.a (eReader i.1.1), .v (.ptr [.at (.int .i64 i.1.2.1)]), .v (.ptr [.sl 9 1 (i.1.2.2.map eS)])]) i) ((fun i : {i : DReader × Int × List ByteArray // i.2.2.length < 2 ^ 40} => [aB (reads i.1.2.1 i.1.2.2 i.1.1)]) i) := fun i => con_of (live := fun _ => []) (by kernel_rfl) TY_ok hF Try.func80 (body := Try.f80.body.getD .skip) rfl (by kernel_rfl) (implMayRead1_e F (fun a b h => f_hp ⟨(a, b), h⟩) i.1.1 i.1.2.1 i.1.2.2 i.2)
  obtain ⟨G, hG, f_mr1, keep⟩ := tab_add hF (f := 80) (fun _ _ => by kernel_rfl) ((fun i : {i : DReader × Int × List ByteArray // i.2.2.length < 2 ^ 40} => [.a (eReader i.1.1), .v (.ptr [.at (.int .i64 i.1.2.1)]), .v (.ptr [.sl 9 1 (i.1.2.2.map eS)])])) ((fun i : {i : DReader × Int × List ByteArray // i.2.2.length < 2 ^ 40} => [aB (reads i.1.2.1 i.1.2.2 i.1.1)])) ((fun i j h => by obtain ⟨h1, h2, h3⟩ := three h; simp only [Arg.a.injEq, Arg.v.injEq, DT.ptr.injEq, List.cons.injEq, DT.at.injEq, DT.sl.injEq, Value.int.injEq, true_and, and_true] at h1 h2 h3; rw [eReader_inj _ _ h1, h2, map_inj eS_inj h3])) con
  replace f_eq := fun i => (keep _ (by decide) _).trans (f_eq i)
  replace f_hp := fun i => (keep _ (by decide) _).trans (f_hp i)
  clear con keep hF F
  have hF := hG
  clear hG
  obtain ⟨F, rfl⟩ : ∃ F, F = G := ⟨_, rfl⟩
  have con : ∀ i : {i : List DReader × Int × List ByteArray // i.1.length < 2 ^ 40 ∧ i.2.2.length < 2 ^ 40}, Con Try.prog 106 ((fun i : {i : List DReader × Int × List ByteArray // i.1.length < 2 ^ 40 ∧ i.2.2.length < 2 ^ 40} => [aRs i.1.1, .v (.fn 80 [.ptr [.at (.int .i64 i.1.2.1)], .ptr [.sl 9 1 (i.1.2.2.map eS)]])]) i) ((fun i : {i : List DReader × Int × List ByteArray // i.1.length < 2 ^ 40 ∧ i.2.2.length < 2 ^ 40} => [aI (findI (reads i.1.2.1 i.1.2.2) i.1.1)]) i) := fun i => con_of (live := fun id => if id = 2 then [0, 1, 7, 8] else []) (by kernel_rfl) TY_ok hF Try.func106 (body := Try.f106.body.getD .skip) rfl (by kernel_rfl) (indexFuncReader_e F _ _ _ (reads i.1.2.1 i.1.2.2) i.1.1 (fun r => f_mr1 ⟨(r, i.1.2.1, i.1.2.2), i.2.2⟩) i.2.1)
  obtain ⟨G, hG, f_ix, keep⟩ := tab_add hF (f := 106) (fun _ _ => by kernel_rfl) ((fun i : {i : List DReader × Int × List ByteArray // i.1.length < 2 ^ 40 ∧ i.2.2.length < 2 ^ 40} => [aRs i.1.1, .v (.fn 80 [.ptr [.at (.int .i64 i.1.2.1)], .ptr [.sl 9 1 (i.1.2.2.map eS)]])])) ((fun i : {i : List DReader × Int × List ByteArray // i.1.length < 2 ^ 40 ∧ i.2.2.length < 2 ^ 40} => [aI (findI (reads i.1.2.1 i.1.2.2) i.1.1)])) ((fun i j h => by obtain ⟨h1, h2⟩ := two h; have h1 := aRs_inj _ _ h1; simp only [Arg.v.injEq, DT.fn.injEq, DT.ptr.injEq, List.cons.injEq, DT.at.injEq, DT.sl.injEq, Value.int.injEq, true_and, and_true] at h2; rw [h1, h2.1, map_inj eS_inj h2.2])) con
  replace f_eq := fun i => (keep _ (by decide) _).trans (f_eq i)
  replace f_hp := fun i => (keep _ (by decide) _).trans (f_hp i)
  replace f_mr1 := fun i => (keep _ (by decide) _).trans (f_mr1 i)
  clear con keep hF F
  have hF := hG
  clear hG
  obtain ⟨F, rfl⟩ : ∃ F, F = G := ⟨_, rfl⟩
  have con : ∀ i : {i : List DReader × Int × List ByteArray // i.1.length < 2 ^ 40 ∧ i.2.2.length < 2 ^ 40}, Con Try.prog 79 ((fun i : {i : List DReader × Int × List ByteArray // i.1.length < 2 ^ 40 ∧ i.2.2.length < 2 ^ 40} => [aRs i.1.1, .v (.fn 80 [.ptr [.at (.int .i64 i.1.2.1)], .ptr [.sl 9 1 (i.1.2.2.map eS)]])]) i) ((fun i : {i : List DReader × Int × List ByteArray // i.1.length < 2 ^ 40 ∧ i.2.2.length < 2 ^ 40} => [aB (mayRead i.1.1 i.1.2.1 i.1.2.2)]) i) := fun i => con_of (live := fun _ => []) (by kernel_rfl) TY_ok hF Try.func79 (body := Try.f79.body.getD .skip) rfl (by kernel_rfl) (containsFuncReader_e F _ _ _ (reads i.1.2.1 i.1.2.2) i.1.1 (f_ix i))
  obtain ⟨G, hG, f_cf, keep⟩ := tab_add hF (f := 79) (fun _ _ => by kernel_rfl) ((fun i : {i : List DReader × Int × List ByteArray // i.1.length < 2 ^ 40 ∧ i.2.2.length < 2 ^ 40} => [aRs i.1.1, .v (.fn 80 [.ptr [.at (.int .i64 i.1.2.1)], .ptr [.sl 9 1 (i.1.2.2.map eS)]])])) ((fun i : {i : List DReader × Int × List ByteArray // i.1.length < 2 ^ 40 ∧ i.2.2.length < 2 ^ 40} => [aB (mayRead i.1.1 i.1.2.1 i.1.2.2)])) ((fun i j h => by obtain ⟨h1, h2⟩ := two h; have h1 := aRs_inj _ _ h1; simp only [Arg.v.injEq, DT.fn.injEq, DT.ptr.injEq, List.cons.injEq, DT.at.injEq, DT.sl.injEq, Value.int.injEq, true_and, and_true] at h2; rw [h1, h2.1, map_inj eS_inj h2.2])) con
  replace f_eq := fun i => (keep _ (by decide) _).trans (f_eq i)
  replace f_hp := fun i => (keep _ (by decide) _).trans (f_hp i)
  replace f_mr1 := fun i => (keep _ (by decide) _).trans (f_mr1 i)
  replace f_ix := fun i => (keep _ (by decide) _).trans (f_ix i)
  clear con keep hF F
  have hF := hG
  clear hG
  obtain ⟨F, rfl⟩ : ∃ F, F = G := ⟨_, rfl⟩
  have con : ∀ i : {i : List DReader × Int × List ByteArray // i.1.length < 2 ^ 40 ∧ i.2.2.length < 2 ^ 40}, Con Try.prog 48 ((fun i : {i : List DReader × Int × List ByteArray // i.1.length < 2 ^ 40 ∧ i.2.2.length < 2 ^ 40} => [aRs i.1.1, aI i.1.2.1, aN i.1.2.2]) i) ((fun i : {i : List DReader × Int × List ByteArray // i.1.length < 2 ^ 40 ∧ i.2.2.length < 2 ^ 40} => [aB (mayRead i.1.1 i.1.2.1 i.1.2.2)]) i) := fun i => con_of (live := fun _ => []) (by kernel_rfl) TY_ok hF Try.func48 (body := Try.f48.body.getD .skip) rfl (by kernel_rfl) (implMayRead_e F i.1.1 i.1.2.1 i.1.2.2 (f_cf i))
  obtain ⟨G, hG, f_mr, keep⟩ := tab_add hF (f := 48) (fun _ _ => by kernel_rfl) ((fun i : {i : List DReader × Int × List ByteArray // i.1.length < 2 ^ 40 ∧ i.2.2.length < 2 ^ 40} => [aRs i.1.1, aI i.1.2.1, aN i.1.2.2])) ((fun i : {i : List DReader × Int × List ByteArray // i.1.length < 2 ^ 40 ∧ i.2.2.length < 2 ^ 40} => [aB (mayRead i.1.1 i.1.2.1 i.1.2.2)])) ((fun i j h => by obtain ⟨h1, h2, h3⟩ := three h; have h1 := aRs_inj _ _ h1; have h2 := aI_inj _ _ h2; have h3 := aN_inj _ _ h3; simp only [h1, h2, h3])) con
  replace f_eq := fun i => (keep _ (by decide) _).trans (f_eq i)
  replace f_hp := fun i => (keep _ (by decide) _).trans (f_hp i)
  replace f_mr1 := fun i => (keep _ (by decide) _).trans (f_mr1 i)
  replace f_ix := fun i => (keep _ (by decide) _).trans (f_ix i)
  replace f_cf := fun i => (keep _ (by decide) _).trans (f_cf i)
  clear con keep hF F
  have hF := hG
  clear hG
  obtain ⟨F, rfl⟩ : ∃ F, F = G := ⟨_, rfl⟩
  have con : ∀ i : {i : List DReader × List ByteArray // i.1.length < 2 ^ 40 ∧ i.2.length < 2 ^ 40}, Con Try.prog 36 ((fun i : {i : List DReader × List ByteArray // i.1.length < 2 ^ 40 ∧ i.2.length < 2 ^ 40} => [aRs i.1.1, aN i.1.2]) i) ((fun i : {i : List DReader × List ByteArray // i.1.length < 2 ^ 40 ∧ i.2.length < 2 ^ 40} => [aIs (readersOf i.1.1 i.1.2)]) i) := fun i => con_of (live := fun id => if id = 3 then [0, 3, 5, 8] else []) (by kernel_rfl) TY_ok hF Try.func36 (body := Try.f36.body.getD .skip) rfl (by kernel_rfl) (implReadersOf_e F i.1.1 i.1.2 (fun node => f_mr ⟨(i.1.1, node, i.1.2), i.2⟩))
  obtain ⟨G, hG, f_ro, keep⟩ := tab_add hF (f := 36) (fun _ _ => by kernel_rfl) ((fun i : {i : List DReader × List ByteArray // i.1.length < 2 ^ 40 ∧ i.2.length < 2 ^ 40} => [aRs i.1.1, aN i.1.2])) ((fun i : {i : List DReader × List ByteArray // i.1.length < 2 ^ 40 ∧ i.2.length < 2 ^ 40} => [aIs (readersOf i.1.1 i.1.2)])) ((fun i j h => by obtain ⟨h1, h2⟩ := two h; have h1 := aRs_inj _ _ h1; have h2 := aN_inj _ _ h2; simp only [h1, h2])) con
  replace f_eq := fun i => (keep _ (by decide) _).trans (f_eq i)
  replace f_hp := fun i => (keep _ (by decide) _).trans (f_hp i)
  replace f_mr1 := fun i => (keep _ (by decide) _).trans (f_mr1 i)
  replace f_ix := fun i => (keep _ (by decide) _).trans (f_ix i)
  replace f_cf := fun i => (keep _ (by decide) _).trans (f_cf i)
  replace f_mr := fun i => (keep _ (by decide) _).trans (f_mr i)
  clear con keep hF F
  have hF := hG
  clear hG
  obtain ⟨F, rfl⟩ : ∃ F, F = G := ⟨_, rfl⟩
  have con : Con Try.prog 11 [.a (eAccessController x), aN n] [aIs (readersOf x.readers n)] := con_of (live := fun _ => []) (by kernel_rfl) TY_ok hF Try.func11 (body := Try.f11.body.getD .skip) rfl (by kernel_rfl) (implCurrentReaders_e F x n (f_ro ⟨(x.readers, n), szReaders hs, szName hs'⟩))
  exact (con w [.agg cs.toArray, .agg cs'.toArray] ⟨argRd_agg (encAccessController w cs x h), argRd_agg (encStrs w cs' n hn), trivial⟩).mono fun e w' he => gave_ints (readersOf_i64 _ _) he

end Go.Proofs.Ytlobcaofeobgaaa
