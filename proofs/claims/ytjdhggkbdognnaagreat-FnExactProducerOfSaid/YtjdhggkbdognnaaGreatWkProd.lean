/- Contracts: the longest prefix, and the producer of a name. Printed by genprod.py. -/
import Derived.Test.YtjdhggkbdognnaaGreatLp
namespace Go.Proofs.YtjdhggkbdognnaaGreat
open Go.RowKit
set_option linter.unusedVariables false
set_option linter.unusedSimpArgs false
set_option maxRecDepth 100000
theorem gave_at {u : Value} {w w' : World} {e : Ending} (h : Gave [.v (.at u)] w e w') : e = .returned u ∧ Ext w w' := by
  obtain ⟨vs, ω, rfl, hx, ho⟩ := h
  match vs, ho with
  | [v], ⟨⟨n, hv⟩, _⟩ =>
    have : v = u := by
      cases n <;> (unfold OwN at hv; exact hv)
    subst this
    exact ⟨rfl, hx⟩
  | _ :: _ :: _, ⟨_, h2⟩ => exact h2.elim
theorem eTableEntry_inj (x y : DTableEntry) (h : eTableEntry x = eTableEntry y) : x = y := by
  cases x; cases y
  simp only [eTableEntry, List.cons.injEq, DT.sl.injEq, DT.at.injEq, Value.int.injEq, true_and, and_true] at h
  rw [map_inj eS_inj h.1, h.2]
theorem aT_inj (a b : List DTableEntry) (h : aT a = aT b) : a = b := by
  simp only [aT, Arg.v.injEq, DT.sl.injEq, true_and] at h
  exact map_inj eTableEntry_inj h
theorem aL_inj (a b : List ByteArray) (h : aL a = aL b) : a = b := by
  simp only [aL, Arg.v.injEq, DT.sl.injEq, true_and] at h
  exact map_inj eS_inj h
theorem aI_inj (a b : Int) (h : aI a = aI b) : a = b := by simpa [aI] using h
theorem aS_inj (a b : ByteArray) (h : aS a = aS b) : a = b := by simpa [aS] using h
theorem two {a b c d : Arg} (h : [a, b] = [c, d]) : a = c ∧ b = d := by simpa using h

set_option maxHeartbeats 4000000 in
theorem specProducerOf_c (cs : List Value) (x : DNetwork) (cs' : List Value) (n : List ByteArray) (w : World) (h : sNetwork.rd w cs x) (hn : strs.rd w cs' n) (hs : szNetwork x ≤ 1048576) (hs' : (szL ByteArray.size) n ≤ 1048576) :
    Calls Tryz.prog 9 #[.agg cs.toArray, .agg cs'.toArray] w fun e w' => e = .returned (.int .i64 (producerOf x.producers n)) ∧ Ext w w' := by
  obtain ⟨F, hF⟩ := tab_nil Tryz.prog
  have con : ∀ i : ByteArray × ByteArray, Con Tryz.prog 147 ((fun i : ByteArray × ByteArray => [aS i.1, aS i.2]) i) ((fun i : ByteArray × ByteArray => [aI (cmpStr i.1 i.2)]) i) := fun i => con_of (live := fun _ => []) (by kernel_rfl) TY_ok hF Tryz.func147 (body := Tryz.f147.body.getD .skip) rfl (by kernel_rfl) (specl4Cmp_e F i.1 i.2)
  obtain ⟨G, hG, f_l4, keep⟩ := tab_add hF (f := 147) (fun _ _ => by kernel_rfl) ((fun i : ByteArray × ByteArray => [aS i.1, aS i.2])) ((fun i : ByteArray × ByteArray => [aI (cmpStr i.1 i.2)])) ((fun i j h => by obtain ⟨h1, h2⟩ := two h; have h1 := aS_inj _ _ h1; have h2 := aS_inj _ _ h2; simp only [h1, h2])) con
  clear con keep hF F
  have hF := hG
  clear hG
  obtain ⟨F, rfl⟩ : ∃ F, F = G := ⟨_, rfl⟩
  have con : ∀ i : Int × Int, Con Tryz.prog 164 ((fun i : Int × Int => [aI i.1, aI i.2]) i) ((fun i : Int × Int => [aI (minI i.1 i.2)]) i) := fun i => con_of (live := fun _ => []) (by kernel_rfl) TY_ok hF Tryz.func164 (body := Tryz.f164.body.getD .skip) rfl (by kernel_rfl) (specMin_e F i.1 i.2)
  obtain ⟨G, hG, f_Min, keep⟩ := tab_add hF (f := 164) (fun _ _ => by kernel_rfl) ((fun i : Int × Int => [aI i.1, aI i.2])) ((fun i : Int × Int => [aI (minI i.1 i.2)])) ((fun i j h => by obtain ⟨h1, h2⟩ := two h; have h1 := aI_inj _ _ h1; have h2 := aI_inj _ _ h2; simp only [h1, h2])) con
  replace f_l4 := fun i => (keep _ (by decide) _).trans (f_l4 i)
  clear con keep hF F
  have hF := hG
  clear hG
  obtain ⟨F, rfl⟩ : ∃ F, F = G := ⟨_, rfl⟩
  have con : ∀ i : Int × Int, Con Tryz.prog 163 ((fun i : Int × Int => [aI i.1, aI i.2]) i) ((fun i : Int × Int => [aI (maxI i.1 i.2)]) i) := fun i => con_of (live := fun _ => []) (by kernel_rfl) TY_ok hF Tryz.func163 (body := Tryz.f163.body.getD .skip) rfl (by kernel_rfl) (specMax_e F i.1 i.2)
  obtain ⟨G, hG, f_Max, keep⟩ := tab_add hF (f := 163) (fun _ _ => by kernel_rfl) ((fun i : Int × Int => [aI i.1, aI i.2])) ((fun i : Int × Int => [aI (maxI i.1 i.2)])) ((fun i j h => by obtain ⟨h1, h2⟩ := two h; have h1 := aI_inj _ _ h1; have h2 := aI_inj _ _ h2; simp only [h1, h2])) con
  replace f_l4 := fun i => (keep _ (by decide) _).trans (f_l4 i)
  replace f_Min := fun i => (keep _ (by decide) _).trans (f_Min i)
  clear con keep hF F
  have hF := hG
  clear hG
  obtain ⟨F, rfl⟩ : ∃ F, F = G := ⟨_, rfl⟩
  have con : ∀ i : {i : List ByteArray × List ByteArray // i.1.length < 2 ^ 60}, Con Tryz.prog 98 ((fun i : {i : List ByteArray × List ByteArray // i.1.length < 2 ^ 60} => [aN i.1.1, aN i.1.2]) i) ((fun i : {i : List ByteArray × List ByteArray // i.1.length < 2 ^ 60} => [aI (cmpNames i.1.1 i.1.2)]) i) := fun i => con_of (live := fun id => if id = 2 then [2, 3, 5] else []) (by kernel_rfl) TY_ok hF Tryz.func98 (body := Tryz.f98.body.getD .skip) rfl (by kernel_rfl) (specCompareNames_e F (fun a b => f_l4 (a, b)) i.1.1 i.1.2 i.2)
  obtain ⟨G, hG, f_cmp, keep⟩ := tab_add hF (f := 98) (fun _ _ => by kernel_rfl) ((fun i : {i : List ByteArray × List ByteArray // i.1.length < 2 ^ 60} => [aN i.1.1, aN i.1.2])) ((fun i : {i : List ByteArray × List ByteArray // i.1.length < 2 ^ 60} => [aI (cmpNames i.1.1 i.1.2)])) ((fun i j h => by obtain ⟨h1, h2⟩ := two h; have h1 := aN_inj _ _ h1; have h2 := aN_inj _ _ h2; simp only [h1, h2])) con
  replace f_l4 := fun i => (keep _ (by decide) _).trans (f_l4 i)
  replace f_Min := fun i => (keep _ (by decide) _).trans (f_Min i)
  replace f_Max := fun i => (keep _ (by decide) _).trans (f_Max i)
  clear con keep hF F
  have hF := hG
  clear hG
  obtain ⟨F, rfl⟩ : ∃ F, F = G := ⟨_, rfl⟩
  have con : ∀ i : {i : List ByteArray × List ByteArray // i.1.length < 2 ^ 60}, Con Tryz.prog 53 ((fun i : {i : List ByteArray × List ByteArray // i.1.length < 2 ^ 60} => [aN i.1.1, aN i.1.2]) i) ((fun i : {i : List ByteArray × List ByteArray // i.1.length < 2 ^ 60} => [aB (decide (i.1.1 = i.1.2))]) i) := fun i => con_of (live := fun _ => []) (by kernel_rfl) TY_ok hF Tryz.func53 (body := Tryz.f53.body.getD .skip) rfl (by kernel_rfl) (specEqualNames_e F (fun a b h => f_cmp ⟨(a, b), h⟩) i.1.1 i.1.2 i.2)
  obtain ⟨G, hG, f_eq, keep⟩ := tab_add hF (f := 53) (fun _ _ => by kernel_rfl) ((fun i : {i : List ByteArray × List ByteArray // i.1.length < 2 ^ 60} => [aN i.1.1, aN i.1.2])) ((fun i : {i : List ByteArray × List ByteArray // i.1.length < 2 ^ 60} => [aB (decide (i.1.1 = i.1.2))])) ((fun i j h => by obtain ⟨h1, h2⟩ := two h; have h1 := aN_inj _ _ h1; have h2 := aN_inj _ _ h2; simp only [h1, h2])) con
  replace f_l4 := fun i => (keep _ (by decide) _).trans (f_l4 i)
  replace f_Min := fun i => (keep _ (by decide) _).trans (f_Min i)
  replace f_Max := fun i => (keep _ (by decide) _).trans (f_Max i)
  replace f_cmp := fun i => (keep _ (by decide) _).trans (f_cmp i)
  clear con keep hF F
  have hF := hG
  clear hG
  obtain ⟨F, rfl⟩ : ∃ F, F = G := ⟨_, rfl⟩
  have con : ∀ i : {i : List ByteArray × Nat // i.2 ≤ i.1.length ∧ i.1.length < 2 ^ 40}, Con Tryz.prog 127 ((fun i : {i : List ByteArray × Nat // i.2 ≤ i.1.length ∧ i.1.length < 2 ^ 40} => [aN i.1.1, aI i.1.2]) i) ((fun i : {i : List ByteArray × Nat // i.2 ≤ i.1.length ∧ i.1.length < 2 ^ 40} => [aN (i.1.1.take i.1.2)]) i) := fun i => con_of (live := fun _ => []) (by kernel_rfl) TY_ok hF Tryz.func127 (body := Tryz.f127.body.getD .skip) rfl (by kernel_rfl) (specTruncate_e F (fun a b => f_Min (a, b)) (fun a b => f_Max (a, b)) i.1.1 i.1.2 i.2.1 i.2.2)
  obtain ⟨G, hG, f_tr, keep⟩ := tab_add hF (f := 127) (fun _ _ => by kernel_rfl) ((fun i : {i : List ByteArray × Nat // i.2 ≤ i.1.length ∧ i.1.length < 2 ^ 40} => [aN i.1.1, aI i.1.2])) ((fun i : {i : List ByteArray × Nat // i.2 ≤ i.1.length ∧ i.1.length < 2 ^ 40} => [aN (i.1.1.take i.1.2)])) ((fun i j h => by obtain ⟨h1, h2⟩ := two h; have h1 := aN_inj _ _ h1; have h2 : i.1.2 = j.1.2 := Int.ofNat.inj (aI_inj _ _ h2); simp only [h1, h2])) con
  replace f_l4 := fun i => (keep _ (by decide) _).trans (f_l4 i)
  replace f_Min := fun i => (keep _ (by decide) _).trans (f_Min i)
  replace f_Max := fun i => (keep _ (by decide) _).trans (f_Max i)
  replace f_cmp := fun i => (keep _ (by decide) _).trans (f_cmp i)
  replace f_eq := fun i => (keep _ (by decide) _).trans (f_eq i)
  clear con keep hF F
  have hF := hG
  clear hG
  obtain ⟨F, rfl⟩ : ∃ F, F = G := ⟨_, rfl⟩
  have con : ∀ i : {i : List ByteArray × List ByteArray // i.1.length < 2 ^ 40}, Con Tryz.prog 79 ((fun i : {i : List ByteArray × List ByteArray // i.1.length < 2 ^ 40} => [aN i.1.1, aN i.1.2]) i) ((fun i : {i : List ByteArray × List ByteArray // i.1.length < 2 ^ 40} => [aB (hasPrefix i.1.1 i.1.2)]) i) := fun i => con_of (live := fun _ => []) (by kernel_rfl) TY_ok hF Tryz.func79 (body := Tryz.f79.body.getD .skip) rfl (by kernel_rfl) (specHasPrefix_e F (fun n k h1 h2 => f_tr ⟨(n, k), h1, h2⟩) (fun a b h => f_eq ⟨(a, b), h⟩) i.1.1 i.1.2 i.2)
  obtain ⟨G, hG, f_hp, keep⟩ := tab_add hF (f := 79) (fun _ _ => by kernel_rfl) ((fun i : {i : List ByteArray × List ByteArray // i.1.length < 2 ^ 40} => [aN i.1.1, aN i.1.2])) ((fun i : {i : List ByteArray × List ByteArray // i.1.length < 2 ^ 40} => [aB (hasPrefix i.1.1 i.1.2)])) ((fun i j h => by obtain ⟨h1, h2⟩ := two h; have h1 := aN_inj _ _ h1; have h2 := aN_inj _ _ h2; simp only [h1, h2])) con
  replace f_l4 := fun i => (keep _ (by decide) _).trans (f_l4 i)
  replace f_Min := fun i => (keep _ (by decide) _).trans (f_Min i)
  replace f_Max := fun i => (keep _ (by decide) _).trans (f_Max i)
  replace f_cmp := fun i => (keep _ (by decide) _).trans (f_cmp i)
  replace f_eq := fun i => (keep _ (by decide) _).trans (f_eq i)
  replace f_tr := fun i => (keep _ (by decide) _).trans (f_tr i)
  clear con keep hF F
  have hF := hG
  clear hG
  obtain ⟨F, rfl⟩ : ∃ F, F = G := ⟨_, rfl⟩
  have con : ∀ i : {i : List DTableEntry × List ByteArray // i.1.length < 2 ^ 40 ∧ i.2.length < 2 ^ 40}, Con Tryz.prog 36 ((fun i : {i : List DTableEntry × List ByteArray // i.1.length < 2 ^ 40 ∧ i.2.length < 2 ^ 40} => [aT i.1.1, aN i.1.2]) i) ((fun i : {i : List DTableEntry × List ByteArray // i.1.length < 2 ^ 40 ∧ i.2.length < 2 ^ 40} => [aI (longest i.1.1 i.1.2)]) i) := fun i => con_of (live := fun id => if id = 3 then [0, 3, 5, 6] else []) (by kernel_rfl) TY_ok hF Tryz.func36 (body := Tryz.f36.body.getD .skip) rfl (by kernel_rfl) (specLongestPrefix_e F (fun a b h => f_hp ⟨(a, b), h⟩) i.1.1 i.1.2 i.2.1 i.2.2)
  obtain ⟨G, hG, f_lp, keep⟩ := tab_add hF (f := 36) (fun _ _ => by kernel_rfl) ((fun i : {i : List DTableEntry × List ByteArray // i.1.length < 2 ^ 40 ∧ i.2.length < 2 ^ 40} => [aT i.1.1, aN i.1.2])) ((fun i : {i : List DTableEntry × List ByteArray // i.1.length < 2 ^ 40 ∧ i.2.length < 2 ^ 40} => [aI (longest i.1.1 i.1.2)])) ((fun i j h => by obtain ⟨h1, h2⟩ := two h; have h1 := aT_inj _ _ h1; have h2 := aN_inj _ _ h2; simp only [h1, h2])) con
  replace f_l4 := fun i => (keep _ (by decide) _).trans (f_l4 i)
  replace f_Min := fun i => (keep _ (by decide) _).trans (f_Min i)
  replace f_Max := fun i => (keep _ (by decide) _).trans (f_Max i)
  replace f_cmp := fun i => (keep _ (by decide) _).trans (f_cmp i)
  replace f_eq := fun i => (keep _ (by decide) _).trans (f_eq i)
  replace f_tr := fun i => (keep _ (by decide) _).trans (f_tr i)
  replace f_hp := fun i => (keep _ (by decide) _).trans (f_hp i)
  clear con keep hF F
  have hF := hG
  clear hG
  obtain ⟨F, rfl⟩ : ∃ F, F = G := ⟨_, rfl⟩
  have con : Con Tryz.prog 9 [.a (eNetwork x), aN n] [aI (producerOf x.producers n)] := con_of (live := fun _ => []) (by kernel_rfl) TY_ok hF Tryz.func9 (body := Tryz.f9.body.getD .skip) rfl (by kernel_rfl) (specProducerOf_e F (fun l n h1 h2 => f_lp ⟨(l, n), h1, h2⟩) x n (by have := szL_len szTableEntry x.producers; unfold szNetwork at hs; omega) (by have := szL_len ByteArray.size n; omega))
  exact (con w [.agg cs.toArray, .agg cs'.toArray] ⟨argRd_agg (encNetwork w cs x h), argRd_agg (encStrs w cs' n hn), trivial⟩).mono fun e w' he => gave_at he

set_option maxHeartbeats 4000000 in
theorem implProducerOf_c (cs : List Value) (x : DNetwork) (cs' : List Value) (n : List ByteArray) (w : World) (h : sNetwork.rd w cs x) (hn : strs.rd w cs' n) (hs : szNetwork x ≤ 1048576) (hs' : (szL ByteArray.size) n ≤ 1048576) :
    Calls Tryz.prog 12 #[.agg cs.toArray, .agg cs'.toArray] w fun e w' => e = .returned (.int .i64 (producerOf x.producers n)) ∧ Ext w w' := by
  obtain ⟨F, hF⟩ := tab_nil Tryz.prog
  have con : ∀ i : {i : List ByteArray × List ByteArray // i.1.length < 2 ^ 60}, Con Tryz.prog 101 ((fun i : {i : List ByteArray × List ByteArray // i.1.length < 2 ^ 60} => [aL i.1.1, aL i.1.2]) i) ((fun i : {i : List ByteArray × List ByteArray // i.1.length < 2 ^ 60} => [aB (decide (i.1.1 = i.1.2))]) i) := fun i => con_of (live := fun id => if id = 4 then [0, 1, 12, 13] else []) (by kernel_rfl) TY_ok hF Tryz.func101 (body := Tryz.f101.body.getD .skip) rfl (by kernel_rfl) (slicesEqual_e F i.1.1 i.1.2 i.2)
  obtain ⟨G, hG, f_eq, keep⟩ := tab_add hF (f := 101) (fun _ _ => by kernel_rfl) ((fun i : {i : List ByteArray × List ByteArray // i.1.length < 2 ^ 60} => [aL i.1.1, aL i.1.2])) ((fun i : {i : List ByteArray × List ByteArray // i.1.length < 2 ^ 60} => [aB (decide (i.1.1 = i.1.2))])) ((fun i j h => by obtain ⟨h1, h2⟩ := two h; have h1 := aL_inj _ _ h1; have h2 := aL_inj _ _ h2; simp only [h1, h2])) con
  clear con keep hF F
  have hF := hG
  clear hG
  obtain ⟨F, rfl⟩ : ∃ F, F = G := ⟨_, rfl⟩
  have con : ∀ i : {i : List ByteArray × List ByteArray // i.1.length < 2 ^ 40}, Con Tryz.prog 89 ((fun i : {i : List ByteArray × List ByteArray // i.1.length < 2 ^ 40} => [aN i.1.1, aN i.1.2]) i) ((fun i : {i : List ByteArray × List ByteArray // i.1.length < 2 ^ 40} => [aB (hasPrefix i.1.1 i.1.2)]) i) := fun i => con_of (live := fun _ => []) (by kernel_rfl) TY_ok hF Tryz.func89 (body := Tryz.f89.body.getD .skip) rfl (by kernel_rfl) (implHasPrefix_e F (fun a b h => f_eq ⟨(a, b), h⟩) i.1.1 i.1.2 i.2)
  obtain ⟨G, hG, f_hp, keep⟩ := tab_add hF (f := 89) (fun _ _ => by kernel_rfl) ((fun i : {i : List ByteArray × List ByteArray // i.1.length < 2 ^ 40} => [aN i.1.1, aN i.1.2])) ((fun i : {i : List ByteArray × List ByteArray // i.1.length < 2 ^ 40} => [aB (hasPrefix i.1.1 i.1.2)])) ((fun i j h => by obtain ⟨h1, h2⟩ := two h; have h1 := aN_inj _ _ h1; have h2 := aN_inj _ _ h2; simp only [h1, h2])) con
  replace f_eq := fun i => (keep _ (by decide) _).trans (f_eq i)
  clear con keep hF F
  have hF := hG
  clear hG
  obtain ⟨F, rfl⟩ : ∃ F, F = G := ⟨_, rfl⟩
  have con : ∀ i : {i : List DTableEntry × List ByteArray // i.1.length < 2 ^ 40 ∧ i.2.length < 2 ^ 40}, Con Tryz.prog 45 ((fun i : {i : List DTableEntry × List ByteArray // i.1.length < 2 ^ 40 ∧ i.2.length < 2 ^ 40} => [aT i.1.1, aN i.1.2]) i) ((fun i : {i : List DTableEntry × List ByteArray // i.1.length < 2 ^ 40 ∧ i.2.length < 2 ^ 40} => [aI (longest i.1.1 i.1.2)]) i) := fun i => con_of (live := fun id => if id = 3 then [0, 3, 5, 8, 9, 10] else []) (by kernel_rfl) TY_ok hF Tryz.func45 (body := Tryz.f45.body.getD .skip) rfl (by kernel_rfl) (implLongestPrefix_e F (fun a b h => f_hp ⟨(a, b), h⟩) i.1.1 i.1.2 i.2.1 i.2.2)
  obtain ⟨G, hG, f_lp, keep⟩ := tab_add hF (f := 45) (fun _ _ => by kernel_rfl) ((fun i : {i : List DTableEntry × List ByteArray // i.1.length < 2 ^ 40 ∧ i.2.length < 2 ^ 40} => [aT i.1.1, aN i.1.2])) ((fun i : {i : List DTableEntry × List ByteArray // i.1.length < 2 ^ 40 ∧ i.2.length < 2 ^ 40} => [aI (longest i.1.1 i.1.2)])) ((fun i j h => by obtain ⟨h1, h2⟩ := two h; have h1 := aT_inj _ _ h1; have h2 := aN_inj _ _ h2; simp only [h1, h2])) con
  replace f_eq := fun i => (keep _ (by decide) _).trans (f_eq i)
  replace f_hp := fun i => (keep _ (by decide) _).trans (f_hp i)
  clear con keep hF F
  have hF := hG
  clear hG
  obtain ⟨F, rfl⟩ : ∃ F, F = G := ⟨_, rfl⟩
  have con : Con Tryz.prog 12 [.a (eNetwork x), aN n] [aI (producerOf x.producers n)] := con_of (live := fun _ => []) (by kernel_rfl) TY_ok hF Tryz.func12 (body := Tryz.f12.body.getD .skip) rfl (by kernel_rfl) (implProducerOf_e F (fun l n h1 h2 => f_lp ⟨(l, n), h1, h2⟩) x n (by have := szL_len szTableEntry x.producers; unfold szNetwork at hs; omega) (by have := szL_len ByteArray.size n; omega))
  exact (con w [.agg cs.toArray, .agg cs'.toArray] ⟨argRd_agg (encNetwork w cs x h), argRd_agg (encStrs w cs' n hn), trivial⟩).mono fun e w' he => gave_at he

end Go.Proofs.YtjdhggkbdognnaaGreat
