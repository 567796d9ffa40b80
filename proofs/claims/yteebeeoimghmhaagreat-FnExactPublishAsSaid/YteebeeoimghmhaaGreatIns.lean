/- slices.Insert, and its item of the table. Printed by gencons.py. -/
import Derived.Test.YteebeeoimghmhaaGreatInsD
import Derived.Test.YteebeeoimghmhaaGreatSd
import Derived.Test.YteebeeoimghmhaaGreatEnc
namespace Go.Proofs.YteebeeoimghmhaaGreat
open Go.RowKit
set_option linter.unusedVariables false
set_option linter.unusedSimpArgs false
set_option maxRecDepth 100000
noncomputable section

theorem eTableEntry_inj0 (x y : DTableEntry) (h : eTableEntry x = eTableEntry y) : x = y := by
  obtain ⟨x0, x1⟩ := x
  obtain ⟨y0, y1⟩ := y
  simp only [eTableEntry, List.cons.injEq, DT.at.injEq, DT.sl.injEq, Value.int.injEq, Value.bool.injEq, Value.string.injEq, true_and, and_true] at h
  obtain ⟨h0, h1⟩ := h
  obtain rfl := map_inj eS_inj h0
  obtain rfl := h1
  rfl
def aIns (i : List DTableEntry × Int × DTableEntry) : List Arg := [.v (.sl 88 2 (List.map eTableEntry i.1)), .v (.at (.int .i64 i.2.1)), .v (.sl 88 2 [[.sl 9 1 (List.map eS i.2.2.name), .at (.int .i64 i.2.2.value)]])]
def rIns (i : List DTableEntry × Int × DTableEntry) : Option (List Arg) := (s_slices_Insert_TableEntry i.1 i.2.1 i.2.2).bind fun r => some [.v (.sl 88 2 (List.map eTableEntry r))]
theorem aIns_inj (i j : List DTableEntry × Int × DTableEntry) (h : aIns i = aIns j) : i = j := by
  obtain ⟨l1, c1, x1⟩ := i
  obtain ⟨l2, c2, x2⟩ := j
  have hx : eTableEntry x1 = eTableEntry x2 := by
    have h2 := congrArg (fun q => q[2]?) h
    simp only [aIns, List.getElem?_cons_succ, List.getElem?_cons_zero, Option.some.injEq, Arg.v.injEq, DT.sl.injEq, true_and, List.cons.injEq, and_true] at h2
    unfold eTableEntry
    simpa using h2
  obtain rfl := eTableEntry_inj0 _ _ hx
  simp only [aIns, List.cons.injEq, Arg.v.injEq, DT.sl.injEq, DT.at.injEq, Value.int.injEq, true_and, and_true] at h
  obtain ⟨h0, h1⟩ := h
  obtain rfl := map_inj eTableEntry_inj0 h0
  obtain rfl := h1
  rfl
theorem XIns_ok (w0 : World) (xs ys : List Arg) (h : xOf aIns rIns xs = some ys) : ConOk Tryz.prog w0 INSF xs ys := by
  obtain ⟨⟨l, k, x⟩, rfl, hr⟩ := xOf_some h
  unfold rIns s_slices_Insert_TableEntry insO at hr
  dsimp only at hr
  split at hr
  · rename_i hc
    obtain ⟨h0, h1, h2⟩ := hc
    simp only [Option.bind_some, Option.some.injEq] at hr
    subst hr
    obtain ⟨i, rfl⟩ : ∃ i : Nat, k = (i : Int) := ⟨k.toNat, by omega⟩
    exact ins_con eTableEntry (fun _ => rfl) (fun x d hd => by
      simp only [eTableEntry, List.mem_cons, List.not_mem_nil, or_false] at hd
      rcases hd with rfl | rfl <;> first | exact .inl ⟨_, rfl, by simp [oneV]⟩ | exact .inr ⟨_, _, _, rfl⟩) (by simpa using h1) h2
  · cases hr
end
end Go.Proofs.YteebeeoimghmhaaGreat
