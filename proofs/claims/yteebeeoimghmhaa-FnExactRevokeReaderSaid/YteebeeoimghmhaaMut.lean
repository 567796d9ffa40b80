/- The interpreter's contracts of the functions 'mark..'; the table of all functions that are given. Printed by genmut.py. -/
import Derived.Test.YteebeeoimghmhaaDel
import Derived.Test.YteebeeoimghmhaaExG
import Derived.Test.YteebeeoimghmhaaFamRaw
import Derived.Test.YteebeeoimghmhaaEnc
import Derived.Test.YteebeeoimghmhaaSd
namespace Go.Proofs.Yteebeeoimghmhaa
open Go.RowKit
set_option linter.unusedVariables false
set_option linter.unusedSimpArgs false
set_option maxRecDepth 100000
noncomputable section

theorem encowKey : EncOw rKey eKey := EncOw.via (EncOw.pair (EncOw.sl 9 (EncOw.one (fun s : ByteArray => .string s)) (by decide)) (EncOw.one (fun n : Int => .int .i64 n))) (fun x : DKey => (x.name, x.secret))
theorem encowReader : EncOw rReader eReader := EncOw.via (EncOw.pair (EncOw.one (fun n : Int => .int .i64 n)) (EncOw.pair (EncOw.sl 9 (EncOw.one (fun s : ByteArray => .string s)) (by decide)) (EncOw.one (fun n : Int => .int .i64 n)))) (fun x : DReader => (x.node, x.name, x.epoch))
theorem encowAccessController : EncOw rAccessController eAccessController := EncOw.via (EncOw.pair (EncOw.sl 66 encowKey (by decide)) (EncOw.pair (EncOw.one (fun n : Int => .int .i64 n)) (EncOw.pair (EncOw.one (fun n : Int => .int .i64 n)) (EncOw.sl 68 encowReader (by decide))))) (fun x : DAccessController => (x.keys, x.master, x.epoch, x.readers))
theorem eKey_inj (x y : DKey) (h : eKey x = eKey y) : x = y := by
  obtain ⟨x0, x1⟩ := x
  obtain ⟨y0, y1⟩ := y
  simp only [eKey, List.cons.injEq, DT.at.injEq, DT.sl.injEq, Value.int.injEq, Value.bool.injEq, Value.string.injEq, true_and, and_true] at h
  obtain ⟨h0, h1⟩ := h
  obtain rfl := map_inj eS_inj h0
  obtain rfl := h1
  rfl
theorem eReader_inj (x y : DReader) (h : eReader x = eReader y) : x = y := by
  obtain ⟨x0, x1, x2⟩ := x
  obtain ⟨y0, y1, y2⟩ := y
  simp only [eReader, List.cons.injEq, DT.at.injEq, DT.sl.injEq, Value.int.injEq, Value.bool.injEq, Value.string.injEq, true_and, and_true] at h
  obtain ⟨h0, h1, h2⟩ := h
  obtain rfl := h0
  obtain rfl := map_inj eS_inj h1
  obtain rfl := h2
  rfl
theorem eAccessController_inj (x y : DAccessController) (h : eAccessController x = eAccessController y) : x = y := by
  obtain ⟨x0, x1, x2, x3⟩ := x
  obtain ⟨y0, y1, y2, y3⟩ := y
  simp only [eAccessController, List.cons.injEq, DT.at.injEq, DT.sl.injEq, Value.int.injEq, Value.bool.injEq, Value.string.injEq, true_and, and_true] at h
  obtain ⟨h0, h1, h2, h3⟩ := h
  obtain rfl := map_inj eKey_inj h0
  obtain rfl := h1
  obtain rfl := h2
  obtain rfl := map_inj eReader_inj h3
  rfl
def aMAccessController (i : DAccessController × Int) : List Arg := [.a (eAccessController i.1), .v (.at (.int .i64 i.2))]
def rMAccessController (i : DAccessController × Int) : Option (List Arg) := (s_laws_markAccessController i.1 i.2).bind fun r => some [.v (.at (.int .i64 r.2)), .a (eAccessController r.1), .v (.at (.int .i64 i.2))]
theorem aMAccessController_inj (i j : DAccessController × Int) (h : aMAccessController i = aMAccessController j) : i = j := by
  simp only [aMAccessController, List.cons.injEq, Arg.a.injEq, Arg.v.injEq, DT.at.injEq, Value.int.injEq, true_and, and_true] at h
  exact Prod.ext (eAccessController_inj _ _ h.1) h.2
theorem MAccessController_ok (w0 : World) (xs ys : List Arg) (h : xOf aMAccessController rMAccessController xs = some ys) : MutOk Try.prog w0 12 xs ys := by
  obtain ⟨⟨x, k⟩, rfl, hr⟩ := xOf_some h
  unfold rMAccessController s_laws_markAccessController at hr
  dsimp only at hr
  split at hr
  · rename_i hc
    simp only [Option.bind_some, Option.some.injEq] at hr
    subst hr
    exact mut_agg encowAccessController (fun _ _ => by kernel_rfl) (fun w cs fp ho => markAccessController_c cs x fp k w ho hc.1 hc.2)
  · cases hr
def aMName (i : (List ByteArray) × Int) : List Arg := [.a ([DT.sl 9 1 (i.1.map eS)]), .v (.at (.int .i64 i.2))]
def rMName (i : (List ByteArray) × Int) : Option (List Arg) := (s_laws_markName i.1 i.2).bind fun r => some [.v (.at (.int .i64 r.2)), .a ([DT.sl 9 1 (r.1.map eS)]), .v (.at (.int .i64 i.2))]
theorem aMName_inj (i j : (List ByteArray) × Int) (h : aMName i = aMName j) : i = j := by
  simp only [aMName, List.cons.injEq, Arg.a.injEq, Arg.v.injEq, DT.at.injEq, DT.sl.injEq, Value.int.injEq, true_and, and_true] at h
  exact Prod.ext (map_inj eS_inj h.1) h.2
theorem MName_ok (w0 : World) (xs ys : List Arg) (h : xOf aMName rMName xs = some ys) : MutOk Try.prog w0 13 xs ys := by
  obtain ⟨⟨x, k⟩, rfl, hr⟩ := xOf_some h
  unfold rMName s_laws_markName at hr
  dsimp only at hr
  split at hr
  · rename_i hc
    simp only [Option.bind_some, Option.some.injEq] at hr
    subst hr
    exact mut_agg (EncOw.sl 9 (EncOw.one (fun s : ByteArray => .string s)) (by decide)) (fun _ _ => by kernel_rfl) (fun w cs fp ho => markName_c cs x fp k w ho hc.1 hc.2)
  · cases hr
def XT : Fns := fun f xs => if f = (42 + 2 ^ 40) then (xOf aDel rDel) xs else (fun f xs => if f = (12 + 2 ^ 40) then (xOf aMAccessController rMAccessController) xs else (fun f xs => if f = (13 + 2 ^ 40) then (xOf aMName rMName) xs else (fun _ _ => none) f xs) f xs) f xs
theorem XT_ok (w0 : World) : Sound Try.prog XT w0 := (sound_con (g := 42) rfl (XDel_ok w0) (sound_mut (g := 12) rfl (MAccessController_ok w0) (sound_mut (g := 13) rfl (MName_ok w0) (sound_none _ w0))))
theorem x_s_slices_DeleteFunc_Reader__RemoveReader_1 (a0 : (List DReader)) (c1_0 : Int) (c1_1 : (List ByteArray)) : XT (42 + 2 ^ 40) (aDel (a0, c1_0, c1_1)) = (s_slices_DeleteFunc_Reader__RemoveReader_1 a0 c1_0 c1_1).bind fun r => some [.v (.sl 68 3 (List.map eReader r))] := by
  unfold XT
  exact (if_pos rfl).trans (xOf_at aDel_inj (a0, c1_0, c1_1))
theorem x_s_laws_markAccessController (a0 : DAccessController) (a1 : Int) : XT (12 + 2 ^ 40) (aMAccessController (a0, a1)) = rMAccessController (a0, a1) := by
  unfold XT
  exact (if_neg (by decide)).trans ((if_pos rfl).trans (xOf_at aMAccessController_inj (a0, a1)))
theorem x_s_laws_markName (a0 : (List ByteArray)) (a1 : Int) : XT (13 + 2 ^ 40) (aMName (a0, a1)) = rMName (a0, a1) := by
  unfold XT
  exact (if_neg (by decide)).trans ((if_neg (by decide)).trans ((if_pos rfl).trans (xOf_at aMName_inj (a0, a1))))
end
end Go.Proofs.Yteebeeoimghmhaa
