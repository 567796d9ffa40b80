/- The interpreter's contracts of the functions 'mark..'; the table of all functions that are given. Printed by genmut.py. -/
import Derived.Test.YtfianjolmcoadaaDoorExI
import Derived.Test.YtfianjolmcoadaaDoorExG
import Derived.Test.YtfianjolmcoadaaDoorFamRaw
import Derived.Test.YtfianjolmcoadaaDoorEnc
import Derived.Test.YtfianjolmcoadaaDoorSd
namespace Go.Proofs.YtfianjolmcoadaaDoor
open Go.RowKit
set_option linter.unusedVariables false
set_option linter.unusedSimpArgs false
set_option maxRecDepth 100000
noncomputable section

theorem encowKey : EncOw rKey eKey := EncOw.via (EncOw.pair (EncOw.sl 9 (EncOw.one (fun s : ByteArray => .string s)) (by decide)) (EncOw.one (fun n : Int => .int .i64 n))) (fun x : DKey => (x.name, x.secret))
theorem encowReader : EncOw rReader eReader := EncOw.via (EncOw.pair (EncOw.one (fun n : Int => .int .i64 n)) (EncOw.pair (EncOw.sl 9 (EncOw.one (fun s : ByteArray => .string s)) (by decide)) (EncOw.one (fun n : Int => .int .i64 n)))) (fun x : DReader => (x.node, x.name, x.epoch))
theorem encowAccessController : EncOw rAccessController eAccessController := EncOw.via (EncOw.pair (EncOw.sl 112 encowKey (by decide)) (EncOw.pair (EncOw.one (fun n : Int => .int .i64 n)) (EncOw.pair (EncOw.one (fun n : Int => .int .i64 n)) (EncOw.sl 115 encowReader (by decide))))) (fun x : DAccessController => (x.keys, x.master, x.epoch, x.readers))
theorem eKey_inj (x y : DKey) (h : eKey x = eKey y) : x = y := by
  obtain ⟨x0, x1⟩ := x
  obtain ⟨y0, y1⟩ := y
  simp only [eKey, List.cons.injEq, DT.at.injEq, DT.sl.injEq, Value.int.injEq, Value.bool.injEq, Value.string.injEq, true_and, and_true] at h
  obtain ⟨h0, h1⟩ := h
  obtain rfl := map_inj eS_inj h0
  obtain rfl := h1
  rfl
theorem eReader_inj (x y : DReader) (h : eReader x = eReader y) : x = y := by
  obtain ⟨x0, x1, x2⟩ := x
  obtain ⟨y0, y1, y2⟩ := y
  simp only [eReader, List.cons.injEq, DT.at.injEq, DT.sl.injEq, Value.int.injEq, Value.bool.injEq, Value.string.injEq, true_and, and_true] at h
  obtain ⟨h0, h1, h2⟩ := h
  obtain rfl := h0
  obtain rfl := map_inj eS_inj h1
  obtain rfl := h2
  rfl
theorem eAccessController_inj (x y : DAccessController) (h : eAccessController x = eAccessController y) : x = y := by
  obtain ⟨x0, x1, x2, x3⟩ := x
  obtain ⟨y0, y1, y2, y3⟩ := y
  simp only [eAccessController, List.cons.injEq, DT.at.injEq, DT.sl.injEq, Value.int.injEq, Value.bool.injEq, Value.string.injEq, true_and, and_true] at h
  obtain ⟨h0, h1, h2, h3⟩ := h
  obtain rfl := map_inj eKey_inj h0
  obtain rfl := h1
  obtain rfl := h2
  obtain rfl := map_inj eReader_inj h3
  rfl
def aMAccessController (i : DAccessController × Int) : List Arg := [.a (eAccessController i.1), .v (.at (.int .i64 i.2))]
def rMAccessController (i : DAccessController × Int) : Option (List Arg) := (s_laws_markAccessController i.1 i.2).bind fun r => some [.v (.at (.int .i64 r.2)), .a (eAccessController r.1), .v (.at (.int .i64 i.2))]
theorem aMAccessController_inj (i j : DAccessController × Int) (h : aMAccessController i = aMAccessController j) : i = j := by
  simp only [aMAccessController, List.cons.injEq, Arg.a.injEq, Arg.v.injEq, DT.at.injEq, Value.int.injEq, true_and, and_true] at h
  exact Prod.ext (eAccessController_inj _ _ h.1) h.2
theorem MAccessController_ok (w0 : World) (xs ys : List Arg) (h : xOf aMAccessController rMAccessController xs = some ys) : MutOk Tryd.prog w0 22 xs ys := by
  obtain ⟨⟨x, k⟩, rfl, hr⟩ := xOf_some h
  unfold rMAccessController s_laws_markAccessController at hr
  dsimp only at hr
  split at hr
  · rename_i hc
    simp only [Option.bind_some, Option.some.injEq] at hr
    subst hr
    exact mut_agg encowAccessController (fun _ _ => by kernel_rfl) (fun w cs fp ho => markAccessController_c cs x fp k w ho hc.1 hc.2)
  · cases hr
def aMName (i : (List ByteArray) × Int) : List Arg := [.a ([DT.sl 9 1 (i.1.map eS)]), .v (.at (.int .i64 i.2))]
def rMName (i : (List ByteArray) × Int) : Option (List Arg) := (s_laws_markName i.1 i.2).bind fun r => some [.v (.at (.int .i64 r.2)), .a ([DT.sl 9 1 (r.1.map eS)]), .v (.at (.int .i64 i.2))]
theorem aMName_inj (i j : (List ByteArray) × Int) (h : aMName i = aMName j) : i = j := by
  simp only [aMName, List.cons.injEq, Arg.a.injEq, Arg.v.injEq, DT.at.injEq, DT.sl.injEq, Value.int.injEq, true_and, and_true] at h
  exact Prod.ext (map_inj eS_inj h.1) h.2
theorem MName_ok (w0 : World) (xs ys : List Arg) (h : xOf aMName rMName xs = some ys) : MutOk Tryd.prog w0 23 xs ys := by
  obtain ⟨⟨x, k⟩, rfl, hr⟩ := xOf_some h
  unfold rMName s_laws_markName at hr
  dsimp only at hr
  split at hr
  · rename_i hc
    simp only [Option.bind_some, Option.some.injEq] at hr
    subst hr
    exact mut_agg (EncOw.sl 9 (EncOw.one (fun s : ByteArray => .string s)) (by decide)) (fun _ _ => by kernel_rfl) (fun w cs fp ho => markName_c cs x fp k w ho hc.1 hc.2)
  · cases hr
def XT : Fns := fun f xs => if f = 79 then (xOf aItoa rItoa) xs else (fun f xs => if f = (22 + 2 ^ 40) then (xOf aMAccessController rMAccessController) xs else (fun f xs => if f = (23 + 2 ^ 40) then (xOf aMName rMName) xs else (fun _ _ => none) f xs) f xs) f xs
theorem XT_ok (w0 : World) (htab : TabW w0) : Sound Tryd.prog XT w0 := (sound_add (by decide) (XItoa_ok w0 htab) (sound_mut (g := 22) rfl (MAccessController_ok w0) (sound_mut (g := 23) rfl (MName_ok w0) (sound_none _ w0))))
theorem x_s_strconv_Itoa (a0 : Int) : XT 79 (aItoa a0) = (s_strconv_Itoa a0).bind fun r => some [.v (.at (.string r))] := by
  unfold XT
  exact (if_pos rfl).trans (xOf_at (fun i j h => aItoa_inj i j h) a0)
theorem x_s_laws_markAccessController (a0 : DAccessController) (a1 : Int) : XT (22 + 2 ^ 40) (aMAccessController (a0, a1)) = rMAccessController (a0, a1) := by
  unfold XT
  exact (if_neg (by decide)).trans ((if_pos rfl).trans (xOf_at aMAccessController_inj (a0, a1)))
theorem x_s_laws_markName (a0 : (List ByteArray)) (a1 : Int) : XT (23 + 2 ^ 40) (aMName (a0, a1)) = rMName (a0, a1) := by
  unfold XT
  exact (if_neg (by decide)).trans ((if_neg (by decide)).trans ((if_pos rfl).trans (xOf_at aMName_inj (a0, a1))))
end
end Go.Proofs.YtfianjolmcoadaaDoor
