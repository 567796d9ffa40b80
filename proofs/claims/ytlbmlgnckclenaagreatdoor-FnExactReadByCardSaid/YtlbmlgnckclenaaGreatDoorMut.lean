/- The interpreter's contracts of the functions 'mark..'; the table of all functions that are given. Printed by genmut.py. -/
import Derived.Test.YtlbmlgnckclenaaGreatDoorExI
import Derived.Test.YtlbmlgnckclenaaGreatDoorExG
import Derived.Test.YtlbmlgnckclenaaGreatDoorFamRaw
import Derived.Test.YtlbmlgnckclenaaGreatDoorEnc
import Derived.Test.YtlbmlgnckclenaaGreatDoorSd
namespace Go.Proofs.YtlbmlgnckclenaaGreatDoor
open Go.RowKit
set_option linter.unusedVariables false
set_option linter.unusedSimpArgs false
set_option maxRecDepth 100000
noncomputable section

theorem encowKey : EncOw rKey eKey := EncOw.via (EncOw.pair (EncOw.sl 9 (EncOw.one (fun s : ByteArray => .string s)) (by decide)) (EncOw.one (fun n : Int => .int .i64 n))) (fun x : DKey => (x.name, x.secret))
theorem encowReader : EncOw rReader eReader := EncOw.via (EncOw.pair (EncOw.one (fun n : Int => .int .i64 n)) (EncOw.pair (EncOw.sl 9 (EncOw.one (fun s : ByteArray => .string s)) (by decide)) (EncOw.one (fun n : Int => .int .i64 n)))) (fun x : DReader => (x.node, x.name, x.epoch))
theorem encowAccessController : EncOw rAccessController eAccessController := EncOw.via (EncOw.pair (EncOw.sl 94 encowKey (by decide)) (EncOw.pair (EncOw.one (fun n : Int => .int .i64 n)) (EncOw.pair (EncOw.one (fun n : Int => .int .i64 n)) (EncOw.sl 68 encowReader (by decide))))) (fun x : DAccessController => (x.keys, x.master, x.epoch, x.readers))
theorem encowData : EncOw rData eData := EncOw.via (EncOw.pair (EncOw.sl 9 (EncOw.one (fun s : ByteArray => .string s)) (by decide)) (EncOw.pair (EncOw.sl 5 (EncOw.one (fun b : UInt8 => .int .u8 b.toNat)) (by decide)) (EncOw.pair (EncOw.sl 9 (EncOw.one (fun s : ByteArray => .string s)) (by decide)) (EncOw.pair (EncOw.one (fun n : Int => .int .i64 n)) (EncOw.one (fun n : Int => .int .i64 n)))))) (fun x : DData => (x.name, x.content, x.keyName, x.freshUntil, x.signature))
theorem eKey_inj (x y : DKey) (h : eKey x = eKey y) : x = y := by
  obtain ⟨x0, x1⟩ := x
  obtain ⟨y0, y1⟩ := y
  simp only [eKey, List.cons.injEq, DT.at.injEq, DT.sl.injEq, Value.int.injEq, Value.bool.injEq, Value.string.injEq, true_and, and_true] at h
  obtain ⟨h0, h1⟩ := h
  obtain rfl := map_inj eS_inj h0
  obtain rfl := h1
  rfl
theorem eReader_inj (x y : DReader) (h : eReader x = eReader y) : x = y := by
  obtain ⟨x0, x1, x2⟩ := x
  obtain ⟨y0, y1, y2⟩ := y
  simp only [eReader, List.cons.injEq, DT.at.injEq, DT.sl.injEq, Value.int.injEq, Value.bool.injEq, Value.string.injEq, true_and, and_true] at h
  obtain ⟨h0, h1, h2⟩ := h
  obtain rfl := h0
  obtain rfl := map_inj eS_inj h1
  obtain rfl := h2
  rfl
theorem eAccessController_inj (x y : DAccessController) (h : eAccessController x = eAccessController y) : x = y := by
  obtain ⟨x0, x1, x2, x3⟩ := x
  obtain ⟨y0, y1, y2, y3⟩ := y
  simp only [eAccessController, List.cons.injEq, DT.at.injEq, DT.sl.injEq, Value.int.injEq, Value.bool.injEq, Value.string.injEq, true_and, and_true] at h
  obtain ⟨h0, h1, h2, h3⟩ := h
  obtain rfl := map_inj eKey_inj h0
  obtain rfl := h1
  obtain rfl := h2
  obtain rfl := map_inj eReader_inj h3
  rfl
theorem eData_inj (x y : DData) (h : eData x = eData y) : x = y := by
  obtain ⟨x0, x1, x2, x3, x4⟩ := x
  obtain ⟨y0, y1, y2, y3, y4⟩ := y
  simp only [eData, List.cons.injEq, DT.at.injEq, DT.sl.injEq, Value.int.injEq, Value.bool.injEq, Value.string.injEq, true_and, and_true] at h
  obtain ⟨h0, h1, h2, h3, h4⟩ := h
  obtain rfl := map_inj eS_inj h0
  obtain rfl := map_inj eY_inj h1
  obtain rfl := map_inj eS_inj h2
  obtain rfl := h3
  obtain rfl := h4
  rfl
def aMAccessController (i : DAccessController × Int) : List Arg := [.a (eAccessController i.1), .v (.at (.int .i64 i.2))]
def rMAccessController (i : DAccessController × Int) : Option (List Arg) := (s_laws_markAccessController i.1 i.2).bind fun r => some [.v (.at (.int .i64 r.2)), .a (eAccessController r.1), .v (.at (.int .i64 i.2))]
theorem aMAccessController_inj (i j : DAccessController × Int) (h : aMAccessController i = aMAccessController j) : i = j := by
  simp only [aMAccessController, List.cons.injEq, Arg.a.injEq, Arg.v.injEq, DT.at.injEq, Value.int.injEq, true_and, and_true] at h
  exact Prod.ext (eAccessController_inj _ _ h.1) h.2
theorem MAccessController_ok (w0 : World) (xs ys : List Arg) (h : xOf aMAccessController rMAccessController xs = some ys) : MutOk Tryz.prog w0 13 xs ys := by
  obtain ⟨⟨x, k⟩, rfl, hr⟩ := xOf_some h
  unfold rMAccessController s_laws_markAccessController at hr
  dsimp only at hr
  split at hr
  · rename_i hc
    simp only [Option.bind_some, Option.some.injEq] at hr
    subst hr
    exact mut_agg encowAccessController (fun _ _ => by kernel_rfl) (fun w cs fp ho => markAccessController_c cs x fp k w ho hc.1 hc.2)
  · cases hr
def aMData (i : DData × Int) : List Arg := [.a (eData i.1), .v (.at (.int .i64 i.2))]
def rMData (i : DData × Int) : Option (List Arg) := (s_laws_markData i.1 i.2).bind fun r => some [.v (.at (.int .i64 r.2)), .a (eData r.1), .v (.at (.int .i64 i.2))]
theorem aMData_inj (i j : DData × Int) (h : aMData i = aMData j) : i = j := by
  simp only [aMData, List.cons.injEq, Arg.a.injEq, Arg.v.injEq, DT.at.injEq, Value.int.injEq, true_and, and_true] at h
  exact Prod.ext (eData_inj _ _ h.1) h.2
theorem MData_ok (w0 : World) (xs ys : List Arg) (h : xOf aMData rMData xs = some ys) : MutOk Tryz.prog w0 14 xs ys := by
  obtain ⟨⟨x, k⟩, rfl, hr⟩ := xOf_some h
  unfold rMData s_laws_markData at hr
  dsimp only at hr
  split at hr
  · rename_i hc
    simp only [Option.bind_some, Option.some.injEq] at hr
    subst hr
    exact mut_agg encowData (fun _ _ => by kernel_rfl) (fun w cs fp ho => markData_c cs x fp k w ho hc.1 hc.2)
  · cases hr
def aMByteS (i : (List UInt8) × Int) : List Arg := [.v (DT.sl 5 1 (i.1.map eY)), .v (.at (.int .i64 i.2))]
def rMByteS (i : (List UInt8) × Int) : Option (List Arg) := (s_laws_markByteS i.1 i.2).bind fun r => some [.v (.at (.int .i64 r.2)), .v (DT.sl 5 1 (r.1.map eY)), .v (.at (.int .i64 i.2))]
theorem aMByteS_inj (i j : (List UInt8) × Int) (h : aMByteS i = aMByteS j) : i = j := by
  simp only [aMByteS, List.cons.injEq, Arg.a.injEq, Arg.v.injEq, DT.at.injEq, DT.sl.injEq, Value.int.injEq, true_and, and_true] at h
  exact Prod.ext (map_inj eY_inj h.1) h.2
theorem MByteS_ok (w0 : World) (xs ys : List Arg) (h : xOf aMByteS rMByteS xs = some ys) : MutOk Tryz.prog w0 15 xs ys := by
  obtain ⟨⟨x, k⟩, rfl, hr⟩ := xOf_some h
  unfold rMByteS s_laws_markByteS at hr
  dsimp only at hr
  split at hr
  · rename_i hc
    simp only [Option.bind_some, Option.some.injEq] at hr
    subst hr
    exact mut_one (e := fun l => DT.sl 5 1 (l.map eY)) (EncOw.sl 5 (EncOw.one (fun b : UInt8 => .int .u8 b.toNat)) (by decide)) (fun _ _ => by kernel_rfl) (fun w v fp ho => markByteS_c v x fp k w ho hc.1 hc.2)
  · cases hr
def XT : Fns := fun f xs => if f = 61 then (xOf aItoa rItoa) xs else (fun f xs => if f = 100 then (xOf aGrow rGrow) xs else (fun f xs => if f = (13 + 2 ^ 40) then (xOf aMAccessController rMAccessController) xs else (fun f xs => if f = (14 + 2 ^ 40) then (xOf aMData rMData) xs else (fun f xs => if f = (15 + 2 ^ 40) then (xOf aMByteS rMByteS) xs else (fun _ _ => none) f xs) f xs) f xs) f xs) f xs
theorem XT_ok (w0 : World) (htab : TabW w0) : Sound Tryz.prog XT w0 := (sound_add (by decide) (XItoa_ok w0 htab) (sound_add (by decide) (XGrow_ok w0) (sound_mut (g := 13) rfl (MAccessController_ok w0) (sound_mut (g := 14) rfl (MData_ok w0) (sound_mut (g := 15) rfl (MByteS_ok w0) (sound_none _ w0))))))
theorem x_s_strconv_Itoa (a0 : Int) : XT 61 (aItoa a0) = (s_strconv_Itoa a0).bind fun r => some [.v (.at (.string r))] := by
  unfold XT
  exact (if_pos rfl).trans (xOf_at (fun i j h => aItoa_inj i j h) a0)
theorem x_s_slices_Grow_int (a1 : Int) : XT 100 (aGrow a1) = (s_slices_Grow_int a1).bind fun r => some [.v (.sl 3 1 (List.map eI r))] := by
  unfold XT
  exact (if_neg (by decide)).trans ((if_pos rfl).trans (xGrow_s a1))
theorem x_s_laws_markAccessController (a0 : DAccessController) (a1 : Int) : XT (13 + 2 ^ 40) (aMAccessController (a0, a1)) = rMAccessController (a0, a1) := by
  unfold XT
  exact (if_neg (by decide)).trans ((if_neg (by decide)).trans ((if_pos rfl).trans (xOf_at aMAccessController_inj (a0, a1))))
theorem x_s_laws_markData (a0 : DData) (a1 : Int) : XT (14 + 2 ^ 40) (aMData (a0, a1)) = rMData (a0, a1) := by
  unfold XT
  exact (if_neg (by decide)).trans ((if_neg (by decide)).trans ((if_neg (by decide)).trans ((if_pos rfl).trans (xOf_at aMData_inj (a0, a1)))))
theorem x_s_laws_markByteS (a0 : (List UInt8)) (a1 : Int) : XT (15 + 2 ^ 40) (aMByteS (a0, a1)) = rMByteS (a0, a1) := by
  unfold XT
  exact (if_neg (by decide)).trans ((if_neg (by decide)).trans ((if_neg (by decide)).trans ((if_neg (by decide)).trans ((if_pos rfl).trans (xOf_at aMByteS_inj (a0, a1))))))
end
end Go.Proofs.YtlbmlgnckclenaaGreatDoor
