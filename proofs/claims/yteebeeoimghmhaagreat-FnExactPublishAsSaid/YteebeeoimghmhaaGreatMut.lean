/- The interpreter's contracts of the functions 'mark..'; the table of all functions that are given. Printed by genmut.py. -/
import Derived.Test.YteebeeoimghmhaaGreatIns
import Derived.Test.YteebeeoimghmhaaGreatExG
import Derived.Test.YteebeeoimghmhaaGreatFamRaw
import Derived.Test.YteebeeoimghmhaaGreatEnc
import Derived.Test.YteebeeoimghmhaaGreatSd
namespace Go.Proofs.YteebeeoimghmhaaGreat
open Go.RowKit
set_option linter.unusedVariables false
set_option linter.unusedSimpArgs false
set_option maxRecDepth 100000
noncomputable section

theorem encowLink : EncOw rLink eLink := EncOw.via (EncOw.pair (EncOw.one (fun n : Int => .int .i64 n)) (EncOw.one (fun n : Int => .int .i64 n))) (fun x : DLink => (x.a, x.b))
theorem encowTopology : EncOw rTopology eTopology := EncOw.via (EncOw.pair (EncOw.one (fun n : Int => .int .i64 n)) (EncOw.sl 115 encowLink (by decide))) (fun x : DTopology => (x.size, x.links))
theorem encowTableEntry : EncOw rTableEntry eTableEntry := EncOw.via (EncOw.pair (EncOw.sl 9 (EncOw.one (fun s : ByteArray => .string s)) (by decide)) (EncOw.one (fun n : Int => .int .i64 n))) (fun x : DTableEntry => (x.name, x.value))
theorem encowPublication : EncOw rPublication ePublication := EncOw.via (EncOw.pair (EncOw.sl 9 (EncOw.one (fun s : ByteArray => .string s)) (by decide)) (EncOw.pair (EncOw.one (fun n : Int => .int .i64 n)) (EncOw.sl 5 (EncOw.one (fun b : UInt8 => .int .u8 b.toNat)) (by decide)))) (fun x : DPublication => (x.publisher, x.seq, x.content))
theorem encowMember : EncOw rMember eMember := EncOw.via (EncOw.pair (EncOw.sl 9 (EncOw.one (fun s : ByteArray => .string s)) (by decide)) (EncOw.pair (EncOw.sl 88 encowTableEntry (by decide)) (EncOw.sl 103 encowPublication (by decide)))) (fun x : DMember => (x.name, x.vector, x.publications))
theorem encowSyncGroup : EncOw rSyncGroup eSyncGroup := EncOw.via (EncOw.pair encowTopology (EncOw.sl 65 encowMember (by decide))) (fun x : DSyncGroup => (x.topology, x.members))
theorem eLink_inj (x y : DLink) (h : eLink x = eLink y) : x = y := by
  obtain ⟨x0, x1⟩ := x
  obtain ⟨y0, y1⟩ := y
  simp only [eLink, List.cons.injEq, DT.at.injEq, DT.sl.injEq, Value.int.injEq, Value.bool.injEq, Value.string.injEq, true_and, and_true] at h
  obtain ⟨h0, h1⟩ := h
  obtain rfl := h0
  obtain rfl := h1
  rfl
theorem eTopology_inj (x y : DTopology) (h : eTopology x = eTopology y) : x = y := by
  obtain ⟨x0, x1⟩ := x
  obtain ⟨y0, y1⟩ := y
  simp only [eTopology, List.cons.injEq, DT.at.injEq, DT.sl.injEq, Value.int.injEq, Value.bool.injEq, Value.string.injEq, true_and, and_true] at h
  obtain ⟨h0, h1⟩ := h
  obtain rfl := h0
  obtain rfl := map_inj eLink_inj h1
  rfl
theorem eTableEntry_inj (x y : DTableEntry) (h : eTableEntry x = eTableEntry y) : x = y := by
  obtain ⟨x0, x1⟩ := x
  obtain ⟨y0, y1⟩ := y
  simp only [eTableEntry, List.cons.injEq, DT.at.injEq, DT.sl.injEq, Value.int.injEq, Value.bool.injEq, Value.string.injEq, true_and, and_true] at h
  obtain ⟨h0, h1⟩ := h
  obtain rfl := map_inj eS_inj h0
  obtain rfl := h1
  rfl
theorem ePublication_inj (x y : DPublication) (h : ePublication x = ePublication y) : x = y := by
  obtain ⟨x0, x1, x2⟩ := x
  obtain ⟨y0, y1, y2⟩ := y
  simp only [ePublication, List.cons.injEq, DT.at.injEq, DT.sl.injEq, Value.int.injEq, Value.bool.injEq, Value.string.injEq, true_and, and_true] at h
  obtain ⟨h0, h1, h2⟩ := h
  obtain rfl := map_inj eS_inj h0
  obtain rfl := h1
  obtain rfl := map_inj eY_inj h2
  rfl
theorem eMember_inj (x y : DMember) (h : eMember x = eMember y) : x = y := by
  obtain ⟨x0, x1, x2⟩ := x
  obtain ⟨y0, y1, y2⟩ := y
  simp only [eMember, List.cons.injEq, DT.at.injEq, DT.sl.injEq, Value.int.injEq, Value.bool.injEq, Value.string.injEq, true_and, and_true] at h
  obtain ⟨h0, h1, h2⟩ := h
  obtain rfl := map_inj eS_inj h0
  obtain rfl := map_inj eTableEntry_inj h1
  obtain rfl := map_inj ePublication_inj h2
  rfl
theorem eSyncGroup_inj (x y : DSyncGroup) (h : eSyncGroup x = eSyncGroup y) : x = y := by
  obtain ⟨⟨x0, x1⟩, x2⟩ := x
  obtain ⟨⟨y0, y1⟩, y2⟩ := y
  simp only [eSyncGroup, List.cons.injEq, DT.at.injEq, DT.sl.injEq, Value.int.injEq, Value.bool.injEq, Value.string.injEq, true_and, and_true] at h
  obtain ⟨h0, h1, h2⟩ := h
  obtain rfl := h0
  obtain rfl := map_inj eLink_inj h1
  obtain rfl := map_inj eMember_inj h2
  rfl
def aMSyncGroup (i : DSyncGroup × Int) : List Arg := [.a (eSyncGroup i.1), .v (.at (.int .i64 i.2))]
def rMSyncGroup (i : DSyncGroup × Int) : Option (List Arg) := (s_laws_markSyncGroup i.1 i.2).bind fun r => some [.v (.at (.int .i64 r.2)), .a (eSyncGroup r.1), .v (.at (.int .i64 i.2))]
theorem aMSyncGroup_inj (i j : DSyncGroup × Int) (h : aMSyncGroup i = aMSyncGroup j) : i = j := by
  simp only [aMSyncGroup, List.cons.injEq, Arg.a.injEq, Arg.v.injEq, DT.at.injEq, Value.int.injEq, true_and, and_true] at h
  exact Prod.ext (eSyncGroup_inj _ _ h.1) h.2
theorem MSyncGroup_ok (w0 : World) (xs ys : List Arg) (h : xOf aMSyncGroup rMSyncGroup xs = some ys) : MutOk Tryz.prog w0 13 xs ys := by
  obtain ⟨⟨x, k⟩, rfl, hr⟩ := xOf_some h
  unfold rMSyncGroup s_laws_markSyncGroup at hr
  dsimp only at hr
  split at hr
  · rename_i hc
    simp only [Option.bind_some, Option.some.injEq] at hr
    subst hr
    exact mut_agg encowSyncGroup (fun _ _ => by kernel_rfl) (fun w cs fp ho => markSyncGroup_c cs x fp k w ho hc.1 hc.2)
  · cases hr
def aMByteS (i : (List UInt8) × Int) : List Arg := [.v (DT.sl 5 1 (i.1.map eY)), .v (.at (.int .i64 i.2))]
def rMByteS (i : (List UInt8) × Int) : Option (List Arg) := (s_laws_markByteS i.1 i.2).bind fun r => some [.v (.at (.int .i64 r.2)), .v (DT.sl 5 1 (r.1.map eY)), .v (.at (.int .i64 i.2))]
theorem aMByteS_inj (i j : (List UInt8) × Int) (h : aMByteS i = aMByteS j) : i = j := by
  simp only [aMByteS, List.cons.injEq, Arg.a.injEq, Arg.v.injEq, DT.at.injEq, DT.sl.injEq, Value.int.injEq, true_and, and_true] at h
  exact Prod.ext (map_inj eY_inj h.1) h.2
theorem MByteS_ok (w0 : World) (xs ys : List Arg) (h : xOf aMByteS rMByteS xs = some ys) : MutOk Tryz.prog w0 21 xs ys := by
  obtain ⟨⟨x, k⟩, rfl, hr⟩ := xOf_some h
  unfold rMByteS s_laws_markByteS at hr
  dsimp only at hr
  split at hr
  · rename_i hc
    simp only [Option.bind_some, Option.some.injEq] at hr
    subst hr
    exact mut_one (e := fun l => DT.sl 5 1 (l.map eY)) (EncOw.sl 5 (EncOw.one (fun b : UInt8 => .int .u8 b.toNat)) (by decide)) (fun _ _ => by kernel_rfl) (fun w v fp ho => markByteS_c v x fp k w ho hc.1 hc.2)
  · cases hr
def XT : Fns := fun f xs => if f = (87 + 2 ^ 40) then (xOf aIns rIns) xs else (fun f xs => if f = (13 + 2 ^ 40) then (xOf aMSyncGroup rMSyncGroup) xs else (fun f xs => if f = (21 + 2 ^ 40) then (xOf aMByteS rMByteS) xs else (fun _ _ => none) f xs) f xs) f xs
theorem XT_ok (w0 : World) : Sound Tryz.prog XT w0 := (sound_con (g := 87) rfl (XIns_ok w0) (sound_mut (g := 13) rfl (MSyncGroup_ok w0) (sound_mut (g := 21) rfl (MByteS_ok w0) (sound_none _ w0))))
theorem x_s_slices_Insert_TableEntry (a0 : List DTableEntry) (a1 : Int) (a2 : DTableEntry) : XT (87 + 2 ^ 40) (aIns (a0, a1, a2)) = (s_slices_Insert_TableEntry a0 a1 a2).bind fun r => some [.v (.sl 88 2 (List.map eTableEntry r))] := by
  unfold XT
  exact (if_pos rfl).trans (xOf_at aIns_inj (a0, a1, a2))
theorem x_s_laws_markSyncGroup (a0 : DSyncGroup) (a1 : Int) : XT (13 + 2 ^ 40) (aMSyncGroup (a0, a1)) = rMSyncGroup (a0, a1) := by
  unfold XT
  exact (if_neg (by decide)).trans ((if_pos rfl).trans (xOf_at aMSyncGroup_inj (a0, a1)))
theorem x_s_laws_markByteS (a0 : (List UInt8)) (a1 : Int) : XT (21 + 2 ^ 40) (aMByteS (a0, a1)) = rMByteS (a0, a1) := by
  unfold XT
  exact (if_neg (by decide)).trans ((if_neg (by decide)).trans ((if_pos rfl).trans (xOf_at aMByteS_inj (a0, a1))))
end
end Go.Proofs.YteebeeoimghmhaaGreat
