import Derived.Test.YteebeeoimghmhaaGreatDoorInsD
import Derived.Test.YteebeeoimghmhaaGreatDoorSd
import Derived.Test.YteebeeoimghmhaaGreatDoorEnc
import Derived.Test.YteebeeoimghmhaaGreatDoorExI
import Derived.Test.YteebeeoimghmhaaGreatDoorExG
import Derived.Test.YteebeeoimghmhaaGreatDoorFamRaw
namespace Go.Proofs.YteebeeoimghmhaaGreatDoor
open Go.RowKit
set_option linter.unusedVariables false
set_option linter.unusedSimpArgs false
set_option maxRecDepth 100000
noncomputable section
theorem eTableEntry_inj0 (x y : DTableEntry) (h : eTableEntry x = eTableEntry y) : x = y := by
 obtain ⟨x0, x1⟩ := x
 obtain ⟨y0, y1⟩ := y
 simp only [eTableEntry, List.cons.injEq, DT.at.injEq, DT.sl.injEq, Value.int.injEq, Value.bool.injEq, Value.string.injEq, true_and, and_true] at h
 obtain ⟨h0, h1⟩ := h
 obtain rfl := map_inj eS_inj h0
 obtain rfl := h1
 rfl
def aIns (i : List DTableEntry × Int × DTableEntry) : List Arg := [.v (.sl 89 2 (List.map eTableEntry i.1)), .v (.at (.int .i64 i.2.1)), .v (.sl 89 2 [[.sl 9 1 (List.map eS i.2.2.name), .at (.int .i64 i.2.2.value)]])]
def rIns (i : List DTableEntry × Int × DTableEntry) : Option (List Arg) := (sCInsert_TableEntry i.1 i.2.1 i.2.2).bind fun r => some [.v (.sl 89 2 (List.map eTableEntry r))]
theorem aIns_inj (i j : List DTableEntry × Int × DTableEntry) (h : aIns i = aIns j) : i = j := by
 obtain ⟨l1, c1, x1⟩ := i
 obtain ⟨l2, c2, x2⟩ := j
 have hx : eTableEntry x1 = eTableEntry x2 := by
  have h2 := congrArg (fun q => q[2]?) h
  simp only [aIns, List.getElem?_cons_succ, List.getElem?_cons_zero, Option.some.injEq, Arg.v.injEq, DT.sl.injEq, true_and, List.cons.injEq, and_true] at h2
  unfold eTableEntry
  simpa using h2
 obtain rfl := eTableEntry_inj0 _ _ hx
 simp only [aIns, List.cons.injEq, Arg.v.injEq, DT.sl.injEq, DT.at.injEq, Value.int.injEq, true_and, and_true] at h
 obtain ⟨h0, h1⟩ := h
 obtain rfl := map_inj eTableEntry_inj0 h0
 obtain rfl := h1
 rfl
theorem XIns_ok (w0 : World) (xs ys : List Arg) (h : xOf aIns rIns xs = some ys) : ConOk Tryz.prog w0 INSF xs ys := by
 obtain ⟨⟨l, k, x⟩, rfl, hr⟩ := xOf_some h
 unfold rIns sCInsert_TableEntry insO at hr
 dsimp only at hr
 split at hr
 ·rename_i hc
  obtain ⟨h0, h1, h2⟩ := hc
  simp only [Option.bind_some, Option.some.injEq] at hr
  subst hr
  obtain ⟨i, rfl⟩ : ∃ i : Nat, k = (i : Int) := ⟨k.toNat, by omega⟩
  exact ins_con eTableEntry (fun _ => rfl) (fun x d hd => by
   simp only [eTableEntry, List.mem_cons, List.not_mem_nil, or_false] at hd
   rcases hd with rfl | rfl <;> first | exact .inl ⟨_, rfl, by simp [oneV]⟩ | exact .inr ⟨_, _, _, rfl⟩) (by simpa using h1) h2
 ·cases hr
end
end Go.Proofs.YteebeeoimghmhaaGreatDoor
namespace Go.Proofs.YteebeeoimghmhaaGreatDoor
open Go.RowKit
set_option linter.unusedVariables false
set_option linter.unusedSimpArgs false
set_option maxRecDepth 100000
noncomputable section
theorem encowLink : EncOw rLink eLink := EncOw.via (EncOw.pair (EncOw.one (fun n : Int => .int .i64 n)) (EncOw.one (fun n : Int => .int .i64 n))) (fun x : DLink => (x.a, x.b))
theorem encowTopology : EncOw rTopology eTopology := EncOw.via (EncOw.pair (EncOw.one (fun n : Int => .int .i64 n)) (EncOw.sl 52 encowLink (by decide))) (fun x : DTopology => (x.size, x.links))
theorem encowTableEntry : EncOw rTableEntry eTableEntry := EncOw.via (EncOw.pair (EncOw.sl 9 (EncOw.one (fun s : ByteArray => .string s)) (by decide)) (EncOw.one (fun n : Int => .int .i64 n))) (fun x : DTableEntry => (x.name, x.value))
theorem encowPublication : EncOw rPublication ePublication := EncOw.via (EncOw.pair (EncOw.sl 9 (EncOw.one (fun s : ByteArray => .string s)) (by decide)) (EncOw.pair (EncOw.one (fun n : Int => .int .i64 n)) (EncOw.sl 5 (EncOw.one (fun b : UInt8 => .int .u8 b.toNat)) (by decide)))) (fun x : DPublication => (x.publisher, x.seq, x.content))
theorem encowMember : EncOw rMember eMember := EncOw.via (EncOw.pair (EncOw.sl 9 (EncOw.one (fun s : ByteArray => .string s)) (by decide)) (EncOw.pair (EncOw.sl 89 encowTableEntry (by decide)) (EncOw.sl 93 encowPublication (by decide)))) (fun x : DMember => (x.name, x.vector, x.publications))
theorem encowSyncGroup : EncOw rSyncGroup eSyncGroup := EncOw.via (EncOw.pair encowTopology (EncOw.sl 61 encowMember (by decide))) (fun x : DSyncGroup => (x.topology, x.members))
theorem eLink_inj (x y : DLink) (h : eLink x = eLink y) : x = y := by
 obtain ⟨x0, x1⟩ := x
 obtain ⟨y0, y1⟩ := y
 simp only [eLink, List.cons.injEq, DT.at.injEq, DT.sl.injEq, Value.int.injEq, Value.bool.injEq, Value.string.injEq, true_and, and_true] at h
 obtain ⟨h0, h1⟩ := h
 obtain rfl := h0
 obtain rfl := h1
 rfl
theorem eTableEntry_inj (x y : DTableEntry) (h : eTableEntry x = eTableEntry y) : x = y := by
 obtain ⟨x0, x1⟩ := x
 obtain ⟨y0, y1⟩ := y
 simp only [eTableEntry, List.cons.injEq, DT.at.injEq, DT.sl.injEq, Value.int.injEq, Value.bool.injEq, Value.string.injEq, true_and, and_true] at h
 obtain ⟨h0, h1⟩ := h
 obtain rfl := map_inj eS_inj h0
 obtain rfl := h1
 rfl
theorem ePublication_inj (x y : DPublication) (h : ePublication x = ePublication y) : x = y := by
 obtain ⟨x0, x1, x2⟩ := x
 obtain ⟨y0, y1, y2⟩ := y
 simp only [ePublication, List.cons.injEq, DT.at.injEq, DT.sl.injEq, Value.int.injEq, Value.bool.injEq, Value.string.injEq, true_and, and_true] at h
 obtain ⟨h0, h1, h2⟩ := h
 obtain rfl := map_inj eS_inj h0
 obtain rfl := h1
 obtain rfl := map_inj eY_inj h2
 rfl
theorem eMember_inj (x y : DMember) (h : eMember x = eMember y) : x = y := by
 obtain ⟨x0, x1, x2⟩ := x
 obtain ⟨y0, y1, y2⟩ := y
 simp only [eMember, List.cons.injEq, DT.at.injEq, DT.sl.injEq, Value.int.injEq, Value.bool.injEq, Value.string.injEq, true_and, and_true] at h
 obtain ⟨h0, h1, h2⟩ := h
 obtain rfl := map_inj eS_inj h0
 obtain rfl := map_inj eTableEntry_inj h1
 obtain rfl := map_inj ePublication_inj h2
 rfl
theorem eSyncGroup_inj (x y : DSyncGroup) (h : eSyncGroup x = eSyncGroup y) : x = y := by
 obtain ⟨⟨x0, x1⟩, x2⟩ := x
 obtain ⟨⟨y0, y1⟩, y2⟩ := y
 simp only [eSyncGroup, List.cons.injEq, DT.at.injEq, DT.sl.injEq, Value.int.injEq, Value.bool.injEq, Value.string.injEq, true_and, and_true] at h
 obtain ⟨h0, h1, h2⟩ := h
 obtain rfl := h0
 obtain rfl := map_inj eLink_inj h1
 obtain rfl := map_inj eMember_inj h2
 rfl
def aMSyncGroup (i : DSyncGroup × Int) : List Arg := [.a (eSyncGroup i.1), .v (.at (.int .i64 i.2))]
def rMSyncGroup (i : DSyncGroup × Int) : Option (List Arg) := (sLmarkSyncGroup i.1 i.2).bind fun r => some [.v (.at (.int .i64 r.2)), .a (eSyncGroup r.1), .v (.at (.int .i64 i.2))]
theorem aMSyncGroup_inj (i j : DSyncGroup × Int) (h : aMSyncGroup i = aMSyncGroup j) : i = j := by
 simp only [aMSyncGroup, List.cons.injEq, Arg.a.injEq, Arg.v.injEq, DT.at.injEq, Value.int.injEq, true_and, and_true] at h
 exact Prod.ext (eSyncGroup_inj _ _ h.1) h.2
theorem MSyncGroup_ok (w0 : World) (xs ys : List Arg) (h : xOf aMSyncGroup rMSyncGroup xs = some ys) : MutOk Tryz.prog w0 12 xs ys := by
 obtain ⟨⟨x, k⟩, rfl, hr⟩ := xOf_some h
 unfold rMSyncGroup sLmarkSyncGroup at hr
 dsimp only at hr
 split at hr
 ·rename_i hc
  simp only [Option.bind_some, Option.some.injEq] at hr
  subst hr
  exact mut_agg encowSyncGroup (fun _ _ => by kernel_rfl) (fun w cs fp ho => markSyncGroup_c cs x fp k w ho hc.1 hc.2)
 ·cases hr
def aMIntS (i : (List Int) × Int) : List Arg := [.v (DT.sl 3 1 (i.1.map eI)), .v (.at (.int .i64 i.2))]
def rMIntS (i : (List Int) × Int) : Option (List Arg) := (sLmarkIntS i.1 i.2).bind fun r => some [.v (.at (.int .i64 r.2)), .v (DT.sl 3 1 (r.1.map eI)), .v (.at (.int .i64 i.2))]
theorem aMIntS_inj (i j : (List Int) × Int) (h : aMIntS i = aMIntS j) : i = j := by
 simp only [aMIntS, List.cons.injEq, Arg.a.injEq, Arg.v.injEq, DT.at.injEq, DT.sl.injEq, Value.int.injEq, true_and, and_true] at h
 exact Prod.ext (map_inj eI_inj h.1) h.2
theorem MIntS_ok (w0 : World) (xs ys : List Arg) (h : xOf aMIntS rMIntS xs = some ys) : MutOk Tryz.prog w0 13 xs ys := by
 obtain ⟨⟨x, k⟩, rfl, hr⟩ := xOf_some h
 unfold rMIntS sLmarkIntS at hr
 dsimp only at hr
 split at hr
 ·rename_i hc
  simp only [Option.bind_some, Option.some.injEq] at hr
  subst hr
  exact mut_one (e := fun l => DT.sl 3 1 (l.map eI)) (EncOw.sl 3 (EncOw.one (fun n : Int => .int .i64 n)) (by decide)) (fun _ _ => by kernel_rfl) (fun w v fp ho => markIntS_c v x fp k w ho hc.1 hc.2)
 ·cases hr
def XT : Fns := fun f xs => if f = 134 then (xOf aItoa rItoa) xs else (fun f xs => if f = (139 + 2 ^ 40) then (xOf aIns rIns) xs else (fun f xs => if f = (12 + 2 ^ 40) then (xOf aMSyncGroup rMSyncGroup) xs else (fun f xs => if f = (13 + 2 ^ 40) then (xOf aMIntS rMIntS) xs else (fun _ _ => none) f xs) f xs) f xs) f xs
theorem XT_ok (w0 : World) (htab : TabW w0) : Sound Tryz.prog XT w0 := (sound_add (by decide) (XItoa_ok w0 htab) (sound_con (g := 139) rfl (XIns_ok w0) (sound_mut (g := 12) rfl (MSyncGroup_ok w0) (sound_mut (g := 13) rfl (MIntS_ok w0) (sound_none _ w0)))))
theorem x_s_strconv_Itoa (a0 : Int) : XT 134 (aItoa a0) = (s_strconv_Itoa a0).bind fun r => some [.v (.at (.string r))] := by
 unfold XT
 exact (if_pos rfl).trans (xOf_at (fun i j h => aItoa_inj i j h) a0)
theorem xCInsert_TableEntry (a0 : List DTableEntry) (a1 : Int) (a2 : DTableEntry) : XT (139 + 2 ^ 40) (aIns (a0, a1, a2)) = (sCInsert_TableEntry a0 a1 a2).bind fun r => some [.v (.sl 89 2 (List.map eTableEntry r))] := by
 unfold XT
 exact (if_neg (by decide)).trans ((if_pos rfl).trans (xOf_at aIns_inj (a0, a1, a2)))
theorem xLmarkSyncGroup (a0 : DSyncGroup) (a1 : Int) : XT (12 + 2 ^ 40) (aMSyncGroup (a0, a1)) = rMSyncGroup (a0, a1) := by
 unfold XT
 exact (if_neg (by decide)).trans ((if_neg (by decide)).trans ((if_pos rfl).trans (xOf_at aMSyncGroup_inj (a0, a1))))
theorem xLmarkIntS (a0 : (List Int)) (a1 : Int) : XT (13 + 2 ^ 40) (aMIntS (a0, a1)) = rMIntS (a0, a1) := by
 unfold XT
 exact (if_neg (by decide)).trans ((if_neg (by decide)).trans ((if_neg (by decide)).trans ((if_pos rfl).trans (xOf_at aMIntS_inj (a0, a1)))))
end
end Go.Proofs.YteebeeoimghmhaaGreatDoor
