import Derived.Test.YtifkepnfaggkiaaGreatDoorRun0
import Derived.Test.YtifkepnfaggkiaaGreatDoorDelC
import Derived.Test.YtifkepnfaggkiaaGreatDoorSd
import Derived.Test.YtifkepnfaggkiaaGreatDoorEnc
namespace Go.Proofs.YtifkepnfaggkiaaGreatDoor
open Go.RowKit
set_option linter.unusedVariables false
set_option linter.unusedSimpArgs false
set_option maxRecDepth 100000
noncomputable section
theorem zqg (x y : DReader) (h : zf x = zf y) : x = y := by
 obtain ⟨x0, x1, x2⟩ := x
 obtain ⟨y0, y1, y2⟩ := y
 simp only [zf, List.cons.injEq, DT.at.injEq, DT.sl.injEq, Value.int.injEq, Value.bool.injEq, Value.string.injEq, true_and, and_true] at h
 obtain ⟨h0, h1, h2⟩ := h
 obtain rfl := h0
 obtain rfl := zkL ztY h1
 obtain rfl := h2
 rfl
theorem zdg (l : List DReader) (c1_0 : Int) (c1_1 : (List ByteArray)) (p : DReader → Bool) (h : ∀ x ∈ l, za8 x c1_0 c1_1 = some (p x)) (hl : l.length < 2 ^ 40) : zaf l c1_0 c1_1 = some (idxI p l) := by
 unfold zaf
 rw [zy l (fun _ x => p x) (fun i _ => (i : Int)) .inr (.inl (l.length : Int)) (by omega) (fun j hj => by
  simp only [zG, h _ (List.getElem_mem hj), zo _ hj, zj hj, cond_true, Option.bind_some] <;> rfl) (by simp only [zG, zn]; rfl)]
 unfold idxI
 cases scan (fun _ x => p x) (fun i _ => (i : Int)) 0 l <;> rfl
def aDel (i : (List DReader) × Int × (List ByteArray)) : List Arg := [.v (.sl 96 3 (List.map zf i.1)), .v (.fn 190 [.ptr [.at (.int .i64 i.2.1)], .ptr [.sl 9 1 (List.map eS i.2.2)]])]
def rDel (i : (List DReader) × Int × (List ByteArray)) : Option (List Arg) := (zr i.1 i.2.1 i.2.2).bind fun r => some [.v (.sl 96 3 (List.map zf r))]
theorem zv1 (i j : (List DReader) × Int × (List ByteArray)) (h : aDel i = aDel j) : i = j := by
 obtain ⟨l1, c01, c11⟩ := i
 obtain ⟨l2, c02, c12⟩ := j
 simp only [aDel, List.cons.injEq, Arg.v.injEq, Arg.a.injEq, DT.sl.injEq, DT.fn.injEq, DT.ptr.injEq, DT.at.injEq, Value.int.injEq, Value.bool.injEq, Value.string.injEq, true_and, and_true] at h
 obtain ⟨h0, h1, h2⟩ := h
 obtain rfl := zkL zqg h0
 obtain rfl := h1
 obtain rfl := zkL ztY h2
 rfl
theorem zwM (w0 : World) (xs ys : List Arg) (h : xOf aDel rDel xs = some ys) : zmQ Tryz.prog (bs0 w0) DELF xs ys := by
 obtain ⟨⟨l, c1_0, c1_1⟩, rfl, hr⟩ := zlX h
 unfold rDel zr delO at hr
 dsimp only at hr
 split at hr
 ·rename_i hlen
  rw [Option.bind_eq_some_iff] at hr
  obtain ⟨r, hr, he⟩ := hr
  injection he with he
  subst he
  obtain ⟨p, hp, rfl⟩ := zuY hr
  refine zwD zf (fun _ => rfl) (fun x d hd => ?_) (F := R0.FT 4) (w0 := (bs0 w0)) (R0.FT_ok w0 (zma _ (bs0 w0)) 4) (by decide) (fun x hx => ?_) ?_
  ·simp only [zf, List.mem_cons, List.not_mem_nil, or_false] at hd
   rcases hd with rfl | rfl | rfl <;> first | exact .inl ⟨_, rfl, by simp [oneV]⟩ | exact .inr ⟨_, _, _, rfl⟩
  ·have hc := (R0.h_C2 4 (by omega)).a190 x c1_0 c1_1
   rw [hp x hx] at hc
   exact hc
  ·have hc := (R0.h_C3 4 (by omega)).a195_190 l c1_0 c1_1
   rw [zdg l c1_0 c1_1 p hp hlen] at hc
   exact hc
 ·cases hr
end
end Go.Proofs.YtifkepnfaggkiaaGreatDoor
