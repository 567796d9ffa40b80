/- Joined: Run0, Del. -/
import Derived.Test.YteebeeoimghmhaaSf
import Derived.Test.YteebeeoimghmhaaExG
import Derived.Test.YteebeeoimghmhaaDelC
import Derived.Test.YteebeeoimghmhaaSd
import Derived.Test.YteebeeoimghmhaaEnc
namespace Go.Proofs.Yteebeeoimghmhaa.R0
open Go.RowKit
set_option linter.unusedVariables false
set_option linter.unusedSimpArgs false
set_option maxRecDepth 100000
noncomputable section

def g0 : Nat → List Nat := fun _ => []
def gF (f : Func) (l : Nat → List Nat) : FE := ⟨f, f.body.getD .skip, l⟩
def Gok (f : FuncId) (fn : Func) : Prop := f < 2 ^ 40 ∧ Enters Try.prog f ∧ Try.prog.funcs[f]? = some fn ∧ fn.body = some (fn.body.getD .skip) ∧ codeOk drawOk (fn.body.getD .skip) = true
noncomputable def GT : FuncId → Option FE := fun f => match f with
  | 56 => some (gF Try.f56 (fun id => if id = 4 then [0, 1, 12, 13] else []))
  | 45 => some (gF Try.f45 g0)
  | 44 => some (gF Try.f44 g0)
  | 55 => some (gF Try.f55 (fun id => if id = 2 then [0, 1, 7, 8] else []))
  | _ => none
theorem gok56 : Gok 56 Try.f56 := ⟨by decide, fun _ _ => by kernel_rfl, Try.func56, rfl, by kernel_rfl⟩
theorem gok45 : Gok 45 Try.f45 := ⟨by decide, fun _ _ => by kernel_rfl, Try.func45, rfl, by kernel_rfl⟩
theorem gok44 : Gok 44 Try.f44 := ⟨by decide, fun _ _ => by kernel_rfl, Try.func44, rfl, by kernel_rfl⟩
theorem gok55 : Gok 55 Try.f55 := ⟨by decide, fun _ _ => by kernel_rfl, Try.func55, rfl, by kernel_rfl⟩
theorem GT_ok (f : FuncId) (fe : FE) (h : GT f = some fe) : f < 2 ^ 40 ∧ Enters Try.prog f ∧ Try.prog.funcs[f]? = some fe.fn ∧ fe.fn.body = some fe.body ∧ codeOk drawOk fe.body = true := by
  unfold GT at h
  split at h
  · injection h with h; subst h; exact gok56
  · injection h with h; subst h; exact gok45
  · injection h with h; subst h; exact gok44
  · injection h with h; subst h; exact gok55
  · cases h
noncomputable def FT (n : Nat) : Fns := ev prims GT (fun _ _ => none) TY n
theorem FT_ok (w0 : World) (hX : Sound Try.prog (fun _ _ => none) w0) (n : Nat) : Sound Try.prog (FT n) w0 := ev_sound TY_ok (fun F w hF => drawOk_sound (by kernel_rfl) TY_ok hF) canonOk hX GT_ok n
theorem FT_at {f : FuncId} {fe : FE} (hG : GT f = some fe) (n : Nat) (xs : List Arg) : FT (n + 1) f xs = evBody prims (fun F lv => aloop F lv fuel) TY (FT n) fe xs := by
  show (match GT f with | some fe => evBody prims (fun F lv => aloop F lv fuel) TY (FT n) fe xs | none => _) = _
  rw [hG]
theorem FT_x {f : FuncId} (hG : GT f = none) (n : Nat) (xs : List Arg) : FT n f xs = (fun _ _ => none) f xs := by
  cases n with
  | zero => rfl
  | succ n =>
    show (match GT f with | some fe => evBody prims (fun F lv => aloop F lv fuel) TY (FT n) fe xs | none => _) = _
    rw [hG]
theorem h_s_slices_Equal_string (n : Nat) : Hs_s_slices_Equal_string (FT (n + 1) 56) := fun a0 a1 => (FT_at rfl (n + 0) _).trans (e_s_slices_Equal_string (FT (n + 0))  a0 a1)
theorem h_s_impl_HasPrefix (n : Nat) : Hs_s_impl_HasPrefix (FT (n + 2) 45) := fun a0 a1 => (FT_at rfl (n + 1) _).trans (e_s_impl_HasPrefix (FT (n + 1)) (h_s_slices_Equal_string (n + 0)) a0 a1)
theorem h_s_impl_RemoveReader_1 (n : Nat) : Hs_s_impl_RemoveReader_1 (FT (n + 3) 44) := fun a0 k0 k1 => (FT_at rfl (n + 2) _).trans (e_s_impl_RemoveReader_1 (FT (n + 2)) (h_s_impl_HasPrefix (n + 0)) a0 k0 k1)
theorem h_s_slices_IndexFunc_Reader__RemoveReader_1 (n : Nat) : Hs_s_slices_IndexFunc_Reader__RemoveReader_1 (FT (n + 4) 55) := fun a0 c1_0 c1_1 => (FT_at rfl (n + 3) _).trans (e_s_slices_IndexFunc_Reader__RemoveReader_1 (FT (n + 3)) (h_s_impl_RemoveReader_1 (n + 0)) a0 c1_0 c1_1)
end
end Go.Proofs.Yteebeeoimghmhaa.R0

namespace Go.Proofs.Yteebeeoimghmhaa
open Go.RowKit
set_option linter.unusedVariables false
set_option linter.unusedSimpArgs false
set_option maxRecDepth 100000
noncomputable section

theorem eReader_inj0 (x y : DReader) (h : eReader x = eReader y) : x = y := by
  obtain ⟨x0, x1, x2⟩ := x
  obtain ⟨y0, y1, y2⟩ := y
  simp only [eReader, List.cons.injEq, DT.at.injEq, DT.sl.injEq, Value.int.injEq, Value.bool.injEq, Value.string.injEq, true_and, and_true] at h
  obtain ⟨h0, h1, h2⟩ := h
  obtain rfl := h0
  obtain rfl := map_inj eS_inj h1
  obtain rfl := h2
  rfl
theorem p_s_slices_IndexFunc_Reader__RemoveReader_1 (l : List DReader) (c1_0 : Int) (c1_1 : (List ByteArray)) (p : DReader → Bool) (h : ∀ x ∈ l, s_impl_RemoveReader_1 x c1_0 c1_1 = some (p x)) (hl : l.length < 2 ^ 40) : s_slices_IndexFunc_Reader__RemoveReader_1 l c1_0 c1_1 = some (idxI p l) := by
  unfold s_slices_IndexFunc_Reader__RemoveReader_1
  rw [while_scan l (fun _ x => p x) (fun i _ => (i : Int)) .inr (.inl (l.length : Int)) (by omega) (fun j hj => by
    simp only [s_slices_IndexFunc_Reader__RemoveReader_1_l1, h _ (List.getElem_mem hj), lt_len _ hj, nthI_at hj, cond_true, Option.bind_some] <;> rfl) (by simp only [s_slices_IndexFunc_Reader__RemoveReader_1_l1, lt_end]; rfl)]
  unfold idxI
  cases scan (fun _ x => p x) (fun i _ => (i : Int)) 0 l <;> rfl
def aDel (i : (List DReader) × Int × (List ByteArray)) : List Arg := [.v (.sl 68 3 (List.map eReader i.1)), .v (.fn 44 [.ptr [.at (.int .i64 i.2.1)], .ptr [.sl 9 1 (List.map eS i.2.2)]])]
def rDel (i : (List DReader) × Int × (List ByteArray)) : Option (List Arg) := (s_slices_DeleteFunc_Reader__RemoveReader_1 i.1 i.2.1 i.2.2).bind fun r => some [.v (.sl 68 3 (List.map eReader r))]
theorem aDel_inj (i j : (List DReader) × Int × (List ByteArray)) (h : aDel i = aDel j) : i = j := by
  obtain ⟨l1, c01, c11⟩ := i
  obtain ⟨l2, c02, c12⟩ := j
  simp only [aDel, List.cons.injEq, Arg.v.injEq, Arg.a.injEq, DT.sl.injEq, DT.fn.injEq, DT.ptr.injEq, DT.at.injEq, Value.int.injEq, Value.bool.injEq, Value.string.injEq, true_and, and_true] at h
  obtain ⟨h0, h1, h2⟩ := h
  obtain rfl := map_inj eReader_inj0 h0
  obtain rfl := h1
  obtain rfl := map_inj eS_inj h2
  rfl
theorem XDel_ok (w0 : World) (xs ys : List Arg) (h : xOf aDel rDel xs = some ys) : ConOk Try.prog w0 DELF xs ys := by
  obtain ⟨⟨l, c1_0, c1_1⟩, rfl, hr⟩ := xOf_some h
  unfold rDel s_slices_DeleteFunc_Reader__RemoveReader_1 delO at hr
  dsimp only at hr
  split at hr
  · rename_i hlen
    rw [Option.bind_eq_some_iff] at hr
    obtain ⟨r, hr, he⟩ := hr
    injection he with he
    subst he
    obtain ⟨p, hp, rfl⟩ := delL_some hr
    refine del_con eReader (fun _ => rfl) (fun x d hd => ?_) (F := R0.FT 4) (w0 := w0) (R0.FT_ok w0 (sound_none _ w0) 4) (by decide) (fun x hx => ?_) ?_
    · simp only [eReader, List.mem_cons, List.not_mem_nil, or_false] at hd
      rcases hd with rfl | rfl | rfl <;> first | exact .inl ⟨_, rfl, by simp [oneV]⟩ | exact .inr ⟨_, _, _, rfl⟩
    · have hc := R0.h_s_impl_RemoveReader_1 1 x c1_0 c1_1
      rw [hp x hx] at hc
      exact hc
    · have hc := R0.h_s_slices_IndexFunc_Reader__RemoveReader_1 0 l c1_0 c1_1
      rw [p_s_slices_IndexFunc_Reader__RemoveReader_1 l c1_0 c1_1 p hp hlen] at hc
      exact hc
  · cases hr
end
end Go.Proofs.Yteebeeoimghmhaa
