import Derived.Test.YteebeeoimghmhaaGreatDoorSf
import Derived.Test.YteebeeoimghmhaaGreatDoorShelf
import Derived.Test.YteebeeoimghmhaaGreatDoorExG
import Derived.Lib.SmallJoins
import Derived.Lib.AppendIntMem
namespace Go.Proofs.YteebeeoimghmhaaGreatDoor
open Go.RowKit
set_option linter.unusedVariables false
set_option linter.unusedSimpArgs false
set_option maxRecDepth 100000
noncomputable section
abbrev TabW (w : World) : Prop := Lib.TabIs Tryz.prog w "internal/strconv.uint64pow10" .u64 Lib.pow10Tab
theorem gave_str {s : ByteArray} {w w' : World} (hx : Ext w w') : Gave [.v (.at (.string s))] w (.returned (.string s)) w' := ⟨[.string s], fun _ => none, rfl, hx, ⟨⟨0, rfl⟩, trivial⟩⟩
theorem rd_at_eq {R : Nat → Prop} {w : World} {v u : Value} (h : Rd R w v (.at u)) : v = u := by
 obtain ⟨n, h⟩ := h
 cases n <;> (unfold RdN at h; exact h)
def aItoa (a0 : Int) : List Arg := [.v (.at (.int .i64 a0))]
def rItoa (a0 : Int) : Option (List Arg) := (s_strconv_Itoa a0).bind fun r => some [.v (.at (.string r))]
theorem aItoa_inj (i j : Int) (h : aItoa i = aItoa j) : i = j := by simpa [aItoa] using h
theorem XItoa_ok (w0 : World) (htab : TabW w0) (xs ys : List Arg) (h : xOf aItoa rItoa xs = some ys) : Enters Tryz.prog 134 ∧ ∀ w vs, Ext w0 w → ArgsRd w xs vs → Calls Tryz.prog 134 vs.toArray w (Gave ys w) := by
 refine ⟨fun _ _ => by kernel_rfl, fun w vs hx hv => ?_⟩
 obtain ⟨a0, rfl, hr⟩ := xOf_some h
 unfold rItoa s_strconv_Itoa at hr
 split at hr
 ·rename_i hb
  simp only [Option.bind_some, Option.some.injEq] at hr
  subst hr
  match vs, hv with
  | [v], ⟨h1, _⟩ =>
   have hv1 : v = .int .i64 a0 := rd_at_eq h1
   subst hv1
   have ht : TabW w := Go.Joins.tab_stays (g := 0) (by kernel_rfl) htab hx (Nat.le_refl _)
   refine (Tryz.strconv_Itoa a0 hb.1 hb.2 w ht).mono ?_
   rintro e w' ⟨rfl, k, os, rfl⟩
   exact gave_str (Lib.below_grow _ w (Nat.le_refl _) k os)
 ·cases hr
end
end Go.Proofs.YteebeeoimghmhaaGreatDoor
