/- Functions of Go's library whose contracts lie on the shelf: numbers as text, texts joined. -/
import Derived.Test.YtfianjolmcoadaaGreatDoorSd
import Derived.Test.YtfianjolmcoadaaGreatDoorShelf
import Derived.Lib.SmallJoins
import Derived.Lib.AppendIntMem
namespace Go.Proofs.YtfianjolmcoadaaGreatDoor
open Go.RowKit
set_option linter.unusedVariables false
set_option linter.unusedSimpArgs false
set_option maxRecDepth 100000
noncomputable section
/-- answers at arguments of a form -/
def xOf {ι : Type} (args : ι → List Arg) (res : ι → Option (List Arg)) (xs : List Arg) : Option (List Arg) := open Classical in if h : ∃ i, xs = args i then res h.choose else none
theorem xOf_at {ι : Type} {args : ι → List Arg} {res : ι → Option (List Arg)} (hfun : ∀ i j, args i = args j → i = j) (i : ι) : xOf args res (args i) = res i := by
  unfold xOf
  have h : ∃ j, args i = args j := ⟨i, rfl⟩
  rw [dif_pos h]
  exact congrArg res (hfun _ _ h.choose_spec).symm
theorem xOf_some {ι : Type} {args : ι → List Arg} {res : ι → Option (List Arg)} {xs ys : List Arg} (h : xOf args res xs = some ys) : ∃ i, xs = args i ∧ res i = some ys := by
  unfold xOf at h
  split at h
  · rename_i hi
    exact ⟨hi.choose, hi.choose_spec, h⟩
  · cases h
def aItoa (a0 : Int) : List Arg := [.v (.at (.int .i64 a0))]
def rItoa (a0 : Int) : Option (List Arg) := (s_strconv_Itoa a0).bind fun r => some [.v (.at (.string r))]
def aJoin (i : List ByteArray × ByteArray) : List Arg := [.v (.sl 9 1 (List.map eS i.1)), .v (.at (.string i.2))]
def rJoin (i : List ByteArray × ByteArray) : Option (List Arg) := (s_strings_Join i.1 i.2).bind fun r => some [.v (.at (.string r))]
theorem aItoa_inj (i j : Int) (h : aItoa i = aItoa j) : i = j := by simpa [aItoa] using h
theorem aJoin_inj (i j : List ByteArray × ByteArray) (h : aJoin i = aJoin j) : i = j := by
  simp only [aJoin, List.cons.injEq, Arg.v.injEq, DT.sl.injEq, DT.at.injEq, Value.string.injEq, true_and, and_true] at h
  exact Prod.ext (map_inj eS_inj h.1) h.2
def XT : Fns := fun f xs => if f = 103 then xOf aItoa rItoa xs else if f = 136 then xOf aJoin rJoin xs else none
theorem x_s_strconv_Itoa (a0 : Int) : XT 103 (aItoa a0) = (s_strconv_Itoa a0).bind fun r => some [.v (.at (.string r))] := by
  unfold XT
  rw [if_pos rfl]
  exact xOf_at (fun i j h => aItoa_inj i j h) a0
theorem x_s_strings_Join (a0 : List ByteArray) (a1 : ByteArray) : XT 136 (aJoin (a0, a1)) = (s_strings_Join a0 a1).bind fun r => some [.v (.at (.string r))] := by
  unfold XT
  rw [if_neg (by decide), if_pos rfl]
  exact xOf_at (fun i j h => aJoin_inj i j h) (a0, a1)
abbrev TabW (w : World) : Prop := Lib.TabIs Tryz.prog w "internal/strconv.uint64pow10" .u64 Lib.pow10Tab
theorem gave_str {s : ByteArray} {w w' : World} (hx : Ext w w') : Gave [.v (.at (.string s))] w (.returned (.string s)) w' := ⟨[.string s], fun _ => none, rfl, hx, ⟨⟨0, rfl⟩, trivial⟩⟩
theorem rd_at_eq {R : Nat → Prop} {w : World} {v u : Value} (h : Rd R w v (.at u)) : v = u := by
  obtain ⟨n, h⟩ := h
  cases n <;> (unfold RdN at h; exact h)
theorem not_mut {Q : Prop} {f g : Nat} (h : f < 2 ^ 40) (hg : f = g + 2 ^ 40) : Q := absurd h (by rw [hg]; exact Nat.not_lt.2 (Nat.le_add_left _ _))
theorem XT_ok (w0 : World) (htab : TabW w0) : Sound Tryz.prog XT w0 := by
  intro f xs ys h
  unfold XT at h
  split at h
  · rename_i hf
    subst hf
    refine ⟨fun _ => ⟨fun _ _ => by kernel_rfl, fun w vs hx hv => ?_⟩, fun g hg => not_mut (by decide) hg⟩
    obtain ⟨a0, rfl, hr⟩ := xOf_some h
    unfold rItoa s_strconv_Itoa at hr
    split at hr
    · rename_i hb
      simp only [Option.bind_some, Option.some.injEq] at hr
      subst hr
      match vs, hv with
      | [v], ⟨h1, _⟩ =>
        have hv1 : v = .int .i64 a0 := rd_at_eq h1
        subst hv1
        have ht : TabW w := Go.Joins.tab_stays (g := 0) (by kernel_rfl) htab hx (Nat.le_refl _)
        refine (Tryz.strconv_Itoa a0 hb.1 hb.2 w ht).mono ?_
        rintro e w' ⟨rfl, k, os, rfl⟩
        exact gave_str (Lib.below_grow _ w (Nat.le_refl _) k os)
    · cases hr
  · split at h
    · rename_i hf
      subst hf
      refine ⟨fun _ => ⟨fun _ _ => by kernel_rfl, fun w vs hx hv => ?_⟩, fun g hg => not_mut (by decide) hg⟩
      obtain ⟨⟨l, sep⟩, rfl, hr⟩ := xOf_some h
      unfold rJoin s_strings_Join at hr
      dsimp only at hr
      split at hr
      · rename_i hb
        simp only [Option.bind_some, Option.some.injEq] at hr
        subst hr
        match vs, hv with
        | [v1, v2], ⟨h1, h2, _⟩ =>
          have hv2 : v2 = .string sep := rd_at_eq h2
          subst hv2
          obtain ⟨n, h1⟩ := h1
          cases n with
          | zero => unfold RdN at h1; exact h1.elim
          | succ n =>
            unfold RdN at h1
            obtain ⟨A, c, rfl, hl, hm, hi⟩ := h1
            simp only [List.length_map] at hl ⊢
            by_cases h0 : l = []
            · subst h0
              refine (Tryz.strings_Join_none A c sep w).mono ?_
              rintro e w' ⟨rfl, rfl⟩
              exact gave_str (Ext.refl _)
            · have hpos : 0 < l.length := List.length_pos_iff.2 h0
              obtain ⟨_, b, off, rfl, hbk, _⟩ := hi 0 (eS l[0]) (by simp [List.getElem?_map, List.getElem?_eq_getElem hpos])
              refine (Tryz.strings_Join b off c l sep w (fun j x hj => ?_) hbk (by omega) hl (by omega)).mono ?_
              · obtain ⟨_, b', off', hA, _, hcell⟩ := hi j (eS x) (by rw [List.getElem?_map, hj]; rfl)
                injection hA with hA
                injection hA with e1 e2
                subst e1; subst e2
                obtain ⟨u, hu, hur⟩ := hcell 0 (.at (.string x)) rfl
                have : u = .string x := by cases n <;> (unfold RdN at hur; exact hur)
                subst this
                simpa using hu
              · rintro e w' ⟨rfl, hbel⟩
                exact gave_str hbel
      · cases hr
    · cases h
end
end Go.Proofs.YtfianjolmcoadaaGreatDoor
