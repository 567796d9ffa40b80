/- Joined: Lw, LawEpochs. -/
import Derived.Test.YtifkepnfaggkiaaDoorRun
import Derived.Test.YtifkepnfaggkiaaDoorDw
import Derived.Test.YtifkepnfaggkiaaDoorReads
namespace Go.Proofs.YtifkepnfaggkiaaDoor
open Go.RowKit
theorem gave_at {u : Value} {w w' : World} {e : Ending} (h : Gave [.v (.at u)] w e w') : e = .returned u ∧ Ext w w' := by
  obtain ⟨vs, ω, rfl, hx, ho⟩ := h
  match vs, ho with
  | [v], ⟨⟨n, hv⟩, _⟩ =>
    have : v = u := by
      cases n <;> (unfold OwN at hv; exact hv)
    subst this
    exact ⟨rfl, hx⟩
  | _ :: _ :: _, ⟨_, h2⟩ => exact h2.elim
end Go.Proofs.YtifkepnfaggkiaaDoor

namespace Go.Proofs.YtifkepnfaggkiaaDoor
open Go.RowKit
set_option linter.unusedVariables false
set_option linter.unusedSimpArgs false
set_option maxRecDepth 100000

theorem scan_self {step : Int → Option (Int ⊕ (Int ⊕ Bool))} (l : List ByteArray) (hl : l.length ≤ 2 ^ 40) (hs : ∀ i : Nat, i < l.length → step (i : Int) = some (.inl (prims.arith .add .i64 (i : Int) 1))) (he : step (l.length : Int) = some (.inr (.inl (l.length : Int)))) : whileO step fuel 0 = some (.inl (l.length : Int)) := by
  have h := while_seq (step := step) (fun i => (i : Int)) (Sum.inl (l.length : Int)) l.length (by omega) (fun i hi => by rw [hs i hi, inc_ok i (by omega)]) he
  exact h
theorem sameTexts_self (l : List ByteArray) (hl : l.length ≤ 2 ^ 40) : s_laws_sameTexts l l = some true := by
  unfold s_laws_sameTexts
  rw [pl_neq]
  simp only [decide_true, Bool.not_true, cond_false]
  have hs : ∀ i : Nat, i < l.length → s_laws_sameTexts_l1 l l (i : Int) = some (.inl (prims.arith .add .i64 (i : Int) 1)) := fun i hi => by
    show (bif _ then _ else _) = _
    rw [lt_len eS hi, cond_true, nthI_at hi, Option.bind_some, Option.bind_some]
    have : prims.scmp .neq l[i] l[i] = false := by
      show (!(l[i].toList == l[i].toList)) = false
      simp
    rw [this]
    rfl
  have he : s_laws_sameTexts_l1 l l (l.length : Int) = some (.inr (.inl (l.length : Int))) := by
    show (bif _ then _ else _) = _
    rw [lt_end eS l]
    rfl
  rw [scan_self l hl hs he]
  rfl
theorem equal_self (l : List ByteArray) (hl : l.length ≤ 2 ^ 40) : s_slices_Equal_string l l = some true := by
  unfold s_slices_Equal_string
  rw [pl_neq]
  simp only [decide_true, Bool.not_true, cond_false]
  have hs : ∀ i : Nat, i < l.length → s_slices_Equal_string_l1 l l (i : Int) = some (.inl (prims.arith .add .i64 (i : Int) 1)) := fun i hi => by
    show (bif _ then _ else _) = _
    rw [lt_len eS hi, cond_true, nthI_at hi, Option.bind_some, Option.bind_some]
    have : prims.scmp .neq l[i] l[i] = false := by
      show (!(l[i].toList == l[i].toList)) = false
      simp
    rw [this]
    rfl
  have he : s_slices_Equal_string_l1 l l (l.length : Int) = some (.inr (.inl (l.length : Int))) := by
    show (bif _ then _ else _) = _
    rw [lt_end eS l]
    rfl
  rw [scan_self l hl hs he]
  rfl
theorem prefix_snoc (n : List ByteArray) (s : ByteArray) (hn : n.length ≤ 2 ^ 30) : s_impl_HasPrefix (n ++ [s]) n = some true := by
  unfold s_impl_HasPrefix
  rw [pl_leq, pl_int, pl_int, pl_len, pl_len]
  have h : decide ((n.length : Int) ≤ ((n ++ [s]).length : Int)) = true := by
    rw [decide_eq_true_eq, List.length_append]
    omega
  rw [h, cond_true, subI_tk (n ++ [s]) n.length (by rw [List.length_append]; omega), Option.bind_some, List.take_left' rfl, equal_self n (by omega)]
  rfl
theorem p_lawFnEpochs (x0 : List UInt8) : s_laws_FnEpochs x0 = some true := by
  unfold s_laws_FnEpochs s_laws_big
  rw [Option.bind_some, pl_gtr, pl_int, pl_len]
  by_cases hb : (1048576 : Int) < (x0.length : Int)
  · rw [decide_eq_true hb, cond_true]
  · rw [decide_eq_false hb, cond_false]
    obtain ⟨⟨x, n⟩, hd, ⟨he1, he2⟩, hn⟩ := drawEpochName_ok x0 (by omega)
    dsimp only at he1 he2 hn
    rw [hd, Option.bind_some]
    have hk : I64 x.epoch := ⟨by omega, by omega⟩
    have hn1 := hn.1
    have hN : NameOk (n ++ [epT x.epoch]) := by
      refine ⟨by simp only [List.length_append, List.length_cons, List.length_nil]; omega, fun s hs => ?_⟩
      rcases List.mem_append.1 hs with hs | hs
      · have := hn.2 s hs; omega
      · rw [List.mem_singleton] at hs; rw [hs]; exact epT_size _ hk
    have hl := itoa_len _ hk
    have e : prims.scat (ByteArray.mk (Array.mk [101])) (bs (Go.Lib.itoa x.epoch)) = epT x.epoch := scat_bs [101] _
    show ((s_impl_EpochName x n).bind _) = _
    rw [p_impl_EpochName x n (by omega) hk hN, Option.bind_some]
    show ((s_spec_EpochName x n).bind _) = _
    rw [p_spec_EpochName x n (by omega) hk hN, Option.bind_some]
    have hA : (appL n (epT x.epoch)).length ≤ 2 ^ 40 := by
      unfold appL
      split
      · simp only [List.length_append, List.length_cons, List.length_nil]; omega
      · omega
    show ((s_laws_sameName (appL n (epT x.epoch)) (appL n (epT x.epoch))).bind _) = _
    have hsn : s_laws_sameName (appL n (epT x.epoch)) (appL n (epT x.epoch)) = some true := by
      unfold s_laws_sameName
      rw [sameTexts_self _ hA]
      rfl
    rw [hsn, Option.bind_some]
    cases hv : vName (n ++ [epT x.epoch]) with
    | false => rfl
    | true =>
      have ha : appL n (epT x.epoch) = n ++ [epT x.epoch] := if_pos hv
      rw [ha]
      show ((s_impl_HasPrefix (n ++ [epT x.epoch]) n).bind _) = _
      rw [prefix_snoc n _ (by omega), Option.bind_some, cond_true]
      have hr : prims.ridx 0 (prims.len (List.map eS (n ++ [epT x.epoch]))) (prims.int (prims.len (List.map eS n))) = some n.length := by
        rw [pl_int, pl_len, pl_len, pl_ridx, if_pos (by simp only [List.length_append, List.length_cons, List.length_nil]; omega)]
      rw [hr, Option.bind_some, List.getElem?_append_right (Nat.le_refl _), Nat.sub_self]
      show ((s_impl_FormatInt x.epoch).bind _) = _
      rw [p_impl_FormatInt _ hk, Option.bind_some, bs_mk, catOk_bs [101] (Go.Lib.itoa x.epoch) (by simp only [List.length_cons, List.length_nil]; omega), cond_true, scat_bs]
      show some ((epT x.epoch).toList == (bs ([101] ++ Go.Lib.itoa x.epoch)).toList) = some true
      have : epT x.epoch = bs ([101] ++ Go.Lib.itoa x.epoch) := rfl
      rw [this]
      simp

theorem lawFnEpochs (v0 : Value) (x0 : (List UInt8)) (w : World) (h0 : sBytes.rd w [v0] x0) (htab : TabW w) :
    Calls Tryd.prog 3 #[v0] w fun e w' => e = .returned (.bool true) ∧ Ext w w' := by
  have hh : FT 11 3 [.v (.sl 5 1 (List.map eY x0))] = (s_laws_FnEpochs x0).bind fun r => some [.v (.at (.bool r))] := (h_G19 11 (Nat.le_refl _)).a3 x0
  rw [p_lawFnEpochs x0] at hh
  exact (((FT_ok w (XT_ok w htab) _ _ _ _ hh).1 (by decide)).2 w [v0] (bs0_ext (Ext.refl w)) ⟨argRd_one ((Enc.sl 5 Enc.byte (by decide)) w [v0] x0 h0), trivial⟩).mono fun e w' he => gave_at he
end Go.Proofs.YtifkepnfaggkiaaDoor
