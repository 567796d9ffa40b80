/- Types and facts about their lists. Printed by genshal.py. -/
import Derived.Test.YtfianjolmcoadaaDoorShal
import Derived.Test.YtfianjolmcoadaaDoorEnc
import Derived.Shelf.Strconv.Itoa3
import Derived.Test.YtfianjolmcoadaaDoorFamRaw
namespace Go.Proofs.YtfianjolmcoadaaDoor
open Go.RowKit
set_option linter.unusedVariables false
set_option linter.unusedSimpArgs false
set_option maxRecDepth 100000
noncomputable section

def eName (x : (List ByteArray)) : List DT := [.sl 9 1 (List.map eS x)]
def eStateVector (x : (List DTableEntry)) : List DT := [.sl 124 2 (List.map eTableEntry x)]
noncomputable def EvF (F : Fns) (f : Func) (live : Nat → List Nat) (xs : List Arg) : Option (List Arg) := evBody prims (fun F lv => aloop F lv fuel) TY F ⟨f, f.body.getD .skip, live⟩ xs
theorem addn0F_Link : ∀ (l : List DLink), prims.addN 0 (prims.rlen (prims.opn (List.map eLink l))) = prims.len (List.map eLink l) := addn0_gen eLink
theorem addn0F_string : ∀ (l : List ByteArray), prims.addN 0 (prims.rlen (prims.opn (List.map eS l))) = prims.len (List.map eS l) := addn0_gen eS
theorem fits0F_Link : ∀ b : Nat, prims.fits 0 (prims.rlen (prims.opn (List.map eLink []))) b = true := fits0_gen eLink
theorem fits0F_string : ∀ b : Nat, prims.fits 0 (prims.rlen (prims.opn (List.map eS []))) b = true := fits0_gen eS
theorem len0F_Link : prims.len (List.map eLink []) = 0 := rfl
theorem len0F_Member : prims.len (List.map eMember []) = 0 := rfl
theorem lendF_Link : ∀ (s : Bool) (l : List DLink), prims.lend s (List.map eLink l) = some (prims.opn (List.map eLink l)) := lend_gen eLink (fun _ _ => rfl)
theorem lendF_string : ∀ (s : Bool) (l : List ByteArray), prims.lend s (List.map eS l) = some (prims.opn (List.map eS l)) := lend_gen eS (fun _ _ => rfl)
theorem leniF_Link : ∀ (l : List DLink), prims.len (List.map eLink l) = 0 → l = [] := leni_gen eLink
theorem leniF_string : ∀ (l : List ByteArray), prims.len (List.map eS l) = 0 → l = [] := leni_gen eS
theorem litF_Member : ∀ (z0 : (List ByteArray)) (z1 : (List DTableEntry)) (z2 : (List DPublication)), [[Cell.own 9 1 (List.map eS z0), .own 124 2 (List.map eTableEntry z1), .own 126 3 (List.map ePublication z2)]] = prims.opn (List.map eMember [(⟨z0, z1, z2⟩ : DMember)]) := fun z0 z1 z2 => rfl
theorem mconsF_byte : ∀ (z0 : UInt8) (l : List UInt8), List.map eY (z0 :: l) = [.at (.int .u8 (prims.yI z0))] :: List.map eY l := fun z0 l => rfl
theorem mconsF_int : ∀ (z0 : Int) (l : List Int), List.map eI (z0 :: l) = [.at (.int .i64 z0)] :: List.map eI l := fun z0 l => rfl
theorem mconsF_string : ∀ (z0 : ByteArray) (l : List ByteArray), List.map eS (z0 :: l) = [.at (.string z0)] :: List.map eS l := fun z0 l => rfl
theorem mknF_Link : ∀ (a b : Int) (c : Nat), prims.mkN a b c = match mkSl ((⟨0, 0⟩ : DLink) : DLink) a b c with | none => none | some y => some (prims.len (List.map eLink y)) := fun a b c => (mkn_gen eLink ((⟨0, 0⟩ : DLink) : DLink) a b c).trans (by cases mkSl ((⟨0, 0⟩ : DLink) : DLink) a b c <;> rfl)
theorem nildF_Link : List.map eLink [] = [] := rfl
theorem nildF_Member : List.map eMember [] = [] := rfl
theorem nildF_Publication : List.map ePublication [] = [] := rfl
theorem nildF_TableEntry : List.map eTableEntry [] = [] := rfl
theorem nildF_byte : List.map eY [] = [] := rfl
theorem nildF_int : List.map eI [] = [] := rfl
theorem nildF_string : List.map eS [] = [] := rfl
theorem nthF_Link : ∀ (l : List DLink) (i : Int), prims.nth (List.map eLink l) i = match nthI l i with | none => none | some x => some [.at (.int .i64 x.a), .at (.int .i64 x.b)] := fun l i => (nth_gen eLink l i).trans (by cases nthI l i <;> rfl)
theorem nthF_Member : ∀ (l : List DMember) (i : Int), prims.nth (List.map eMember l) i = match nthI l i with | none => none | some x => some [.sl 9 1 (List.map eS x.name), .sl 124 2 (List.map eTableEntry x.vector), .sl 126 3 (List.map ePublication x.publications)] := fun l i => (nth_gen eMember l i).trans (by cases nthI l i <;> rfl)
theorem nthF_Publication : ∀ (l : List DPublication) (i : Int), prims.nth (List.map ePublication l) i = match nthI l i with | none => none | some x => some [.sl 9 1 (List.map eS x.publisher), .at (.int .i64 x.seq), .sl 5 1 (List.map eY x.content)] := fun l i => (nth_gen ePublication l i).trans (by cases nthI l i <;> rfl)
theorem nthF_TableEntry : ∀ (l : List DTableEntry) (i : Int), prims.nth (List.map eTableEntry l) i = match nthI l i with | none => none | some x => some [.sl 9 1 (List.map eS x.name), .at (.int .i64 x.value)] := fun l i => (nth_gen eTableEntry l i).trans (by cases nthI l i <;> rfl)
theorem nthF_byte : ∀ (l : List UInt8) (i : Int), prims.nth (List.map eY l) i = match nthI l i with | none => none | some x => some [.at (.int .u8 (prims.yI x))] := fun l i => (nth_gen eY l i).trans (by cases nthI l i <;> rfl)
theorem nthF_int : ∀ (l : List Int) (i : Int), prims.nth (List.map eI l) i = match nthI l i with | none => none | some x => some [.at (.int .i64 x)] := fun l i => (nth_gen eI l i).trans (by cases nthI l i <;> rfl)
theorem nthF_string : ∀ (l : List ByteArray) (i : Int), prims.nth (List.map eS l) i = match nthI l i with | none => none | some x => some [.at (.string x)] := fun l i => (nth_gen eS l i).trans (by cases nthI l i <;> rfl)
theorem opn0F_Link : prims.opn (List.map eLink []) = [] := rfl
theorem opn0F_Member : prims.opn (List.map eMember []) = [] := rfl
theorem rapp0F_Link : ∀ (l : List DLink), prims.rapp [] (prims.opn (List.map eLink l)) = prims.opn (List.map eLink l) := fun _ => rfl
theorem rapp0F_string : ∀ (l : List ByteArray), prims.rapp [] (prims.opn (List.map eS l)) = prims.opn (List.map eS l) := fun _ => rfl
theorem repF_Link : ∀ (a b : Int) (c : Nat) {l : List DLink}, mkSl ((⟨0, 0⟩ : DLink) : DLink) a b c = some l → prims.rep (prims.len (List.map eLink l)) [.at (.int .i64 0), .at (.int .i64 0)] = prims.opn (List.map eLink l) := fun a b c l h => rep_gen eLink ((⟨0, 0⟩ : DLink) : DLink) a b c l h
theorem rnthF_Link : ∀ (l : List DLink) (j : Nat), prims.rnth (prims.opn (List.map eLink l)) j = match l[j]? with | none => none | some x => some [.at (.int .i64 x.a), .at (.int .i64 x.b)] := fun l j => (rnth_gen eLink l j).trans (by cases l[j]? <;> rfl)
theorem rsetF_Link : ∀ (l : List DLink) (j : Nat) (z0 : Int) (z1 : Int), prims.rset (prims.opn (List.map eLink l)) j [.at (.int .i64 z0), .at (.int .i64 z1)] = prims.opn (List.map eLink (l.set j (⟨z0, z1⟩ : DLink))) := fun l j z0 z1 => rset_gen eLink l j (⟨z0, z1⟩ : DLink)
theorem strF_byte : ∀ (l : List UInt8), prims.str (List.map eY l) = some (prims.ofB l) := str_gen
theorem wyF_byte : ∀ x : Int, prims.wrap .u8 x = prims.yI (prims.byW x) := wy_gen
end
end Go.Proofs.YtfianjolmcoadaaDoor
