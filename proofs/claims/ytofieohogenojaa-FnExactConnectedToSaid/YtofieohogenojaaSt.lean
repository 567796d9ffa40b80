/- Types and facts about their lists. Printed by genshal.py. -/
import Derived.Test.YtofieohogenojaaShal
import Derived.Test.YtofieohogenojaaEnc
namespace Go.Proofs.Ytofieohogenojaa
open Go.RowKit
set_option linter.unusedVariables false
set_option linter.unusedSimpArgs false
set_option maxRecDepth 100000
noncomputable section

def eName (x : (List ByteArray)) : List DT := [.sl 9 1 (List.map eS x)]
structure DAdvertisement where
  origin : Int
  version : Int
  neighbors : (List Int)
  prefixes : (List (List ByteArray))
def eAdvertisement (x : DAdvertisement) : List DT := [.at (.int .i64 x.origin), .at (.int .i64 x.version), .sl 3 1 (List.map eI x.neighbors), .sl 37 1 (List.map eName x.prefixes)]
def eStateVector (x : (List DTableEntry)) : List DT := [.sl 128 2 (List.map eTableEntry x)]
theorem addnF_Advertisement : ∀ (a b : List DAdvertisement), prims.addN (prims.len (List.map eAdvertisement a)) (prims.rlen (prims.opn (List.map eAdvertisement b))) = prims.len (List.map eAdvertisement (a ++ b)) := addn_gen eAdvertisement
theorem addnF_Link : ∀ (a b : List DLink), prims.addN (prims.len (List.map eLink a)) (prims.rlen (prims.opn (List.map eLink b))) = prims.len (List.map eLink (a ++ b)) := addn_gen eLink
theorem addnF_Name : ∀ (a b : List (List ByteArray)), prims.addN (prims.len (List.map eName a)) (prims.rlen (prims.opn (List.map eName b))) = prims.len (List.map eName (a ++ b)) := addn_gen eName
theorem addnF_int : ∀ (a b : List Int), prims.addN (prims.len (List.map eI a)) (prims.rlen (prims.opn (List.map eI b))) = prims.len (List.map eI (a ++ b)) := addn_gen eI
theorem addn0F_string : ∀ (l : List ByteArray), prims.addN 0 (prims.rlen (prims.opn (List.map eS l))) = prims.len (List.map eS l) := addn0_gen eS
theorem cpyF_int : ∀ (a : List Int) (i n : Nat) (b : List Int), prims.copy (prims.opn (List.map eI a)) i n (List.map eI b) = match copyI a i n b with | none => none | some y => some (y.1, prims.opn (List.map eI y.2)) := fun a i n b => (cpy_gen eI (fun _ => rfl) a i n b).trans (by cases copyI a i n b <;> rfl)
theorem fits0F_string : ∀ b : Nat, prims.fits 0 (prims.rlen (prims.opn (List.map eS []))) b = true := fits0_gen eS
theorem frzF_Advertisement : ∀ (l : List DAdvertisement), prims.frz (prims.opn (List.map eAdvertisement l)) 0 (prims.len (List.map eAdvertisement l)) = some (List.map eAdvertisement l) := frz_gen eAdvertisement (fun _ => rfl)
theorem frzF_Link : ∀ (l : List DLink), prims.frz (prims.opn (List.map eLink l)) 0 (prims.len (List.map eLink l)) = some (List.map eLink l) := frz_gen eLink (fun _ => rfl)
theorem frzsF_int : ∀ (l : List Int) (i n : Nat), prims.frz (prims.opn (List.map eI l)) i n = match partI l i n with | none => none | some y => some (List.map eI y) := fun l i n => (frzs_gen eI (fun _ => rfl) l i n).trans (by cases partI l i n <;> rfl)
theorem fullF_Advertisement : ∀ (l : List DAdvertisement), prims.full 0 (prims.len (List.map eAdvertisement l)) (prims.opn (List.map eAdvertisement l)) = true := full_gen eAdvertisement
theorem fullF_Link : ∀ (l : List DLink), prims.full 0 (prims.len (List.map eLink l)) (prims.opn (List.map eLink l)) = true := full_gen eLink
theorem fullF_Name : ∀ (l : List (List ByteArray)), prims.full 0 (prims.len (List.map eName l)) (prims.opn (List.map eName l)) = true := full_gen eName
theorem fullF_int : ∀ (l : List Int), prims.full 0 (prims.len (List.map eI l)) (prims.opn (List.map eI l)) = true := full_gen eI
theorem fullF_string : ∀ (l : List ByteArray), prims.full 0 (prims.len (List.map eS l)) (prims.opn (List.map eS l)) = true := full_gen eS
theorem lcpyF_int : ∀ (a : List Int) (i n : Nat) (b : List Int) (y : Nat × List Int), copyI a i n b = some y → prims.len (List.map eI y.2) = prims.len (List.map eI a) := lcpy_gen eI
theorem len0F_Advertisement : prims.len (List.map eAdvertisement []) = 0 := rfl
theorem len0F_Link : prims.len (List.map eLink []) = 0 := rfl
theorem len0F_Name : prims.len (List.map eName []) = 0 := rfl
theorem len0F_int : prims.len (List.map eI []) = 0 := rfl
theorem lencF_int : ∀ (x : Int) (l : List Int), prims.len (List.map eI (x :: l)) = prims.len (List.map eI l) + 1 := fun _ _ => rfl
theorem lendF_string : ∀ (s : Bool) (l : List ByteArray), prims.lend s (List.map eS l) = some (prims.opn (List.map eS l)) := lend_gen eS (fun _ _ => rfl)
theorem leniF_string : ∀ (l : List ByteArray), prims.len (List.map eS l) = 0 → l = [] := leni_gen eS
theorem litF_Advertisement : ∀ (z0 : Int) (z1 : Int) (z2 : (List Int)) (z3 : (List (List ByteArray))), [[Cell.at (.int .i64 z0), .at (.int .i64 z1), .own 3 1 (List.map eI z2), .own 37 1 (List.map eName z3)]] = prims.opn (List.map eAdvertisement [(⟨z0, z1, z2, z3⟩ : DAdvertisement)]) := fun z0 z1 z2 z3 => rfl
theorem litF_Link : ∀ (z0 : Int) (z1 : Int), [[Cell.at (.int .i64 z0), .at (.int .i64 z1)]] = prims.opn (List.map eLink [(⟨z0, z1⟩ : DLink)]) := fun z0 z1 => rfl
theorem litF_Name : ∀ (z0 : (List ByteArray)), [[Cell.own 9 1 (List.map eS z0)]] = prims.opn (List.map eName [z0]) := fun z0 => rfl
theorem litF_int : ∀ (z0 : Int), [[Cell.at (.int .i64 z0)]] = prims.opn (List.map eI [z0]) := fun z0 => rfl
theorem lsetF_int : ∀ (a : List Int) (j : Nat) (x : Int), prims.len (List.map eI (a.set j x)) = prims.len (List.map eI a) := lset_gen eI
theorem mconsF_Advertisement : ∀ (z0 : Int) (z1 : Int) (z2 : (List Int)) (z3 : (List (List ByteArray))) (l : List DAdvertisement), List.map eAdvertisement ((⟨z0, z1, z2, z3⟩ : DAdvertisement) :: l) = [.at (.int .i64 z0), .at (.int .i64 z1), .sl 3 1 (List.map eI z2), .sl 37 1 (List.map eName z3)] :: List.map eAdvertisement l := fun z0 z1 z2 z3 l => rfl
theorem mconsF_int : ∀ (z0 : Int) (l : List Int), List.map eI (z0 :: l) = [.at (.int .i64 z0)] :: List.map eI l := fun z0 l => rfl
theorem mknF_int : ∀ (a b : Int) (c : Nat), prims.mkN a b c = match mkSl (0 : Int) a b c with | none => none | some y => some (prims.len (List.map eI y)) := fun a b c => (mkn_gen eI (0 : Int) a b c).trans (by cases mkSl (0 : Int) a b c <;> rfl)
theorem nildF_Advertisement : List.map eAdvertisement [] = [] := rfl
theorem nildF_TableEntry : List.map eTableEntry [] = [] := rfl
theorem nildF_int : List.map eI [] = [] := rfl
theorem nildF_string : List.map eS [] = [] := rfl
theorem nthF_Advertisement : ∀ (l : List DAdvertisement) (i : Int), prims.nth (List.map eAdvertisement l) i = match nthI l i with | none => none | some x => some [.at (.int .i64 x.origin), .at (.int .i64 x.version), .sl 3 1 (List.map eI x.neighbors), .sl 37 1 (List.map eName x.prefixes)] := fun l i => (nth_gen eAdvertisement l i).trans (by cases nthI l i <;> rfl)
theorem nthF_Link : ∀ (l : List DLink) (i : Int), prims.nth (List.map eLink l) i = match nthI l i with | none => none | some x => some [.at (.int .i64 x.a), .at (.int .i64 x.b)] := fun l i => (nth_gen eLink l i).trans (by cases nthI l i <;> rfl)
theorem nthF_TableEntry : ∀ (l : List DTableEntry) (i : Int), prims.nth (List.map eTableEntry l) i = match nthI l i with | none => none | some x => some [.sl 9 1 (List.map eS x.name), .at (.int .i64 x.value)] := fun l i => (nth_gen eTableEntry l i).trans (by cases nthI l i <;> rfl)
theorem nthF_int : ∀ (l : List Int) (i : Int), prims.nth (List.map eI l) i = match nthI l i with | none => none | some x => some [.at (.int .i64 x)] := fun l i => (nth_gen eI l i).trans (by cases nthI l i <;> rfl)
theorem opn0F_Advertisement : prims.opn (List.map eAdvertisement []) = [] := rfl
theorem opn0F_Link : prims.opn (List.map eLink []) = [] := rfl
theorem opn0F_Name : prims.opn (List.map eName []) = [] := rfl
theorem opn0F_int : prims.opn (List.map eI []) = [] := rfl
theorem opncF_int : ∀ (z0 : Int) (l : List Int), prims.opn (List.map eI (z0 :: l)) = [Cell.at (.int .i64 z0)] :: prims.opn (List.map eI l) := fun z0 l => rfl
theorem ownF_Advertisement : ∀ (l : List DAdvertisement), prims.own (prims.opn (List.map eAdvertisement l)) = some (List.map eAdvertisement l) := own_gen eAdvertisement (fun _ => rfl)
theorem ownF_Link : ∀ (l : List DLink), prims.own (prims.opn (List.map eLink l)) = some (List.map eLink l) := own_gen eLink (fun _ => rfl)
theorem ownF_Name : ∀ (l : List (List ByteArray)), prims.own (prims.opn (List.map eName l)) = some (List.map eName l) := own_gen eName (fun _ => rfl)
theorem ownF_int : ∀ (l : List Int), prims.own (prims.opn (List.map eI l)) = some (List.map eI l) := own_gen eI (fun _ => rfl)
theorem ownF_string : ∀ (l : List ByteArray), prims.own (prims.opn (List.map eS l)) = some (List.map eS l) := own_gen eS (fun _ => rfl)
theorem rappF_Advertisement : ∀ (a b : List DAdvertisement), prims.rapp (prims.opn (List.map eAdvertisement a)) (prims.opn (List.map eAdvertisement b)) = prims.opn (List.map eAdvertisement (a ++ b)) := rapp_gen eAdvertisement
theorem rappF_Link : ∀ (a b : List DLink), prims.rapp (prims.opn (List.map eLink a)) (prims.opn (List.map eLink b)) = prims.opn (List.map eLink (a ++ b)) := rapp_gen eLink
theorem rappF_Name : ∀ (a b : List (List ByteArray)), prims.rapp (prims.opn (List.map eName a)) (prims.opn (List.map eName b)) = prims.opn (List.map eName (a ++ b)) := rapp_gen eName
theorem rappF_int : ∀ (a b : List Int), prims.rapp (prims.opn (List.map eI a)) (prims.opn (List.map eI b)) = prims.opn (List.map eI (a ++ b)) := rapp_gen eI
theorem rapp0F_string : ∀ (l : List ByteArray), prims.rapp [] (prims.opn (List.map eS l)) = prims.opn (List.map eS l) := fun _ => rfl
theorem repF_int : ∀ (a b : Int) (c : Nat) {l : List Int}, mkSl (0 : Int) a b c = some l → prims.rep (prims.len (List.map eI l)) [.at (.int .i64 0)] = prims.opn (List.map eI l) := fun a b c l h => rep_gen eI _ a b c l h
theorem rnthF_int : ∀ (l : List Int) (j : Nat), prims.rnth (prims.opn (List.map eI l)) j = match l[j]? with | none => none | some x => some [.at (.int .i64 x)] := fun l j => (rnth_gen eI l j).trans (by cases l[j]? <;> rfl)
theorem rsetF_int : ∀ (l : List Int) (j : Nat) (z0 : Int), prims.rset (prims.opn (List.map eI l)) j [.at (.int .i64 z0)] = prims.opn (List.map eI (l.set j z0)) := fun l j z0 => rset_gen eI l j _
end
end Go.Proofs.Ytofieohogenojaa
