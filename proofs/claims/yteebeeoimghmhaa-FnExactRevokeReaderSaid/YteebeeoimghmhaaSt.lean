/- Types and facts about their lists. Printed by genshal.py. -/
import Derived.Test.YteebeeoimghmhaaShal
import Derived.Test.YteebeeoimghmhaaEnc
import Derived.Test.YteebeeoimghmhaaFamRaw
namespace Go.Proofs.Yteebeeoimghmhaa
open Go.RowKit
set_option linter.unusedVariables false
set_option linter.unusedSimpArgs false
set_option maxRecDepth 100000
noncomputable section

def eName (x : (List ByteArray)) : List DT := [.sl 9 1 (List.map eS x)]
def alp : Looper (List Arg) := fun F lv => aloop F lv fuel
noncomputable def EvF (F : Fns) (f : Func) (live : Nat → List Nat) (xs : List Arg) : Option (List Arg) := evBody prims alp TY F ⟨f, f.body.getD .skip, live⟩ xs
theorem addn0F_string : ∀ (l : List ByteArray), prims.addN 0 (prims.rlen (prims.opn (List.map eS l))) = prims.len (List.map eS l) := addn0_gen eS
theorem fits0F_string : ∀ b : Nat, prims.fits 0 (prims.rlen (prims.opn (List.map eS []))) b = true := fits0_gen eS
theorem len0F_Key : prims.len (List.map eKey []) = 0 := rfl
theorem len0F_Reader : prims.len (List.map eReader []) = 0 := rfl
theorem lendF_string : ∀ (s : Bool) (l : List ByteArray), prims.lend s (List.map eS l) = some (prims.opn (List.map eS l)) := lend_gen eS (fun _ _ => rfl)
theorem leniF_string : ∀ (l : List ByteArray), prims.len (List.map eS l) = 0 → l = [] := leni_gen eS
theorem litF_Key : ∀ (z0 : (List ByteArray)) (z1 : Int), [[Cell.own 9 1 (List.map eS z0), .at (.int .i64 z1)]] = prims.opn (List.map eKey [(⟨z0, z1⟩ : DKey)]) := fun z0 z1 => rfl
theorem litF_Reader : ∀ (z0 : Int) (z1 : (List ByteArray)) (z2 : Int), [[Cell.at (.int .i64 z0), .own 9 1 (List.map eS z1), .at (.int .i64 z2)]] = prims.opn (List.map eReader [(⟨z0, z1, z2⟩ : DReader)]) := fun z0 z1 z2 => rfl
theorem mconsF_byte : ∀ (z0 : UInt8) (l : List UInt8), List.map eY (z0 :: l) = [.at (.int .u8 (prims.yI z0))] :: List.map eY l := fun z0 l => rfl
theorem mknF_Key : ∀ (a b : Int) (c : Nat), prims.mkN a b c = match mkSl ((⟨[], 0⟩ : DKey) : DKey) a b c with | none => none | some y => some (prims.len (List.map eKey y)) := fun a b c => (mkn_gen eKey ((⟨[], 0⟩ : DKey) : DKey) a b c).trans (by cases mkSl ((⟨[], 0⟩ : DKey) : DKey) a b c <;> rfl)
theorem mknF_Reader : ∀ (a b : Int) (c : Nat), prims.mkN a b c = match mkSl ((⟨0, [], 0⟩ : DReader) : DReader) a b c with | none => none | some y => some (prims.len (List.map eReader y)) := fun a b c => (mkn_gen eReader ((⟨0, [], 0⟩ : DReader) : DReader) a b c).trans (by cases mkSl ((⟨0, [], 0⟩ : DReader) : DReader) a b c <;> rfl)
theorem mknF_string : ∀ (a b : Int) (c : Nat), prims.mkN a b c = match mkSl ((ByteArray.mk (Array.mk [])) : ByteArray) a b c with | none => none | some y => some (prims.len (List.map eS y)) := fun a b c => (mkn_gen eS ((ByteArray.mk (Array.mk [])) : ByteArray) a b c).trans (by cases mkSl ((ByteArray.mk (Array.mk [])) : ByteArray) a b c <;> rfl)
theorem nildF_byte : List.map eY [] = [] := rfl
theorem nildF_string : List.map eS [] = [] := rfl
theorem nthF_Key : ∀ (l : List DKey) (i : Int), prims.nth (List.map eKey l) i = match nthI l i with | none => none | some x => some [.sl 9 1 (List.map eS x.name), .at (.int .i64 x.secret)] := fun l i => (nth_gen eKey l i).trans (by cases nthI l i <;> rfl)
theorem nthF_Reader : ∀ (l : List DReader) (i : Int), prims.nth (List.map eReader l) i = match nthI l i with | none => none | some x => some [.at (.int .i64 x.node), .sl 9 1 (List.map eS x.name), .at (.int .i64 x.epoch)] := fun l i => (nth_gen eReader l i).trans (by cases nthI l i <;> rfl)
theorem nthF_string : ∀ (l : List ByteArray) (i : Int), prims.nth (List.map eS l) i = match nthI l i with | none => none | some x => some [.at (.string x)] := fun l i => (nth_gen eS l i).trans (by cases nthI l i <;> rfl)
theorem opn0F_Key : prims.opn (List.map eKey []) = [] := rfl
theorem opn0F_Reader : prims.opn (List.map eReader []) = [] := rfl
theorem rapp0F_string : ∀ (l : List ByteArray), prims.rapp [] (prims.opn (List.map eS l)) = prims.opn (List.map eS l) := fun _ => rfl
theorem repF_Key : ∀ (a b : Int) (c : Nat) {l : List DKey}, mkSl ((⟨[], 0⟩ : DKey) : DKey) a b c = some l → prims.rep (prims.len (List.map eKey l)) [.own 9 1 [], .at (.int .i64 0)] = prims.opn (List.map eKey l) := fun a b c l h => rep_gen eKey ((⟨[], 0⟩ : DKey) : DKey) a b c l h
theorem repF_Reader : ∀ (a b : Int) (c : Nat) {l : List DReader}, mkSl ((⟨0, [], 0⟩ : DReader) : DReader) a b c = some l → prims.rep (prims.len (List.map eReader l)) [.at (.int .i64 0), .own 9 1 [], .at (.int .i64 0)] = prims.opn (List.map eReader l) := fun a b c l h => rep_gen eReader ((⟨0, [], 0⟩ : DReader) : DReader) a b c l h
theorem repF_string : ∀ (a b : Int) (c : Nat) {l : List ByteArray}, mkSl ((ByteArray.mk (Array.mk [])) : ByteArray) a b c = some l → prims.rep (prims.len (List.map eS l)) [.at (.string (ByteArray.mk (Array.mk [])))] = prims.opn (List.map eS l) := fun a b c l h => rep_gen eS ((ByteArray.mk (Array.mk [])) : ByteArray) a b c l h
theorem rnthF_Key : ∀ (l : List DKey) (j : Nat), prims.rnth (prims.opn (List.map eKey l)) j = match l[j]? with | none => none | some x => some [.own 9 1 (List.map eS x.name), .at (.int .i64 x.secret)] := fun l j => (rnth_gen eKey l j).trans (by cases l[j]? <;> rfl)
theorem rnthF_Reader : ∀ (l : List DReader) (j : Nat), prims.rnth (prims.opn (List.map eReader l)) j = match l[j]? with | none => none | some x => some [.at (.int .i64 x.node), .own 9 1 (List.map eS x.name), .at (.int .i64 x.epoch)] := fun l j => (rnth_gen eReader l j).trans (by cases l[j]? <;> rfl)
theorem rnthF_string : ∀ (l : List ByteArray) (j : Nat), prims.rnth (prims.opn (List.map eS l)) j = match l[j]? with | none => none | some x => some [.at (.string x)] := fun l j => (rnth_gen eS l j).trans (by cases l[j]? <;> rfl)
theorem rsetF_Key : ∀ (l : List DKey) (j : Nat) (z0 : (List ByteArray)) (z1 : Int), prims.rset (prims.opn (List.map eKey l)) j [.own 9 1 (List.map eS z0), .at (.int .i64 z1)] = prims.opn (List.map eKey (l.set j (⟨z0, z1⟩ : DKey))) := fun l j z0 z1 => rset_gen eKey l j (⟨z0, z1⟩ : DKey)
theorem rsetF_Reader : ∀ (l : List DReader) (j : Nat) (z0 : Int) (z1 : (List ByteArray)) (z2 : Int), prims.rset (prims.opn (List.map eReader l)) j [.at (.int .i64 z0), .own 9 1 (List.map eS z1), .at (.int .i64 z2)] = prims.opn (List.map eReader (l.set j (⟨z0, z1, z2⟩ : DReader))) := fun l j z0 z1 z2 => rset_gen eReader l j (⟨z0, z1, z2⟩ : DReader)
theorem rsetF_string : ∀ (l : List ByteArray) (j : Nat) (z0 : ByteArray), prims.rset (prims.opn (List.map eS l)) j [.at (.string z0)] = prims.opn (List.map eS (l.set j z0)) := fun l j z0 => rset_gen eS l j z0
theorem strF_byte : ∀ (l : List UInt8), prims.str (List.map eY l) = some (prims.ofB l) := str_gen
theorem subF_string : ∀ (l : List ByteArray) (lo hi : Option Int), prims.sub (List.map eS l) lo hi = match subI l lo hi with | none => none | some y => some (List.map eS y) := fun l lo hi => (sub_gen eS l lo hi).trans (by cases subI l lo hi <;> rfl)
theorem wyF_byte : ∀ x : Int, prims.wrap .u8 x = prims.yI (prims.byW x) := wy_gen
end
end Go.Proofs.Yteebeeoimghmhaa
