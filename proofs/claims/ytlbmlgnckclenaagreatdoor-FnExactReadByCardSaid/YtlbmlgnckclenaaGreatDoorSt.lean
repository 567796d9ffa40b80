/- Types and facts about their lists. Printed by genshal.py. -/
import Derived.Test.YtlbmlgnckclenaaGreatDoorShal
import Derived.Test.YtlbmlgnckclenaaGreatDoorEnc
import Derived.Shelf.Strconv.Itoa3
import Derived.Test.YtlbmlgnckclenaaGreatDoorFamRaw
namespace Go.Proofs.YtlbmlgnckclenaaGreatDoor
open Go.RowKit
set_option linter.unusedVariables false
set_option linter.unusedSimpArgs false
set_option maxRecDepth 100000
noncomputable section

def eName (x : (List ByteArray)) : List DT := [.sl 9 1 (List.map eS x)]
structure DGrant where
  name : (List ByteArray)
  secret : Int
def eGrant (x : DGrant) : List DT := [.sl 9 1 (List.map eS x.name), .at (.int .i64 x.secret)]
def eLint (x : (List Int)) : List DT := [.sl 3 1 (List.map eI x)]
def alp : Looper (List Arg) := fun F lv => aloop F lv fuel
noncomputable def EvV (F : Fns) (f : Func) (live : Nat → List Nat) (xs : List Arg) : Option (List Arg) := evBodyV prims alp TY F ⟨f, f.body.getD .skip, live⟩ xs
noncomputable def EvF (F : Fns) (f : Func) (live : Nat → List Nat) (xs : List Arg) : Option (List Arg) := evBody prims alp TY F ⟨f, f.body.getD .skip, live⟩ xs
theorem addn0F_byte : ∀ (l : List UInt8), prims.addN 0 (prims.rlen (prims.opn (List.map eY l))) = prims.len (List.map eY l) := addn0_gen eY
theorem addn0F_string : ∀ (l : List ByteArray), prims.addN 0 (prims.rlen (prims.opn (List.map eS l))) = prims.len (List.map eS l) := addn0_gen eS
theorem addncF_int : ∀ (z0 : Int) (l : List Int), prims.addN 1 (prims.rlen (prims.opn (List.map eI l))) = prims.len (List.map eI ([z0] ++ l)) := fun z0 l => addnc_gen eI z0 l
theorem borb0F_Reader : borL (List.map eReader []) = [] := rfl
theorem bytF_byte : ∀ s, prims.bytes s = prims.opn (List.map eY (bytesL s)) := byt_gen
theorem fits0F_byte : ∀ b : Nat, prims.fits 0 (prims.rlen (prims.opn (List.map eY []))) b = true := fits0_gen eY
theorem fits0F_string : ∀ b : Nat, prims.fits 0 (prims.rlen (prims.opn (List.map eS []))) b = true := fits0_gen eS
theorem frzbF_Reader : ∀ (l : List DReader), prims.frz (borL (List.map eReader l)) 0 (prims.len (List.map eReader l)) = some (List.map eReader l) := frzb_gen eReader (fun _ => rfl)
theorem fulbF_Reader : ∀ (l : List DReader), prims.full 0 (prims.len (List.map eReader l)) (borL (List.map eReader l)) = true := fulb_gen eReader
theorem len0F_Grant : prims.len (List.map eGrant []) = 0 := rfl
theorem len0F_Reader : prims.len (List.map eReader []) = 0 := rfl
theorem len0F_byte : prims.len (List.map eY []) = 0 := rfl
theorem len0F_int : prims.len (List.map eI []) = 0 := rfl
theorem lencF_int : ∀ (x : Int) (l : List Int), prims.len (List.map eI (x :: l)) = prims.len (List.map eI l) + 1 := fun _ _ => rfl
theorem lendF_byte : ∀ (s : Bool) (l : List UInt8), prims.lend s (List.map eY l) = some (prims.opn (List.map eY l)) := lend_gen eY (fun _ _ => rfl)
theorem lendF_int : ∀ (s : Bool) (l : List Int), prims.lend s (List.map eI l) = some (prims.opn (List.map eI l)) := lend_gen eI (fun _ _ => rfl)
theorem lendF_string : ∀ (s : Bool) (l : List ByteArray), prims.lend s (List.map eS l) = some (prims.opn (List.map eS l)) := lend_gen eS (fun _ _ => rfl)
theorem leniF_byte : ∀ (l : List UInt8), prims.len (List.map eY l) = 0 → l = [] := leni_gen eY
theorem leniF_string : ∀ (l : List ByteArray), prims.len (List.map eS l) = 0 → l = [] := leni_gen eS
theorem litF_Grant : ∀ (z0 : (List ByteArray)) (z1 : Int), [[Cell.own 9 1 (List.map eS z0), .at (.int .i64 z1)]] = prims.opn (List.map eGrant [(⟨z0, z1⟩ : DGrant)]) := fun z0 z1 => rfl
theorem litF_byte : ∀ (z0 : UInt8), [[Cell.at (.int .u8 (prims.yI z0))]] = prims.opn (List.map eY [z0]) := fun z0 => rfl
theorem litF_int : ∀ (z0 : Int), [[Cell.at (.int .i64 z0)]] = prims.opn (List.map eI [z0]) := fun z0 => rfl
theorem litbF_Reader : ∀ (z0 : Int) (z1 : (List ByteArray)) (z2 : Int), [[.at (.int .i64 z0), .rd true 9 1 (List.map eS z1), .at (.int .i64 z2)]] = borL (List.map eReader [(⟨z0, z1, z2⟩ : DReader)]) := fun z0 z1 z2 => rfl
theorem mconsF_Lint : ∀ (z0 : (List Int)) (l : List (List Int)), List.map eLint (z0 :: l) = [.sl 3 1 (List.map eI z0)] :: List.map eLint l := fun z0 l => rfl
theorem mconsF_byte : ∀ (z0 : UInt8) (l : List UInt8), List.map eY (z0 :: l) = [.at (.int .u8 (prims.yI z0))] :: List.map eY l := fun z0 l => rfl
theorem mconsF_int : ∀ (z0 : Int) (l : List Int), List.map eI (z0 :: l) = [.at (.int .i64 z0)] :: List.map eI l := fun z0 l => rfl
theorem mknF_Key : ∀ (a b : Int) (c : Nat), prims.mkN a b c = match mkSl ((⟨[], 0⟩ : DKey) : DKey) a b c with | none => none | some y => some (prims.len (List.map eKey y)) := fun a b c => (mkn_gen eKey ((⟨[], 0⟩ : DKey) : DKey) a b c).trans (by cases mkSl ((⟨[], 0⟩ : DKey) : DKey) a b c <;> rfl)
theorem mknF_Reader : ∀ (a b : Int) (c : Nat), prims.mkN a b c = match mkSl ((⟨0, [], 0⟩ : DReader) : DReader) a b c with | none => none | some y => some (prims.len (List.map eReader y)) := fun a b c => (mkn_gen eReader ((⟨0, [], 0⟩ : DReader) : DReader) a b c).trans (by cases mkSl ((⟨0, [], 0⟩ : DReader) : DReader) a b c <;> rfl)
theorem mknF_byte : ∀ (a b : Int) (c : Nat), prims.mkN a b c = match mkSl (0 : UInt8) a b c with | none => none | some y => some (prims.len (List.map eY y)) := fun a b c => (mkn_gen eY (0 : UInt8) a b c).trans (by cases mkSl (0 : UInt8) a b c <;> rfl)
theorem mknF_string : ∀ (a b : Int) (c : Nat), prims.mkN a b c = match mkSl ((ByteArray.mk (Array.mk [])) : ByteArray) a b c with | none => none | some y => some (prims.len (List.map eS y)) := fun a b c => (mkn_gen eS ((ByteArray.mk (Array.mk [])) : ByteArray) a b c).trans (by cases mkSl ((ByteArray.mk (Array.mk [])) : ByteArray) a b c <;> rfl)
theorem nildF_Lint : List.map eLint [] = [] := rfl
theorem nildF_byte : List.map eY [] = [] := rfl
theorem nildF_int : List.map eI [] = [] := rfl
theorem nildF_string : List.map eS [] = [] := rfl
theorem nthF_Grant : ∀ (l : List DGrant) (i : Int), prims.nth (List.map eGrant l) i = match nthI l i with | none => none | some x => some [.sl 9 1 (List.map eS x.name), .at (.int .i64 x.secret)] := fun l i => (nth_gen eGrant l i).trans (by cases nthI l i <;> rfl)
theorem nthF_Key : ∀ (l : List DKey) (i : Int), prims.nth (List.map eKey l) i = match nthI l i with | none => none | some x => some [.sl 9 1 (List.map eS x.name), .at (.int .i64 x.secret)] := fun l i => (nth_gen eKey l i).trans (by cases nthI l i <;> rfl)
theorem nthF_Reader : ∀ (l : List DReader) (i : Int), prims.nth (List.map eReader l) i = match nthI l i with | none => none | some x => some [.at (.int .i64 x.node), .sl 9 1 (List.map eS x.name), .at (.int .i64 x.epoch)] := fun l i => (nth_gen eReader l i).trans (by cases nthI l i <;> rfl)
theorem nthF_Lint : ∀ (l : List (List Int)) (i : Int), prims.nth (List.map eLint l) i = match nthI l i with | none => none | some x => some [.sl 3 1 (List.map eI x)] := fun l i => (nth_gen eLint l i).trans (by cases nthI l i <;> rfl)
theorem nthF_byte : ∀ (l : List UInt8) (i : Int), prims.nth (List.map eY l) i = match nthI l i with | none => none | some x => some [.at (.int .u8 (prims.yI x))] := fun l i => (nth_gen eY l i).trans (by cases nthI l i <;> rfl)
theorem nthF_int : ∀ (l : List Int) (i : Int), prims.nth (List.map eI l) i = match nthI l i with | none => none | some x => some [.at (.int .i64 x)] := fun l i => (nth_gen eI l i).trans (by cases nthI l i <;> rfl)
theorem nthF_string : ∀ (l : List ByteArray) (i : Int), prims.nth (List.map eS l) i = match nthI l i with | none => none | some x => some [.at (.string x)] := fun l i => (nth_gen eS l i).trans (by cases nthI l i <;> rfl)
theorem opn0F_Grant : prims.opn (List.map eGrant []) = [] := rfl
theorem opn0F_byte : prims.opn (List.map eY []) = [] := rfl
theorem opn0F_int : prims.opn (List.map eI []) = [] := rfl
theorem opncF_int : ∀ (z0 : Int) (l : List Int), prims.opn (List.map eI (z0 :: l)) = [Cell.at (.int .i64 z0)] :: prims.opn (List.map eI l) := fun z0 l => rfl
theorem rapbF_Reader : ∀ (a b : List DReader), prims.rapp (borL (List.map eReader a)) (borL (List.map eReader b)) = borL (List.map eReader (a ++ b)) := rapb_gen eReader
theorem rapp0F_byte : ∀ (l : List UInt8), prims.rapp [] (prims.opn (List.map eY l)) = prims.opn (List.map eY l) := fun _ => rfl
theorem rapp0F_string : ∀ (l : List ByteArray), prims.rapp [] (prims.opn (List.map eS l)) = prims.opn (List.map eS l) := fun _ => rfl
theorem rappcF_int : ∀ (z0 : Int) (l : List Int), prims.rapp [[.at (.int .i64 z0)]] (prims.opn (List.map eI l)) = prims.opn (List.map eI ([z0] ++ l)) := fun z0 l => rappc_gen eI z0 l
theorem repF_Key : ∀ (a b : Int) (c : Nat) {l : List DKey}, mkSl ((⟨[], 0⟩ : DKey) : DKey) a b c = some l → prims.rep (prims.len (List.map eKey l)) [.own 9 1 [], .at (.int .i64 0)] = prims.opn (List.map eKey l) := fun a b c l h => rep_gen eKey ((⟨[], 0⟩ : DKey) : DKey) a b c l h
theorem repF_Reader : ∀ (a b : Int) (c : Nat) {l : List DReader}, mkSl ((⟨0, [], 0⟩ : DReader) : DReader) a b c = some l → prims.rep (prims.len (List.map eReader l)) [.at (.int .i64 0), .own 9 1 [], .at (.int .i64 0)] = prims.opn (List.map eReader l) := fun a b c l h => rep_gen eReader ((⟨0, [], 0⟩ : DReader) : DReader) a b c l h
theorem repF_byte : ∀ (a b : Int) (c : Nat) {l : List UInt8}, mkSl (0 : UInt8) a b c = some l → prims.rep (prims.len (List.map eY l)) [.at (.int .u8 0)] = prims.opn (List.map eY l) := fun a b c l h => rep_gen eY (0 : UInt8) a b c l h
theorem repF_string : ∀ (a b : Int) (c : Nat) {l : List ByteArray}, mkSl ((ByteArray.mk (Array.mk [])) : ByteArray) a b c = some l → prims.rep (prims.len (List.map eS l)) [.at (.string (ByteArray.mk (Array.mk [])))] = prims.opn (List.map eS l) := fun a b c l h => rep_gen eS ((ByteArray.mk (Array.mk [])) : ByteArray) a b c l h
theorem rlbF_Reader : ∀ (l : List DReader), prims.rlen (borL (List.map eReader l)) = prims.rlen (prims.opn (List.map eReader l)) := rlb_gen eReader
theorem rlenF_byte : ∀ (l : List UInt8), prims.rlen (prims.opn (List.map eY l)) = prims.len (List.map eY l) := rlen_gen eY
theorem rnthF_Key : ∀ (l : List DKey) (j : Nat), prims.rnth (prims.opn (List.map eKey l)) j = match l[j]? with | none => none | some x => some [.own 9 1 (List.map eS x.name), .at (.int .i64 x.secret)] := fun l j => (rnth_gen eKey l j).trans (by cases l[j]? <;> rfl)
theorem rnthF_Reader : ∀ (l : List DReader) (j : Nat), prims.rnth (prims.opn (List.map eReader l)) j = match l[j]? with | none => none | some x => some [.at (.int .i64 x.node), .own 9 1 (List.map eS x.name), .at (.int .i64 x.epoch)] := fun l j => (rnth_gen eReader l j).trans (by cases l[j]? <;> rfl)
theorem rnthF_byte : ∀ (l : List UInt8) (j : Nat), prims.rnth (prims.opn (List.map eY l)) j = match l[j]? with | none => none | some x => some [.at (.int .u8 (prims.yI x))] := fun l j => (rnth_gen eY l j).trans (by cases l[j]? <;> rfl)
theorem rnthF_string : ∀ (l : List ByteArray) (j : Nat), prims.rnth (prims.opn (List.map eS l)) j = match l[j]? with | none => none | some x => some [.at (.string x)] := fun l j => (rnth_gen eS l j).trans (by cases l[j]? <;> rfl)
theorem rsetF_Key : ∀ (l : List DKey) (j : Nat) (z0 : (List ByteArray)) (z1 : Int), prims.rset (prims.opn (List.map eKey l)) j [.own 9 1 (List.map eS z0), .at (.int .i64 z1)] = prims.opn (List.map eKey (l.set j (⟨z0, z1⟩ : DKey))) := fun l j z0 z1 => rset_gen eKey l j (⟨z0, z1⟩ : DKey)
theorem rsetF_Reader : ∀ (l : List DReader) (j : Nat) (z0 : Int) (z1 : (List ByteArray)) (z2 : Int), prims.rset (prims.opn (List.map eReader l)) j [.at (.int .i64 z0), .own 9 1 (List.map eS z1), .at (.int .i64 z2)] = prims.opn (List.map eReader (l.set j (⟨z0, z1, z2⟩ : DReader))) := fun l j z0 z1 z2 => rset_gen eReader l j (⟨z0, z1, z2⟩ : DReader)
theorem rsetF_byte : ∀ (l : List UInt8) (j : Nat) (z0 : UInt8), prims.rset (prims.opn (List.map eY l)) j [.at (.int .u8 (prims.yI z0))] = prims.opn (List.map eY (l.set j z0)) := fun l j z0 => rset_gen eY l j z0
theorem rsetF_string : ∀ (l : List ByteArray) (j : Nat) (z0 : ByteArray), prims.rset (prims.opn (List.map eS l)) j [.at (.string z0)] = prims.opn (List.map eS (l.set j z0)) := fun l j z0 => rset_gen eS l j z0
theorem strF_byte : ∀ (l : List UInt8), prims.str (List.map eY l) = some (prims.ofB l) := str_gen
theorem subF_byte : ∀ (l : List UInt8) (lo hi : Option Int), prims.sub (List.map eY l) lo hi = match subI l lo hi with | none => none | some y => some (List.map eY y) := fun l lo hi => (sub_gen eY l lo hi).trans (by cases subI l lo hi <;> rfl)
theorem subF_string : ∀ (l : List ByteArray) (lo hi : Option Int), prims.sub (List.map eS l) lo hi = match subI l lo hi with | none => none | some y => some (List.map eS y) := fun l lo hi => (sub_gen eS l lo hi).trans (by cases subI l lo hi <;> rfl)
theorem wyF_byte : ∀ x : Int, prims.wrap .u8 x = prims.yI (prims.byW x) := wy_gen
theorem wyasubF_byte : ∀ a b : Int, prims.arith .sub .u8 a b = prims.yI (prims.byW (prims.arith .sub .u8 a b)) := fun a b => wya_gen (a - b)
end
end Go.Proofs.YtlbmlgnckclenaaGreatDoor
