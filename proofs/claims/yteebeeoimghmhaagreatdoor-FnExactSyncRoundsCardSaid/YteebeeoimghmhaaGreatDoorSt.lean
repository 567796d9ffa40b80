import Derived.Test.YteebeeoimghmhaaGreatDoorShal
import Derived.Test.YteebeeoimghmhaaGreatDoorEnc
import Derived.Shelf.Strconv.Itoa3
import Derived.Test.YteebeeoimghmhaaGreatDoorFamRaw
namespace Go.Proofs.YteebeeoimghmhaaGreatDoor
open Go.RowKit
set_option linter.unusedVariables false
set_option linter.unusedSimpArgs false
set_option maxRecDepth 100000
noncomputable section
def alp : Looper (List Arg) := fun F lv => aloop F lv fuel
noncomputable def EvF (F : Fns) (f : Func) (live : Nat → List Nat) (xs : List Arg) : Option (List Arg) := evBody prims alp TY F ⟨f, f.body.getD .skip, live⟩ xs
theorem addn0F_Link : ∀ (l : List DLink), prims.addN 0 (prims.rlen (prims.opn (List.map eLink l))) = prims.len (List.map eLink l) := addn0_gen eLink
theorem addn0F_TableEntry : ∀ (l : List DTableEntry), prims.addN 0 (prims.rlen (prims.opn (List.map eTableEntry l))) = prims.len (List.map eTableEntry l) := addn0_gen eTableEntry
theorem addn0F_byte : ∀ (l : List UInt8), prims.addN 0 (prims.rlen (prims.opn (List.map eY l))) = prims.len (List.map eY l) := addn0_gen eY
theorem addn0F_string : ∀ (l : List ByteArray), prims.addN 0 (prims.rlen (prims.opn (List.map eS l))) = prims.len (List.map eS l) := addn0_gen eS
theorem fits0F_Link : ∀ b : Nat, prims.fits 0 (prims.rlen (prims.opn (List.map eLink []))) b = true := fits0_gen eLink
theorem fits0F_byte : ∀ b : Nat, prims.fits 0 (prims.rlen (prims.opn (List.map eY []))) b = true := fits0_gen eY
theorem fits0F_string : ∀ b : Nat, prims.fits 0 (prims.rlen (prims.opn (List.map eS []))) b = true := fits0_gen eS
theorem len0F_Link : prims.len (List.map eLink []) = 0 := rfl
theorem len0F_Member : prims.len (List.map eMember []) = 0 := rfl
theorem len0F_Publication : prims.len (List.map ePublication []) = 0 := rfl
theorem len0F_TableEntry : prims.len (List.map eTableEntry []) = 0 := rfl
theorem len0F_string : prims.len (List.map eS []) = 0 := rfl
theorem lendF_Link : ∀ (s : Bool) (l : List DLink), prims.lend s (List.map eLink l) = some (prims.opn (List.map eLink l)) := lend_gen eLink (fun _ _ => rfl)
theorem lendF_byte : ∀ (s : Bool) (l : List UInt8), prims.lend s (List.map eY l) = some (prims.opn (List.map eY l)) := lend_gen eY (fun _ _ => rfl)
theorem lendF_string : ∀ (s : Bool) (l : List ByteArray), prims.lend s (List.map eS l) = some (prims.opn (List.map eS l)) := lend_gen eS (fun _ _ => rfl)
theorem leniF_Link : ∀ (l : List DLink), prims.len (List.map eLink l) = 0 → l = [] := leni_gen eLink
theorem leniF_byte : ∀ (l : List UInt8), prims.len (List.map eY l) = 0 → l = [] := leni_gen eY
theorem leniF_string : ∀ (l : List ByteArray), prims.len (List.map eS l) = 0 → l = [] := leni_gen eS
theorem litF_Member : ∀ (z0 : (List ByteArray)) (z1 : (List DTableEntry)) (z2 : (List DPublication)), [[Cell.own 9 1 (List.map eS z0), .own 89 2 (List.map eTableEntry z1), .own 93 3 (List.map ePublication z2)]] = prims.opn (List.map eMember [(⟨z0, z1, z2⟩ : DMember)]) := fun z0 z1 z2 => rfl
theorem litF_Publication : ∀ (z0 : (List ByteArray)) (z1 : Int) (z2 : (List UInt8)), [[Cell.own 9 1 (List.map eS z0), .at (.int .i64 z1), .own 5 1 (List.map eY z2)]] = prims.opn (List.map ePublication [(⟨z0, z1, z2⟩ : DPublication)]) := fun z0 z1 z2 => rfl
theorem litF_TableEntry : ∀ (z0 : (List ByteArray)) (z1 : Int), [[Cell.own 9 1 (List.map eS z0), .at (.int .i64 z1)]] = prims.opn (List.map eTableEntry [(⟨z0, z1⟩ : DTableEntry)]) := fun z0 z1 => rfl
theorem mconsF_byte : ∀ (z0 : UInt8) (l : List UInt8), List.map eY (z0 :: l) = [.at (.int .u8 (prims.yI z0))] :: List.map eY l := fun z0 l => rfl
theorem mconsF_int : ∀ (z0 : Int) (l : List Int), List.map eI (z0 :: l) = [.at (.int .i64 z0)] :: List.map eI l := fun z0 l => rfl
theorem mconsF_string : ∀ (z0 : ByteArray) (l : List ByteArray), List.map eS (z0 :: l) = [.at (.string z0)] :: List.map eS l := fun z0 l => rfl
theorem mknF_Link : ∀ (a b : Int) (c : Nat), prims.mkN a b c = match mkSl ((⟨0, 0⟩ : DLink) : DLink) a b c with | none => none | some y => some (prims.len (List.map eLink y)) := fun a b c => (mkn_gen eLink ((⟨0, 0⟩ : DLink) : DLink) a b c).trans (by cases mkSl ((⟨0, 0⟩ : DLink) : DLink) a b c <;> rfl)
theorem mknF_Member : ∀ (a b : Int) (c : Nat), prims.mkN a b c = match mkSl ((⟨[], [], []⟩ : DMember) : DMember) a b c with | none => none | some y => some (prims.len (List.map eMember y)) := fun a b c => (mkn_gen eMember ((⟨[], [], []⟩ : DMember) : DMember) a b c).trans (by cases mkSl ((⟨[], [], []⟩ : DMember) : DMember) a b c <;> rfl)
theorem mknF_Publication : ∀ (a b : Int) (c : Nat), prims.mkN a b c = match mkSl ((⟨[], 0, []⟩ : DPublication) : DPublication) a b c with | none => none | some y => some (prims.len (List.map ePublication y)) := fun a b c => (mkn_gen ePublication ((⟨[], 0, []⟩ : DPublication) : DPublication) a b c).trans (by cases mkSl ((⟨[], 0, []⟩ : DPublication) : DPublication) a b c <;> rfl)
theorem mknF_TableEntry : ∀ (a b : Int) (c : Nat), prims.mkN a b c = match mkSl ((⟨[], 0⟩ : DTableEntry) : DTableEntry) a b c with | none => none | some y => some (prims.len (List.map eTableEntry y)) := fun a b c => (mkn_gen eTableEntry ((⟨[], 0⟩ : DTableEntry) : DTableEntry) a b c).trans (by cases mkSl ((⟨[], 0⟩ : DTableEntry) : DTableEntry) a b c <;> rfl)
theorem mknF_byte : ∀ (a b : Int) (c : Nat), prims.mkN a b c = match mkSl (0 : UInt8) a b c with | none => none | some y => some (prims.len (List.map eY y)) := fun a b c => (mkn_gen eY (0 : UInt8) a b c).trans (by cases mkSl (0 : UInt8) a b c <;> rfl)
theorem mknF_int : ∀ (a b : Int) (c : Nat), prims.mkN a b c = match mkSl (0 : Int) a b c with | none => none | some y => some (prims.len (List.map eI y)) := fun a b c => (mkn_gen eI (0 : Int) a b c).trans (by cases mkSl (0 : Int) a b c <;> rfl)
theorem mknF_string : ∀ (a b : Int) (c : Nat), prims.mkN a b c = match mkSl ((ByteArray.mk (Array.mk [])) : ByteArray) a b c with | none => none | some y => some (prims.len (List.map eS y)) := fun a b c => (mkn_gen eS ((ByteArray.mk (Array.mk [])) : ByteArray) a b c).trans (by cases mkSl ((ByteArray.mk (Array.mk [])) : ByteArray) a b c <;> rfl)
theorem nildF_Link : List.map eLink [] = [] := rfl
theorem nildF_byte : List.map eY [] = [] := rfl
theorem nildF_int : List.map eI [] = [] := rfl
theorem nildF_string : List.map eS [] = [] := rfl
theorem nthF_Link : ∀ (l : List DLink) (i : Int), prims.nth (List.map eLink l) i = match nthI l i with | none => none | some x => some [.at (.int .i64 x.a), .at (.int .i64 x.b)] := fun l i => (nth_gen eLink l i).trans (by cases nthI l i <;> rfl)
theorem nthF_Member : ∀ (l : List DMember) (i : Int), prims.nth (List.map eMember l) i = match nthI l i with | none => none | some x => some [.sl 9 1 (List.map eS x.name), .sl 89 2 (List.map eTableEntry x.vector), .sl 93 3 (List.map ePublication x.publications)] := fun l i => (nth_gen eMember l i).trans (by cases nthI l i <;> rfl)
theorem nthF_Publication : ∀ (l : List DPublication) (i : Int), prims.nth (List.map ePublication l) i = match nthI l i with | none => none | some x => some [.sl 9 1 (List.map eS x.publisher), .at (.int .i64 x.seq), .sl 5 1 (List.map eY x.content)] := fun l i => (nth_gen ePublication l i).trans (by cases nthI l i <;> rfl)
theorem nthF_TableEntry : ∀ (l : List DTableEntry) (i : Int), prims.nth (List.map eTableEntry l) i = match nthI l i with | none => none | some x => some [.sl 9 1 (List.map eS x.name), .at (.int .i64 x.value)] := fun l i => (nth_gen eTableEntry l i).trans (by cases nthI l i <;> rfl)
theorem nthF_byte : ∀ (l : List UInt8) (i : Int), prims.nth (List.map eY l) i = match nthI l i with | none => none | some x => some [.at (.int .u8 (prims.yI x))] := fun l i => (nth_gen eY l i).trans (by cases nthI l i <;> rfl)
theorem nthF_int : ∀ (l : List Int) (i : Int), prims.nth (List.map eI l) i = match nthI l i with | none => none | some x => some [.at (.int .i64 x)] := fun l i => (nth_gen eI l i).trans (by cases nthI l i <;> rfl)
theorem nthF_string : ∀ (l : List ByteArray) (i : Int), prims.nth (List.map eS l) i = match nthI l i with | none => none | some x => some [.at (.string x)] := fun l i => (nth_gen eS l i).trans (by cases nthI l i <;> rfl)
theorem opn0F_Link : prims.opn (List.map eLink []) = [] := rfl
theorem opn0F_Member : prims.opn (List.map eMember []) = [] := rfl
theorem opn0F_Publication : prims.opn (List.map ePublication []) = [] := rfl
theorem opn0F_TableEntry : prims.opn (List.map eTableEntry []) = [] := rfl
theorem opn0F_string : prims.opn (List.map eS []) = [] := rfl
theorem rapp0F_Link : ∀ (l : List DLink), prims.rapp [] (prims.opn (List.map eLink l)) = prims.opn (List.map eLink l) := fun _ => rfl
theorem rapp0F_TableEntry : ∀ (l : List DTableEntry), prims.rapp [] (prims.opn (List.map eTableEntry l)) = prims.opn (List.map eTableEntry l) := fun _ => rfl
theorem rapp0F_byte : ∀ (l : List UInt8), prims.rapp [] (prims.opn (List.map eY l)) = prims.opn (List.map eY l) := fun _ => rfl
theorem rapp0F_string : ∀ (l : List ByteArray), prims.rapp [] (prims.opn (List.map eS l)) = prims.opn (List.map eS l) := fun _ => rfl
theorem repF_Link : ∀ (a b : Int) (c : Nat) {l : List DLink}, mkSl ((⟨0, 0⟩ : DLink) : DLink) a b c = some l → prims.rep (prims.len (List.map eLink l)) [.at (.int .i64 0), .at (.int .i64 0)] = prims.opn (List.map eLink l) := fun a b c l h => rep_gen eLink ((⟨0, 0⟩ : DLink) : DLink) a b c l h
theorem repF_Member : ∀ (a b : Int) (c : Nat) {l : List DMember}, mkSl ((⟨[], [], []⟩ : DMember) : DMember) a b c = some l → prims.rep (prims.len (List.map eMember l)) [.own 9 1 [], .own 89 2 [], .own 93 3 []] = prims.opn (List.map eMember l) := fun a b c l h => rep_gen eMember ((⟨[], [], []⟩ : DMember) : DMember) a b c l h
theorem repF_Publication : ∀ (a b : Int) (c : Nat) {l : List DPublication}, mkSl ((⟨[], 0, []⟩ : DPublication) : DPublication) a b c = some l → prims.rep (prims.len (List.map ePublication l)) [.own 9 1 [], .at (.int .i64 0), .own 5 1 []] = prims.opn (List.map ePublication l) := fun a b c l h => rep_gen ePublication ((⟨[], 0, []⟩ : DPublication) : DPublication) a b c l h
theorem repF_TableEntry : ∀ (a b : Int) (c : Nat) {l : List DTableEntry}, mkSl ((⟨[], 0⟩ : DTableEntry) : DTableEntry) a b c = some l → prims.rep (prims.len (List.map eTableEntry l)) [.own 9 1 [], .at (.int .i64 0)] = prims.opn (List.map eTableEntry l) := fun a b c l h => rep_gen eTableEntry ((⟨[], 0⟩ : DTableEntry) : DTableEntry) a b c l h
theorem repF_byte : ∀ (a b : Int) (c : Nat) {l : List UInt8}, mkSl (0 : UInt8) a b c = some l → prims.rep (prims.len (List.map eY l)) [.at (.int .u8 0)] = prims.opn (List.map eY l) := fun a b c l h => rep_gen eY (0 : UInt8) a b c l h
theorem repF_int : ∀ (a b : Int) (c : Nat) {l : List Int}, mkSl (0 : Int) a b c = some l → prims.rep (prims.len (List.map eI l)) [.at (.int .i64 0)] = prims.opn (List.map eI l) := fun a b c l h => rep_gen eI (0 : Int) a b c l h
theorem repF_string : ∀ (a b : Int) (c : Nat) {l : List ByteArray}, mkSl ((ByteArray.mk (Array.mk [])) : ByteArray) a b c = some l → prims.rep (prims.len (List.map eS l)) [.at (.string (ByteArray.mk (Array.mk [])))] = prims.opn (List.map eS l) := fun a b c l h => rep_gen eS ((ByteArray.mk (Array.mk [])) : ByteArray) a b c l h
theorem rmovrF_TableEntry : ∀ (l : List DTableEntry) (a b i n : Nat) x, partI l a b = some x → prims.rmov (prims.rout (prims.opn (List.map eTableEntry l)) a b) i n = match partR l a b i n with | none => none | some y => some (prims.opn (List.map eTableEntry y)) := fun l a b i n x h => (rmovr_gen eTableEntry (fun _ => rfl) (fun _ => rfl) l a b i n (part_le h)).trans (by cases partR l a b i n <;> rfl)
theorem rmovsF_TableEntry : ∀ (l : List DTableEntry) (i n : Nat), prims.rmov (prims.opn (List.map eTableEntry l)) i n = match partI l i n with | none => none | some y => some (prims.opn (List.map eTableEntry y)) := fun l i n => (rmovs_gen eTableEntry (fun _ => rfl) l i n).trans (by cases partI l i n <;> rfl)
theorem rnthF_Link : ∀ (l : List DLink) (j : Nat), prims.rnth (prims.opn (List.map eLink l)) j = match l[j]? with | none => none | some x => some [.at (.int .i64 x.a), .at (.int .i64 x.b)] := fun l j => (rnth_gen eLink l j).trans (by cases l[j]? <;> rfl)
theorem rnthF_Member : ∀ (l : List DMember) (j : Nat), prims.rnth (prims.opn (List.map eMember l)) j = match l[j]? with | none => none | some x => some [.own 9 1 (List.map eS x.name), .own 89 2 (List.map eTableEntry x.vector), .own 93 3 (List.map ePublication x.publications)] := fun l j => (rnth_gen eMember l j).trans (by cases l[j]? <;> rfl)
theorem rnthF_Publication : ∀ (l : List DPublication) (j : Nat), prims.rnth (prims.opn (List.map ePublication l)) j = match l[j]? with | none => none | some x => some [.own 9 1 (List.map eS x.publisher), .at (.int .i64 x.seq), .own 5 1 (List.map eY x.content)] := fun l j => (rnth_gen ePublication l j).trans (by cases l[j]? <;> rfl)
theorem rnthF_TableEntry : ∀ (l : List DTableEntry) (j : Nat), prims.rnth (prims.opn (List.map eTableEntry l)) j = match l[j]? with | none => none | some x => some [.own 9 1 (List.map eS x.name), .at (.int .i64 x.value)] := fun l j => (rnth_gen eTableEntry l j).trans (by cases l[j]? <;> rfl)
theorem rnthF_byte : ∀ (l : List UInt8) (j : Nat), prims.rnth (prims.opn (List.map eY l)) j = match l[j]? with | none => none | some x => some [.at (.int .u8 (prims.yI x))] := fun l j => (rnth_gen eY l j).trans (by cases l[j]? <;> rfl)
theorem rnthF_int : ∀ (l : List Int) (j : Nat), prims.rnth (prims.opn (List.map eI l)) j = match l[j]? with | none => none | some x => some [.at (.int .i64 x)] := fun l j => (rnth_gen eI l j).trans (by cases l[j]? <;> rfl)
theorem rnthF_string : ∀ (l : List ByteArray) (j : Nat), prims.rnth (prims.opn (List.map eS l)) j = match l[j]? with | none => none | some x => some [.at (.string x)] := fun l j => (rnth_gen eS l j).trans (by cases l[j]? <;> rfl)
theorem rsetF_Link : ∀ (l : List DLink) (j : Nat) (z0 : Int) (z1 : Int), prims.rset (prims.opn (List.map eLink l)) j [.at (.int .i64 z0), .at (.int .i64 z1)] = prims.opn (List.map eLink (l.set j (⟨z0, z1⟩ : DLink))) := fun l j z0 z1 => rset_gen eLink l j (⟨z0, z1⟩ : DLink)
theorem rsetF_Member : ∀ (l : List DMember) (j : Nat) (z0 : (List ByteArray)) (z1 : (List DTableEntry)) (z2 : (List DPublication)), prims.rset (prims.opn (List.map eMember l)) j [.own 9 1 (List.map eS z0), .own 89 2 (List.map eTableEntry z1), .own 93 3 (List.map ePublication z2)] = prims.opn (List.map eMember (l.set j (⟨z0, z1, z2⟩ : DMember))) := fun l j z0 z1 z2 => rset_gen eMember l j (⟨z0, z1, z2⟩ : DMember)
theorem rsetF_Publication : ∀ (l : List DPublication) (j : Nat) (z0 : (List ByteArray)) (z1 : Int) (z2 : (List UInt8)), prims.rset (prims.opn (List.map ePublication l)) j [.own 9 1 (List.map eS z0), .at (.int .i64 z1), .own 5 1 (List.map eY z2)] = prims.opn (List.map ePublication (l.set j (⟨z0, z1, z2⟩ : DPublication))) := fun l j z0 z1 z2 => rset_gen ePublication l j (⟨z0, z1, z2⟩ : DPublication)
theorem rsetF_TableEntry : ∀ (l : List DTableEntry) (j : Nat) (z0 : (List ByteArray)) (z1 : Int), prims.rset (prims.opn (List.map eTableEntry l)) j [.own 9 1 (List.map eS z0), .at (.int .i64 z1)] = prims.opn (List.map eTableEntry (l.set j (⟨z0, z1⟩ : DTableEntry))) := fun l j z0 z1 => rset_gen eTableEntry l j (⟨z0, z1⟩ : DTableEntry)
theorem rsetF_byte : ∀ (l : List UInt8) (j : Nat) (z0 : UInt8), prims.rset (prims.opn (List.map eY l)) j [.at (.int .u8 (prims.yI z0))] = prims.opn (List.map eY (l.set j z0)) := fun l j z0 => rset_gen eY l j z0
theorem rsetF_int : ∀ (l : List Int) (j : Nat) (z0 : Int), prims.rset (prims.opn (List.map eI l)) j [.at (.int .i64 z0)] = prims.opn (List.map eI (l.set j z0)) := fun l j z0 => rset_gen eI l j z0
theorem rsetF_string : ∀ (l : List ByteArray) (j : Nat) (z0 : ByteArray), prims.rset (prims.opn (List.map eS l)) j [.at (.string z0)] = prims.opn (List.map eS (l.set j z0)) := fun l j z0 => rset_gen eS l j z0
theorem strF_byte : ∀ (l : List UInt8), prims.str (List.map eY l) = some (prims.ofB l) := str_gen
theorem subF_Publication : ∀ (l : List DPublication) (lo hi : Option Int), prims.sub (List.map ePublication l) lo hi = match subI l lo hi with | none => none | some y => some (List.map ePublication y) := fun l lo hi => (sub_gen ePublication l lo hi).trans (by cases subI l lo hi <;> rfl)
theorem wyF_byte : ∀ x : Int, prims.wrap .u8 x = prims.yI (prims.byW x) := wy_gen
end
end Go.Proofs.YteebeeoimghmhaaGreatDoor
