import Derived.Test.YtgfmmfpafcfjpaaGreatShal
import Derived.Test.YtgfmmfpafcfjpaaGreatEnc
namespace Go.Proofs.YtgfmmfpafcfjpaaGreat
open Go.RowKit
set_option linter.unusedVariables false
set_option linter.unusedSimpArgs false
set_option maxRecDepth 100000
noncomputable section
def eName (x : (List ByteArray)) : List DT := [.sl 9 1 (List.map eS x)]
def ePattern (x : (List ByteArray)) : List DT := [.sl 9 1 (List.map eS x)]
structure DBinding where
 letter : ByteArray
 value : ByteArray
def eBinding (x : DBinding) : List DT := [.at (.string x.letter), .at (.string x.value)]
structure DAdvertisement where
 origin : Int
 version : Int
 neighbors : (List Int)
 prefixes : (List (List ByteArray))
def eAdvertisement (x : DAdvertisement) : List DT := [.at (.int .i64 x.origin), .at (.int .i64 x.version), .sl 3 1 (List.map eI x.neighbors), .sl 95 1 (List.map eName x.prefixes)]
def eLint (x : (List Int)) : List DT := [.sl 3 1 (List.map eI x)]
def alp : Looper (List Arg) := fun F lv => aloop F lv fuel
noncomputable def EvF (F : Fns) (f : Func) (live : Nat → List Nat) (xs : List Arg) : Option (List Arg) := evBody prims alp TY F ⟨f, f.body.getD .skip, live⟩ xs
theorem addn0F_Binding : ∀ (l : List DBinding), prims.addN 0 (prims.rlen (prims.opn (List.map eBinding l))) = prims.len (List.map eBinding l) := addn0_gen eBinding
theorem addn0F_byte : ∀ (l : List UInt8), prims.addN 0 (prims.rlen (prims.opn (List.map eY l))) = prims.len (List.map eY l) := addn0_gen eY
theorem addn0F_string : ∀ (l : List ByteArray), prims.addN 0 (prims.rlen (prims.opn (List.map eS l))) = prims.len (List.map eS l) := addn0_gen eS
theorem addncF_int : ∀ (z0 : Int) (l : List Int), prims.addN 1 (prims.rlen (prims.opn (List.map eI l))) = prims.len (List.map eI ([z0] ++ l)) := fun z0 l => addnc_gen eI z0 l
theorem bytF_byte : ∀ s, prims.bytes s = prims.opn (List.map eY (bytesL s)) := byt_gen
theorem cpyF_int : ∀ (a : List Int) (i n : Nat) (b : List Int), prims.copy (prims.opn (List.map eI a)) i n (List.map eI b) = match copyI a i n b with | none => none | some y => some (y.1, prims.opn (List.map eI y.2)) := fun a i n b => (cpy_gen eI (fun _ => rfl) a i n b).trans (by cases copyI a i n b <;> rfl)
theorem fits0F_Binding : ∀ b : Nat, prims.fits 0 (prims.rlen (prims.opn (List.map eBinding []))) b = true := fits0_gen eBinding
theorem fits0F_byte : ∀ b : Nat, prims.fits 0 (prims.rlen (prims.opn (List.map eY []))) b = true := fits0_gen eY
theorem fits0F_string : ∀ b : Nat, prims.fits 0 (prims.rlen (prims.opn (List.map eS []))) b = true := fits0_gen eS
theorem frzsF_int : ∀ (l : List Int) (i n : Nat), prims.frz (prims.opn (List.map eI l)) i n = match partI l i n with | none => none | some y => some (List.map eI y) := fun l i n => (frzs_gen eI (fun _ => rfl) l i n).trans (by cases partI l i n <;> rfl)
theorem lcpyF_int : ∀ (a : List Int) (i n : Nat) (b : List Int) (y : Nat × List Int), copyI a i n b = some y → prims.len (List.map eI y.2) = prims.len (List.map eI a) := lcpy_gen eI
theorem lendF_Binding : ∀ (s : Bool) (l : List DBinding), prims.lend s (List.map eBinding l) = some (prims.opn (List.map eBinding l)) := lend_gen eBinding (fun _ _ => rfl)
theorem lendF_byte : ∀ (s : Bool) (l : List UInt8), prims.lend s (List.map eY l) = some (prims.opn (List.map eY l)) := lend_gen eY (fun _ _ => rfl)
theorem lendF_int : ∀ (s : Bool) (l : List Int), prims.lend s (List.map eI l) = some (prims.opn (List.map eI l)) := lend_gen eI (fun _ _ => rfl)
theorem lendF_string : ∀ (s : Bool) (l : List ByteArray), prims.lend s (List.map eS l) = some (prims.opn (List.map eS l)) := lend_gen eS (fun _ _ => rfl)
theorem leniF_Binding : ∀ (l : List DBinding), prims.len (List.map eBinding l) = 0 → l = [] := leni_gen eBinding
theorem leniF_byte : ∀ (l : List UInt8), prims.len (List.map eY l) = 0 → l = [] := leni_gen eY
theorem leniF_string : ∀ (l : List ByteArray), prims.len (List.map eS l) = 0 → l = [] := leni_gen eS
theorem litF_byte : ∀ (z0 : UInt8), [[Cell.at (.int .u8 (prims.yI z0))]] = prims.opn (List.map eY [z0]) := fun z0 => rfl
theorem litF_int : ∀ (z0 : Int), [[Cell.at (.int .i64 z0)]] = prims.opn (List.map eI [z0]) := fun z0 => rfl
theorem mknF_int : ∀ (a b : Int) (c : Nat), prims.mkN a b c = match mkSl (0 : Int) a b c with | none => none | some y => some (prims.len (List.map eI y)) := fun a b c => (mkn_gen eI (0 : Int) a b c).trans (by cases mkSl (0 : Int) a b c <;> rfl)
theorem nildF_Binding : List.map eBinding [] = [] := rfl
theorem nildF_byte : List.map eY [] = [] := rfl
theorem nildF_string : List.map eS [] = [] := rfl
theorem nthF_string : ∀ (l : List ByteArray) (i : Int), prims.nth (List.map eS l) i = match nthI l i with | none => none | some x => some [.at (.string x)] := fun l i => (nth_gen eS l i).trans (by cases nthI l i <;> rfl)
theorem rapp0F_Binding : ∀ (l : List DBinding), prims.rapp [] (prims.opn (List.map eBinding l)) = prims.opn (List.map eBinding l) := fun _ => rfl
theorem rapp0F_byte : ∀ (l : List UInt8), prims.rapp [] (prims.opn (List.map eY l)) = prims.opn (List.map eY l) := fun _ => rfl
theorem rapp0F_string : ∀ (l : List ByteArray), prims.rapp [] (prims.opn (List.map eS l)) = prims.opn (List.map eS l) := fun _ => rfl
theorem rappcF_int : ∀ (z0 : Int) (l : List Int), prims.rapp [[.at (.int .i64 z0)]] (prims.opn (List.map eI l)) = prims.opn (List.map eI ([z0] ++ l)) := fun z0 l => rappc_gen eI z0 l
theorem repF_int : ∀ (a b : Int) (c : Nat) {l : List Int}, mkSl (0 : Int) a b c = some l → prims.rep (prims.len (List.map eI l)) [.at (.int .i64 0)] = prims.opn (List.map eI l) := fun a b c l h => rep_gen eI (0 : Int) a b c l h
theorem rlenF_byte : ∀ (l : List UInt8), prims.rlen (prims.opn (List.map eY l)) = prims.len (List.map eY l) := rlen_gen eY
theorem rmovF_int : ∀ (l : List Int), prims.rmov (prims.opn (List.map eI l)) 0 (prims.len (List.map eI l)) = some (prims.opn (List.map eI l)) := rmov_gen eI (fun _ => rfl)
theorem wyF_byte : ∀ x : Int, prims.wrap .u8 x = prims.yI (prims.byW x) := wy_gen
theorem wyaorF_byte : ∀ a b : Int, prims.arith .or .u8 a b = prims.yI (prims.byW (prims.arith .or .u8 a b)) := fun a b => wya_gen _
end
end Go.Proofs.YtgfmmfpafcfjpaaGreat
