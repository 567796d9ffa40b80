/- Types and facts about their lists. Printed by gen22.py. -/
import Derived.Test.YtifkepnfaggkiaaDoorShal
import Derived.Test.YtifkepnfaggkiaaDoorEnc
namespace Go.Proofs.YtifkepnfaggkiaaDoor
open Go.RowKit
set_option linter.unusedVariables false
set_option linter.unusedSimpArgs false
set_option maxRecDepth 100000
noncomputable section

structure Dl1Cur where
  b : (List UInt8)
  i : Int
  h : Int
def el1Cur (x : Dl1Cur) : List DT := [.sl 5 1 (List.map eY x.b), .at (.int .i64 x.i), .at (.int .i64 x.h)]
def eName (x : (List ByteArray)) : List DT := [.sl 9 1 (List.map eS x)]
def alp : Looper (List Arg) := fun F lv => aloop F lv fuel
noncomputable def EvF (F : Fns) (f : Func) (live : Nat → List Nat) (xs : List Arg) : Option (List Arg) := evBody prims alp TY F ⟨f, f.body.getD .skip, live⟩ xs
theorem addn0F_string : ∀ (l : List ByteArray), prims.addN 0 (prims.rlen (prims.opn (List.map eS l))) = prims.len (List.map eS l) := addn0_gen eS
theorem fits0F_string : ∀ b : Nat, prims.fits 0 (prims.rlen (prims.opn (List.map eS []))) b = true := fits0_gen eS
theorem lendF_string : ∀ (s : Bool) (l : List ByteArray), prims.lend s (List.map eS l) = some (prims.opn (List.map eS l)) := lend_gen eS (fun _ _ => rfl)
theorem leniF_string : ∀ (l : List ByteArray), prims.len (List.map eS l) = 0 → l = [] := leni_gen eS
theorem mconsF_byte : ∀ (z0 : UInt8) (l : List UInt8), List.map eY (z0 :: l) = [.at (.int .u8 (prims.yI z0))] :: List.map eY l := fun z0 l => rfl
theorem nildF_byte : List.map eY [] = [] := rfl
theorem nildF_string : List.map eS [] = [] := rfl
theorem rapp0F_string : ∀ (l : List ByteArray), prims.rapp [] (prims.opn (List.map eS l)) = prims.opn (List.map eS l) := fun _ => rfl
theorem strF_byte : ∀ (l : List UInt8), prims.str (List.map eY l) = some (prims.ofB l) := str_gen
theorem wyF_byte : ∀ x : Int, prims.wrap .u8 x = prims.yI (prims.byW x) := wy_gen
end
end Go.Proofs.YtifkepnfaggkiaaDoor
