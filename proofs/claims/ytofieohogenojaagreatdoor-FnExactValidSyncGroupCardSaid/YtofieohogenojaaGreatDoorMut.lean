/- The interpreter's contracts of the functions 'mark..'; the table of all functions that are given. Printed by genmut.py. -/
import Derived.Test.YtofieohogenojaaGreatDoorExI
import Derived.Test.YtofieohogenojaaGreatDoorExG
import Derived.Test.YtofieohogenojaaGreatDoorEnc
namespace Go.Proofs.YtofieohogenojaaGreatDoor
open Go.RowKit
set_option linter.unusedVariables false
set_option linter.unusedSimpArgs false
set_option maxRecDepth 100000
noncomputable section

def XT : Fns := fun f xs => if f = 69 then (xOf aItoa rItoa) xs else (fun _ _ => none) f xs
theorem XT_ok (w0 : World) (htab : TabW w0) : Sound Tryz.prog XT w0 := (sound_add (by decide) (XItoa_ok w0 htab) (sound_none _ w0))
theorem x_s_strconv_Itoa (a0 : Int) : XT 69 (aItoa a0) = (s_strconv_Itoa a0).bind fun r => some [.v (.at (.string r))] := by
  unfold XT
  exact (if_pos rfl).trans (xOf_at (fun i j h => aItoa_inj i j h) a0)
end
end Go.Proofs.YtofieohogenojaaGreatDoor
