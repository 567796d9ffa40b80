import Derived.Test.YtgkbhlncehgalaaGreatExC
import Derived.Test.YtgkbhlncehgalaaGreatEnc
import Derived.Test.YtgkbhlncehgalaaGreatSd
namespace Go.Proofs.YtgkbhlncehgalaaGreat
open Go.RowKit
set_option linter.unusedVariables false
set_option linter.unusedSimpArgs false
set_option maxRecDepth 100000
noncomputable section
def XT : Fns := fun f xs => if f = 170 then (xOf aGrow rGrow) xs else (fun _ _ => none) f xs
theorem XT_ok (w0 : World) : Sound Tryz.prog XT w0 := (sound_add (by decide) (XGrow_ok w0) (sound_none _ w0))
theorem xCGrow_int (a1 : Int) : XT 170 (aGrow a1) = (sCGrow_int a1).bind fun r => some [.v (.sl 3 1 (List.map eI r))] := by
 unfold XT
 exact (if_pos rfl).trans (xGrow_s a1)
end
end Go.Proofs.YtgkbhlncehgalaaGreat
