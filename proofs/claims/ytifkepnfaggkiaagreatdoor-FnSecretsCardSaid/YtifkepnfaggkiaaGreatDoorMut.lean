import Derived.Test.YtifkepnfaggkiaaGreatDoorExC
import Derived.Test.YtifkepnfaggkiaaGreatDoorDel
import Derived.Test.YtifkepnfaggkiaaGreatDoorEnc
import Derived.Test.YtifkepnfaggkiaaGreatDoorSd
namespace Go.Proofs.YtifkepnfaggkiaaGreatDoor
open Go.RowKit
set_option linter.unusedVariables false
set_option linter.unusedSimpArgs false
set_option maxRecDepth 100000
noncomputable section
def XT : Fns := fun f xs => if f = 171 then (xOf zkz ztj) xs else (fun f xs => if f = 290 then (xOf zid zpi) xs else (fun f xs => if f = (188 + 2 ^ 40) then (xOf aDel rDel) xs else (fun _ _ => none) f xs) f xs) f xs
theorem zxS (w0 : World) (htab : TabW w0) : Sound Tryz.prog XT (bs0 w0) := (znV (by decide) (fun xs ys h => ⟨(zpB w0 htab xs ys h).1, fun w vs hx => (zpB w0 htab xs ys h).2 w vs (zno hx)⟩) (znV (by decide) (zvH (bs0 w0)) (zuw (g := 188) rfl (zwM w0) (zma _ (bs0 w0)))))
theorem zl1 (a0 : Int) : XT 171 (zkz a0) = (zbd a0).bind fun r => some [.v (.at (.string r))] := by
 unfold XT
 exact (if_pos rfl).trans (zqR (fun i j h => ztN i j h) a0)
theorem zs3 (a1 : Int) : XT 290 (zid a1) = (zcp a1).bind fun r => some [.v (.sl 3 1 (List.map eI r))] := by
 unfold XT
 exact (if_neg (by decide)).trans ((if_pos rfl).trans (zwx a1))
theorem zeU (a0 : (List DReader)) (c1_0 : Int) (c1_1 : (List ByteArray)) : XT (188 + 2 ^ 40) (aDel (a0, c1_0, c1_1)) = (zr a0 c1_0 c1_1).bind fun r => some [.v (.sl 96 3 (List.map zf r))] := by
 unfold XT
 exact (if_neg (by decide)).trans ((if_neg (by decide)).trans ((if_pos rfl).trans (zqR zv1 (a0, c1_0, c1_1))))
end
end Go.Proofs.YtifkepnfaggkiaaGreatDoor
