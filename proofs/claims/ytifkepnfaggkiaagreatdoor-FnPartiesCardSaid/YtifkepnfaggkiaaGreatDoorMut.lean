import Derived.Test.YtifkepnfaggkiaaGreatDoorExI
import Derived.Test.YtifkepnfaggkiaaGreatDoorIns
import Derived.Test.YtifkepnfaggkiaaGreatDoorEnc
import Derived.Test.YtifkepnfaggkiaaGreatDoorSd
namespace Go.Proofs.YtifkepnfaggkiaaGreatDoor
open Go.RowKit
set_option linter.unusedVariables false
set_option linter.unusedSimpArgs false
set_option maxRecDepth 100000
noncomputable section
def XT:Fns:=fun f xs=>if f=171 then (xOf zlM zuM) xs else (fun f xs=>if f=(274+2 ^ 40) then (xOf aIns rIns) xs else (fun _ _=>none) f xs) f xs
theorem zz5 (w0:World) (htab:TabW w0):zac Tryz.prog XT (bs0 w0):=(zww (by decide) (fun xs ys h=>⟨(zqE w0 htab xs ys h).1,fun w vs hx=>(zqE w0 htab xs ys h).2 w vs (ztc hx)⟩) (zwx (g:=274) rfl (zyj w0) (zuW _ (bs0 w0))))
theorem znu (a0:Int):XT 171 (zlM a0)=(zbn a0).bind fun r=>some [.v (.at (.string r))]:=by
 unfold XT
 exact (if_pos rfl).trans (zwJ (fun i j h=>zu9 i j h) a0)
theorem zkT (a0:List zb) (a1:Int) (a2:zb):XT (274+2 ^ 40) (aIns (a0,a1,a2))=(zaL a0 a1 a2).bind fun r=>some [.v (.sl 139 2 (List.map zf r))]:=by
 unfold XT
 exact (if_neg (by decide)).trans ((if_pos rfl).trans (zwJ zwK (a0,a1,a2)))
end
end Go.Proofs.YtifkepnfaggkiaaGreatDoor
