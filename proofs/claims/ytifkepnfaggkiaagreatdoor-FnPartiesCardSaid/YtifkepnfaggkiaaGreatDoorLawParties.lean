import Derived.Test.YtifkepnfaggkiaaGreatDoorRun
import Derived.Test.YtifkepnfaggkiaaGreatDoorDz
import Derived.Test.YtifkepnfaggkiaaGreatDoorReads
namespace Go.Proofs.YtifkepnfaggkiaaGreatDoor
open Go.RowKit
theorem zyw {u:Value} {w w':World} {e:Ending} (h:Gave [.v (.at u)] w e w'):e=.returned u∧Ext w w':=by
 obtain ⟨vs,ω,rfl,hx,ho⟩:=h
 match vs,ho with
 | [v],⟨⟨n,hv⟩,_⟩ =>
  have:v=u:=by
   cases n<;>(unfold OwN at hv;exact hv)
  subst this
  exact ⟨rfl,hx⟩
 | _::_::_,⟨_,h2⟩=>exact h2.elim
end Go.Proofs.YtifkepnfaggkiaaGreatDoor
namespace Go.Proofs.YtifkepnfaggkiaaGreatDoor
open Go.RowKit
set_option linter.unusedVariables false
set_option linter.unusedSimpArgs false
set_option maxRecDepth 100000
theorem zri (v0:Value) (x0:(List UInt8)) (w:World) (h0:sBytes.rd w [v0] x0) (htab:TabW w) :
  Calls Tryz.prog 4 #[v0] w fun e w'=>e=.returned (.bool true)∧Ext w w':=by
 have hh:FT 16 4 [.v (.sl 5 1 (List.map eY x0))]=(zgU x0).bind fun r=>some [.v (.at (.bool r))]:=(zAg 16 (Nat.le_refl _)).a4 x0
 rw [zoT x0] at hh
 exact (((zz0 w (zz5 w htab) _ _ _ _ hh).1 (by decide)).2 w [v0] (zyo (Ext.refl w)) ⟨zvk ((Enc.sl 5 Enc.byte (by decide)) w [v0] x0 h0),trivial⟩).mono fun e w' he=>zyw he
end Go.Proofs.YtifkepnfaggkiaaGreatDoor
