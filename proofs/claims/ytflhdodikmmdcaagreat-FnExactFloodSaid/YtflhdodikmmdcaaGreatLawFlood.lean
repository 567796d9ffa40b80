import Derived.Test.YtflhdodikmmdcaaGreatRun
import Derived.Test.YtflhdodikmmdcaaGreatPk
import Derived.Test.YtflhdodikmmdcaaGreatEnc
namespace Go.Proofs.YtflhdodikmmdcaaGreat
open Go.RowKit
theorem zBK {u:Value} {w w':World} {e:Ending} (h:Gave [.v (.at u)] w e w'):e=.returned u∧Ext w w':=by
 obtain ⟨vs,ω,rfl,hx,ho⟩:=h
 match vs,ho with
 | [v],⟨⟨n,hv⟩,_⟩ =>
  have:v=u:=by
   cases n<;>(unfold OwN at hv;exact hv)
  subst this
  exact ⟨rfl,hx⟩
 | _::_::_,⟨_,h2⟩=>exact h2.elim
end Go.Proofs.YtflhdodikmmdcaaGreat
namespace Go.Proofs.YtflhdodikmmdcaaGreat
open Go.RowKit
set_option linter.unusedVariables false
set_option linter.unusedSimpArgs false
set_option maxRecDepth 100000
theorem zqA (cs0:List Value) (x0:zq) (x1:Int) (v2:Value) (x2:(List ze)) (x3:Int) (w:World) (h0:sNode.rd w cs0 x0) (h1:I64 x1) (h2:sInterestL.rd w [v2] x2) (h3:I64 x3) :
  Calls Tryz.prog 3 #[.agg cs0.toArray,.int .i64 x1,v2,.int .i64 x3] w fun e w'=>e=.returned (.bool true)∧Ext w w':=by
 have hh:FT 15 3 [.a (zkd x0),.v (.at (.int .i64 x1)),.v (.sl 73 4 (List.map zF x2)),.v (.at (.int .i64 x3))]=(zf3 x0 x1 x2 x3).bind fun r=>some [.v (.at (.bool r))]:=(zC9 15 (yz _)).a3 x0 x1 x2 x3
 rw [zoy x0 x1 x2 x3 (zCa w cs0 x0 h0) h1 ((OkS.sl _ zvP) w [v2] x2 h2) h3] at hh
 exact (((FT_ok w (zCX w) _ _ _ _ hh).1 (by decide)).2 w [.agg cs0.toArray,.int .i64 x1,v2,.int .i64 x3] (zBA (Ext.refl w)) ⟨zyw (zBD w cs0 x0 h0),ztT,zyx ((Enc.sl 73 zvE (by decide)) w [v2] x2 h2),ztT,trivial⟩).mono fun e w' he=>zBK he
end Go.Proofs.YtflhdodikmmdcaaGreat
