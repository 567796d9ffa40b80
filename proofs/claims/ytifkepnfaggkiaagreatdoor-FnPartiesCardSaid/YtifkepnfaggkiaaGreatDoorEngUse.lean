import Derived.Test.YtifkepnfaggkiaaGreatDoorEngDraw
namespace Go.Proofs.YtifkepnfaggkiaaGreatDoor
open Go.RowKit
set_option linter.unusedVariables false
set_option linter.unusedSimpArgs false
set_option linter.unusedSectionVars false
def RdL (w:World) (cs:List Value) (ds:List DT):Prop:=cs.length=ds.length∧∀ (j:Nat) d u,ds[j]?=some d→cs[j]?=some u→Rd (Lt w) w u d
def Enc {α:Type} (S:Shape α) (e:α→List DT):Prop:=∀ w cs x,S.rd w cs x→RdL w cs (e x)
theorem RdL.one {w:World} {v:Value} {d:DT} (h:Rd (Lt w) w v d):RdL w [v] [d]:=by
 refine ⟨rfl,fun j d' u hd hu=>?_⟩
 cases j with
 | zero=>simp at hd hu;subst hd;subst hu;exact h
 | succ j=>simp at hd
theorem zqw (R:Nat→Prop) (w:World) (v:Value):Rd R w v (.at v):=⟨0,by unfold RdN;rfl⟩
def eI (n:Int):List DT:=[.at (.int .i64 n)]
def eB (b:Bool):List DT:=[.at (.bool b)]
def eS (s:ByteArray):List DT:=[.at (.string s)]
def eY (b:UInt8):List DT:=[.at (.int .u8 b.toNat)]
theorem Enc.int:Enc Shape.int eI:=fun w cs x h=>by
 obtain ⟨rfl,_⟩:=h
 exact RdL.one (zqw _ _ _)
theorem Enc.bool:Enc Shape.bool eB:=fun w cs x h=>by
 obtain ⟨rfl,_⟩:=h
 exact RdL.one (zqw _ _ _)
theorem Enc.str:Enc Shape.str eS:=fun w cs x h=>by
 obtain ⟨rfl,_⟩:=h
 exact RdL.one (zqw _ _ _)
theorem Enc.byte:Enc Shape.byte eY:=fun w cs x h=>by
 obtain ⟨rfl,_⟩:=h
 exact RdL.one (zqw _ _ _)
theorem Enc.sl {α:Type} {S:Shape α} {e:α→List DT} (t:Nat) (h:Enc S e) (h0:0 < S.k):Enc (Shape.sl t S) (fun l=>[.sl t S.k (l.map e)]):=fun w cs l hr=>by
 obtain ⟨A,c,rfl,h1,h2,h3⟩:=hr
 have hm:(l.map e).length=l.length:=List.length_map _
 refine RdL.one ?_
 rw [← hm]
 refine Rd.sl (by rw [hm];exact h1) h2 fun i es hi=>?_
 rw [List.getElem?_map] at hi
 cases hx:l[i]? with
 | none=>simp [hx] at hi
 | some x =>
  simp only [hx,Option.map_some,Option.some.injEq] at hi
  subst hi
  have hlt:i < l.length:=(List.getElem?_eq_some_iff.1 hx).1
  have hxe:l[i]=x:=(List.getElem?_eq_some_iff.1 hx).2
  obtain ⟨b,off,hA,hall⟩:=h3 (by omega)
  obtain ⟨cs,hc,hrd⟩:=hall i hlt
  rw [hxe] at hrd
  obtain ⟨hl,hj⟩:=h w cs x hrd
  have hk:=S.len hrd
  have hb:∀ (j:Nat) u,cs[j]?=some u→w.cell? ⟨b,off+i*S.k+j,none⟩=some u:=fun j u hu=>hc j u hu
  refine ⟨by omega,b,off,hA,?_,fun j d hd=>?_⟩
  ·have:cs[0]?=some (cs[0]'(by omega)):=List.getElem?_eq_getElem (by omega)
   exact World.block_lt_of_cell? _ _ (hb 0 _ this)
  ·have hjl:j < cs.length:=by rw [hl];exact (List.getElem?_eq_some_iff.1 hd).1
   have hu:cs[j]?=some cs[j]:=List.getElem?_eq_getElem hjl
   exact ⟨_,hb j _ hu,hj j d _ hd hu⟩
theorem zvk {w:World} {v:Value} {d:DT} (h:RdL w [v] [d]):ArgRd (Lt w) w (.v d) v:=h.2 0 d v rfl rfl
theorem zoL {α:Type} {e:α→List DT} (he:∀ x y,e x=e y→x=y):∀ {a b:List α},a.map e=b.map e→a=b
 | [],[],_=>rfl
 | [],y::b,h=>by simp at h
 | x::a,[],h=>by simp at h
 | x::a,y::b,h=>by
  simp only [List.map_cons,List.cons.injEq] at h
  rw [he x y h.1,zoL he h.2]
theorem zzy (x y:ByteArray) (h:eS x=eS y):x=y:=by simpa [eS] using h
end Go.Proofs.YtifkepnfaggkiaaGreatDoor
