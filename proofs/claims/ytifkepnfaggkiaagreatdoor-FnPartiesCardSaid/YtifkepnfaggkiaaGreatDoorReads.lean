import Derived.Test.YtifkepnfaggkiaaGreatDoorBase
import Derived.Deep.Slices
import Derived.ProofKit
import Derived.Test.YtifkepnfaggkiaaGreatDoorEnc
namespace Go.Proofs.YtifkepnfaggkiaaGreatDoor
open Go.RowKit Go.Deep
set_option linter.unusedVariables false
def zqh {α:Type} (P:Program) (t:TypeId) (S:Shape α):Prop :=
 ∀ (H:Type) (enc:TypeId×Value→H) (w:World) (base:Nat) (spare:Nat→Bool) (held:Bool) (fuel:Nat) (cs:List Value) (y:DataW H×List MemPlace),DataW.trod enc P w base spare held fuel t cs=some y→∃ x,S.rd w cs x
section
variable {P:Program} {t e:TypeId} {α β:Type}
theorem zuO (h:P.underlying t=some (.int .u8)):zqh P t Shape.byte:=by
 intro H enc w base spare held fuel cs y hy
 obtain ⟨n,rfl,_,hw⟩:=DataW.trod_int h hy
 simp [Lit.wf,IntKind.min,IntKind.max,IntKind.signed,IntKind.bits] at hw
 refine ⟨UInt8.ofNat n.toNat,?_,trivial⟩
 have:(UInt8.ofNat n.toNat).toNat=n.toNat:=by
  rw [UInt8.toNat_ofNat'];omega
 show [Value.int IntKind.u8 n]=[Value.int IntKind.u8 ((UInt8.ofNat n.toNat).toNat:Int)]
 rw [this,Int.toNat_of_nonneg hw.1]
theorem zxB {S:Shape α} {e':Nat} (h:P.underlying t=some (.slice e)) (hk:P.cellsOf e=S.k) (hpos:0 < S.k) (hS:zqh P e S):zqh P t (Shape.sl e' S):=by
 intro H enc w base spare held fuel cs y hy
 rcases open_slice h hy with ⟨rfl,_⟩|⟨a,len,cap,m,n,D,Pl,rfl,_,hl,hm,hmm,_,hi⟩
 ·exact ⟨[],Shape.sl_nil⟩
 ·have hlm:len≤m:=by rw [hmm];split<;>omega
  have hx:∀ i:Nat,i < len→∃ x:α,∃ es,w.cells? base (a.add (i*S.k)) S.k=some es∧S.rd w es x:=fun i hi'=>by
   obtain ⟨es,h1,h2⟩:=hi i (by omega)
   obtain ⟨x,h3⟩:=hS H enc w base spare held n es _ h2
   rw [hk] at h1
   exact ⟨x,es,h1,h3⟩
  have hlist:∀ k:Nat,k≤len→∃ l:List α,l.length=k∧∀ i (h:i < l.length),∃ es,w.cells? base (a.add (i*S.k)) S.k=some es∧S.rd w es l[i]:=by
   intro k
   induction k with
   | zero=>intro _;exact ⟨[],rfl,fun i h=>by simp at h⟩
   | succ k ih =>
    intro hk'
    obtain ⟨l,hl1,hl2⟩:=ih (by omega)
    obtain ⟨x,es,h1,h2⟩:=hx k (by omega)
    refine ⟨l++[x],by simp [hl1],fun i h=>?_⟩
    rw [List.length_append,List.length_singleton] at h
    by_cases hik:i < l.length
    ·rw [List.getElem_append_left hik];exact hl2 i hik
    ·have:i=k:=by omega
     subst this
     refine ⟨es,h1,?_⟩
     rw [List.getElem_append_right (by omega)]
     simpa [hl1] using h2
  obtain ⟨l,hl1,hl2⟩:=hlist len (Nat.le_refl _)
  refine ⟨l,some a,cap,by rw [hl1],by omega,hm,fun h0=>?_⟩
  obtain ⟨es0,hc0,hr0⟩:=hl2 0 h0
  obtain ⟨_,hlen0,hat0⟩:=World.cells?_some hc0
  obtain ⟨b,off,spot⟩:=a
  have hspot:spot=none:=by
   have:=hat0 0 hpos
   have hes:es0[0]?=some (es0[0]'(by omega)):=List.getElem?_eq_getElem (by omega)
   rw [hes] at this
   simpa [Addr.add] using World.cell?_spot this
  subst hspot
  have hadd:∀ n,(⟨b,off,none⟩:Addr).add n=⟨b,off+n,none⟩:=fun n=>by unfold Addr.add;split<;>simp_all
  refine ⟨b,off,rfl,fun i h=>?_⟩
  obtain ⟨es,h1,h2⟩:=hl2 i h
  obtain ⟨_,hlen,hat⟩:=World.cells?_some h1
  refine ⟨es,fun j u hu=>?_,h2⟩
  have hj:j < S.k:=by rw [← hlen];exact (List.getElem?_eq_some_iff.1 hu).1
  have:=hat j hj
  rw [hadd] at this
  have hadd2:(⟨b,off+i*S.k,none⟩:Addr).add j=⟨b,off+i*S.k+j,none⟩:=by unfold Addr.add;split<;>simp_all
  rw [hadd2] at this
  rw [this,hu]
end
end Go.Proofs.YtifkepnfaggkiaaGreatDoor
namespace Go.Proofs.YtifkepnfaggkiaaGreatDoor
open Go.RowKit
set_option linter.unusedVariables false
set_option linter.unusedSimpArgs false
set_option linter.unusedSectionVars false
theorem zsU:zqh Tryz.prog 22 sBytes:=zxB Tryz.underlying22 (by kernel_rfl) (by decide) (zuO Tryz.underlying5)
end Go.Proofs.YtifkepnfaggkiaaGreatDoor
