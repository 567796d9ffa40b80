import Derived.Test.YtflhdodikmmdcaaGreatBase
import Derived.Deep.Slices
import Derived.ProofKit
import Derived.Test.YtflhdodikmmdcaaGreatEnc
namespace Go.Proofs.YtflhdodikmmdcaaGreat
open Go.RowKit Go.Deep
set_option linter.unusedVariables false
def zcy {α:Type} (P:Program) (t:TypeId) (S:Shape α):Prop :=
 ∀ (H:Type) (enc:TypeId×Value→H) (w:World) (base:Nat) (spare:Nat→Bool) (held:Bool) (fuel:Nat) (cs:List Value) (y:DataW H×List MemPlace),DataW.trod enc P w base spare held fuel t cs=some y→∃ x,S.rd w cs x
section
variable {P:Program} {t e:TypeId} {α β:Type}
theorem zbN (h:P.underlying t=some (.int .i64)):zcy P t Shape.int:=by
 intro H enc w base spare held fuel cs y hy
 obtain ⟨n,rfl,_,hw⟩:=DataW.trod_int h hy
 exact ⟨n,rfl,by simp [Lit.wf,IntKind.min,IntKind.max,IntKind.signed,IntKind.bits] at hw;exact ⟨by omega,by omega⟩⟩
theorem zxZ (h:P.underlying t=some (.int .u8)):zcy P t Shape.byte:=by
 intro H enc w base spare held fuel cs y hy
 obtain ⟨n,rfl,_,hw⟩:=DataW.trod_int h hy
 simp [Lit.wf,IntKind.min,IntKind.max,IntKind.signed,IntKind.bits] at hw
 refine ⟨UInt8.ofNat n.toNat,?_,trivial⟩
 have:(UInt8.ofNat n.toNat).toNat=n.toNat:=by
  rw [ybE];omega
 show [Value.int IntKind.u8 n]=[Value.int IntKind.u8 ((UInt8.ofNat n.toNat).toNat:Int)]
 rw [this,Int.toNat_of_nonneg hw.1]
theorem zzN (h:P.underlying t=some .string):zcy P t Shape.str:=by
 intro H enc w base spare held fuel cs y hy
 obtain ⟨s,rfl,_,hs⟩:=DataW.trod_string h hy
 exact ⟨s,rfl,hs⟩
theorem zgJ {S:Shape α} {e':Nat} (h:P.underlying t=some (.slice e)) (hk:P.cellsOf e=S.k) (hpos:0 < S.k) (hS:zcy P e S):zcy P t (Shape.sl e' S):=by
 intro H enc w base spare held fuel cs y hy
 rcases open_slice h hy with ⟨rfl,_⟩|⟨a,len,cap,m,n,D,Pl,rfl,_,hl,hm,hmm,_,hi⟩
 ·exact ⟨[],Shape.sl_nil⟩
 ·have hlm:len≤m:=by rw [hmm];split<;>omega
  have hx:∀ i:Nat,i < len→∃ x:α,∃ es,w.cells? base (a.add (i*S.k)) S.k=some es∧S.rd w es x:=fun i hi'=>by
   obtain ⟨es,h1,h2⟩:=hi i (by omega)
   obtain ⟨x,h3⟩:=hS H enc w base spare held n es _ h2
   rw [hk] at h1
   exact ⟨x,es,h1,h3⟩
  have hlist:∀ k:Nat,k≤len→∃ l:List α,l.length=k∧∀ i (h:i < l.length),∃ es,w.cells? base (a.add (i*S.k)) S.k=some es∧S.rd w es l[i]:=by
   intro k
   induction k with
   | zero=>intro _;exact ⟨[],rfl,fun i h=>by simp at h⟩
   | succ k ih =>
    intro hk'
    obtain ⟨l,hl1,hl2⟩:=ih (by omega)
    obtain ⟨x,es,h1,h2⟩:=hx k (by omega)
    refine ⟨l++[x],by simp [hl1],fun i h=>?_⟩
    rw [yO,yF] at h
    by_cases hik:i < l.length
    ·rw [List.getElem_append_left hik];exact hl2 i hik
    ·have:i=k:=by omega
     subst this
     refine ⟨es,h1,?_⟩
     rw [ycf (by omega)]
     simpa [hl1] using h2
  obtain ⟨l,hl1,hl2⟩:=hlist len (yz _)
  refine ⟨l,some a,cap,by rw [hl1],by omega,hm,fun h0=>?_⟩
  obtain ⟨es0,hc0,hr0⟩:=hl2 0 h0
  obtain ⟨_,hlen0,hat0⟩:=World.cells?_some hc0
  obtain ⟨b,off,spot⟩:=a
  have hspot:spot=none:=by
   have:=hat0 0 hpos
   have hes:es0[0]?=some (es0[0]'(by omega)):=yb (by omega)
   rw [hes] at this
   simpa [Addr.add] using World.cell?_spot this
  subst hspot
  have hadd:∀ n,(⟨b,off,none⟩:Addr).add n=⟨b,off+n,none⟩:=fun n=>by unfold Addr.add;split<;>simp_all
  refine ⟨b,off,rfl,fun i h=>?_⟩
  obtain ⟨es,h1,h2⟩:=hl2 i h
  obtain ⟨_,hlen,hat⟩:=World.cells?_some h1
  refine ⟨es,fun j u hu=>?_,h2⟩
  have hj:j < S.k:=by rw [← hlen];exact (yc.1 hu).1
  have:=hat j hj
  rw [hadd] at this
  have hadd2:(⟨b,off+i*S.k,none⟩:Addr).add j=⟨b,off+i*S.k+j,none⟩:=by unfold Addr.add;split<;>simp_all
  rw [hadd2] at this
  rw [this,hu]
theorem zby {S:Shape α} {T:Shape β} {w:World} {cs:List Value} {o n:Nat} {x:α} {y:β} (h1:S.rd w ((cs.drop o).take S.k) x) (h2:T.rd w ((cs.drop (o+S.k)).take n) y) :
  (S.pair T).rd w ((cs.drop o).take (S.k+n)) (x,y):=by
 refine ⟨(cs.drop o).take S.k,(cs.drop (o+S.k)).take n,?_,h1,h2⟩
 rw [List.take_add,yb5]
end
end Go.Proofs.YtflhdodikmmdcaaGreat
namespace Go.Proofs.YtflhdodikmmdcaaGreat
open Go.RowKit
set_option linter.unusedVariables false
set_option linter.unusedSimpArgs false
set_option linter.unusedSectionVars false
theorem rdF {α H:Type} {T:TypeId} {S:Shape α} {enc:TypeId×Value→H} {w:World} {base n pos k:Nat} {spare:Nat→Bool} {held:Bool} {cs:List Value} {o:Option (DataW H×List MemPlace)} (hR:zcy Tryz.prog T S) (hf:DataW.trod enc Tryz.prog w base spare held n T (List.take (Tryz.prog.cellsOf T) (List.drop pos cs))=o) (hy:∃ y,o=some y) (hc:Tryz.prog.cellsOf T=k):∃ x,S.rd w (List.take k (List.drop pos cs)) x:=by
 obtain ⟨y,rfl⟩:=hy
 rw [hc] at hf
 exact hR H enc w base spare held n _ _ hf
theorem ztl:zcy Tryz.prog 61 strs:=zgJ Tryz.underlying61 (by kernel_rfl) (by decide) (zzN Tryz.underlying9)
theorem zhB:zcy Tryz.prog 63 strs:=by
 intro H enc w base spare held fuel cs y hy
 obtain ⟨xs,n,_,_,hlen,hxl,hf⟩:=DataW.trod_struct Tryz.underlying63 hy
 have hc:Tryz.prog.cellsOf 63=1:=by kernel_rfl
 rw [hc] at hlen
 have hxs:∀ i,i < 1→∃ y,xs[i]?=some y:=fun i hi=>⟨_,yb (by rw [hxl];exact hi)⟩
 obtain ⟨x0,e0⟩:=rdF (pos:=0) (k:=1) ztl (hf 0 _ rfl) (hxs 0 (by decide)) (by kernel_rfl)
 rw [yau,yY (by omega)] at e0
 exact ⟨x0,e0⟩
theorem zv4:zcy Tryz.prog 96 sBytes:=zgJ Tryz.underlying96 (by kernel_rfl) (by decide) (zxZ Tryz.underlying5)
theorem zq2:zcy Tryz.prog 98 sData:=by
 intro H enc w base spare held fuel cs y hy
 obtain ⟨xs,n,_,_,hlen,hxl,hf⟩:=DataW.trod_struct Tryz.underlying98 hy
 have hc:Tryz.prog.cellsOf 98=5:=by kernel_rfl
 rw [hc] at hlen
 have hxs:∀ i,i < 5→∃ y,xs[i]?=some y:=fun i hi=>⟨_,yb (by rw [hxl];exact hi)⟩
 obtain ⟨x0,e0⟩:=rdF (pos:=0) (k:=1) zhB (hf 0 _ rfl) (hxs 0 (by decide)) (by kernel_rfl)
 obtain ⟨x1,e1⟩:=rdF (pos:=1) (k:=1) zv4 (hf 1 _ rfl) (hxs 1 (by decide)) (by kernel_rfl)
 obtain ⟨x2,e2⟩:=rdF (pos:=2) (k:=1) zhB (hf 2 _ rfl) (hxs 2 (by decide)) (by kernel_rfl)
 obtain ⟨x3,e3⟩:=rdF (pos:=3) (k:=1) (zbN Tryz.underlying3) (hf 3 _ rfl) (hxs 3 (by decide)) (by kernel_rfl)
 obtain ⟨x4,e4⟩:=rdF (pos:=4) (k:=1) (zbN Tryz.underlying3) (hf 4 _ rfl) (hxs 4 (by decide)) (by kernel_rfl)
 have hall:=(zby (S:=strs) e0 (zby (S:=sBytes) e1 (zby (S:=strs) e2 (zby (S:=Shape.int) e3 e4))))
 rw [yau] at hall
 have ht:∀ m,5≤m→cs.take m=cs:=fun m hm=>yY (by omega)
 rw [ht _ (by decide)] at hall
 exact ⟨⟨x0,x1,x2,x3,x4⟩,hall⟩
theorem zv5:zcy Tryz.prog 22 sDataL:=zgJ Tryz.underlying22 (by kernel_rfl) (by decide) zq2
theorem zpO:zcy Tryz.prog 172 zkm:=by
 intro H enc w base spare held fuel cs y hy
 obtain ⟨xs,n,_,_,hlen,hxl,hf⟩:=DataW.trod_struct Tryz.underlying172 hy
 have hc:Tryz.prog.cellsOf 172=6:=by kernel_rfl
 rw [hc] at hlen
 have hxs:∀ i,i < 2→∃ y,xs[i]?=some y:=fun i hi=>⟨_,yb (by rw [hxl];exact hi)⟩
 obtain ⟨x0,e0⟩:=rdF (pos:=0) (k:=5) zq2 (hf 0 _ rfl) (hxs 0 (by decide)) (by kernel_rfl)
 obtain ⟨x1,e1⟩:=rdF (pos:=5) (k:=1) (zbN Tryz.underlying3) (hf 1 _ rfl) (hxs 1 (by decide)) (by kernel_rfl)
 have hall:=(zby (S:=sData) e0 e1)
 rw [yau] at hall
 have ht:∀ m,6≤m→cs.take m=cs:=fun m hm=>yY (by omega)
 rw [ht _ (by decide)] at hall
 exact ⟨⟨x0,x1⟩,hall⟩
theorem zoB:zcy Tryz.prog 23 znR:=zgJ Tryz.underlying23 (by kernel_rfl) (by decide) zpO
theorem znM:zcy Tryz.prog 25 sContentStore:=by
 intro H enc w base spare held fuel cs y hy
 obtain ⟨xs,n,_,_,hlen,hxl,hf⟩:=DataW.trod_struct Tryz.underlying25 hy
 have hc:Tryz.prog.cellsOf 25=2:=by kernel_rfl
 rw [hc] at hlen
 have hxs:∀ i,i < 2→∃ y,xs[i]?=some y:=fun i hi=>⟨_,yb (by rw [hxl];exact hi)⟩
 obtain ⟨x0,e0⟩:=rdF (pos:=0) (k:=1) (zbN Tryz.underlying3) (hf 0 _ rfl) (hxs 0 (by decide)) (by kernel_rfl)
 obtain ⟨x1,e1⟩:=rdF (pos:=1) (k:=1) zoB (hf 1 _ rfl) (hxs 1 (by decide)) (by kernel_rfl)
 have hall:=(zby (S:=Shape.int) e0 e1)
 rw [yau] at hall
 have ht:∀ m,2≤m→cs.take m=cs:=fun m hm=>yY (by omega)
 rw [ht _ (by decide)] at hall
 exact ⟨⟨x0,x1⟩,hall⟩
theorem zq4:zcy Tryz.prog 215 zkO:=by
 intro H enc w base spare held fuel cs y hy
 obtain ⟨xs,n,_,_,hlen,hxl,hf⟩:=DataW.trod_struct Tryz.underlying215 hy
 have hc:Tryz.prog.cellsOf 215=3:=by kernel_rfl
 rw [hc] at hlen
 have hxs:∀ i,i < 3→∃ y,xs[i]?=some y:=fun i hi=>⟨_,yb (by rw [hxl];exact hi)⟩
 obtain ⟨x0,e0⟩:=rdF (pos:=0) (k:=1) (zbN Tryz.underlying3) (hf 0 _ rfl) (hxs 0 (by decide)) (by kernel_rfl)
 obtain ⟨x1,e1⟩:=rdF (pos:=1) (k:=1) (zbN Tryz.underlying3) (hf 1 _ rfl) (hxs 1 (by decide)) (by kernel_rfl)
 obtain ⟨x2,e2⟩:=rdF (pos:=2) (k:=1) (zbN Tryz.underlying3) (hf 2 _ rfl) (hxs 2 (by decide)) (by kernel_rfl)
 have hall:=(zby (S:=Shape.int) e0 (zby (S:=Shape.int) e1 e2))
 rw [yau] at hall
 have ht:∀ m,3≤m→cs.take m=cs:=fun m hm=>yY (by omega)
 rw [ht _ (by decide)] at hall
 exact ⟨⟨x0,x1,x2⟩,hall⟩
theorem zpP:zcy Tryz.prog 101 sRequesterL:=zgJ Tryz.underlying101 (by kernel_rfl) (by decide) zq4
theorem zlV:zcy Tryz.prog 103 zhN:=by
 intro H enc w base spare held fuel cs y hy
 obtain ⟨xs,n,_,_,hlen,hxl,hf⟩:=DataW.trod_struct Tryz.underlying103 hy
 have hc:Tryz.prog.cellsOf 103=3:=by kernel_rfl
 rw [hc] at hlen
 have hxs:∀ i,i < 3→∃ y,xs[i]?=some y:=fun i hi=>⟨_,yb (by rw [hxl];exact hi)⟩
 obtain ⟨x0,e0⟩:=rdF (pos:=0) (k:=1) zhB (hf 0 _ rfl) (hxs 0 (by decide)) (by kernel_rfl)
 obtain ⟨x1,e1⟩:=rdF (pos:=1) (k:=1) zpP (hf 1 _ rfl) (hxs 1 (by decide)) (by kernel_rfl)
 obtain ⟨x2,e2⟩:=rdF (pos:=2) (k:=1) (zbN Tryz.underlying3) (hf 2 _ rfl) (hxs 2 (by decide)) (by kernel_rfl)
 have hall:=(zby (S:=strs) e0 (zby (S:=sRequesterL) e1 e2))
 rw [yau] at hall
 have ht:∀ m,3≤m→cs.take m=cs:=fun m hm=>yY (by omega)
 rw [ht _ (by decide)] at hall
 exact ⟨⟨x0,x1,x2⟩,hall⟩
theorem zlL:zcy Tryz.prog 26 sPendingInterestL:=zgJ Tryz.underlying26 (by kernel_rfl) (by decide) zlV
theorem zq5:zcy Tryz.prog 106 zkP:=by
 intro H enc w base spare held fuel cs y hy
 obtain ⟨xs,n,_,_,hlen,hxl,hf⟩:=DataW.trod_struct Tryz.underlying106 hy
 have hc:Tryz.prog.cellsOf 106=2:=by kernel_rfl
 rw [hc] at hlen
 have hxs:∀ i,i < 2→∃ y,xs[i]?=some y:=fun i hi=>⟨_,yb (by rw [hxl];exact hi)⟩
 obtain ⟨x0,e0⟩:=rdF (pos:=0) (k:=1) zhB (hf 0 _ rfl) (hxs 0 (by decide)) (by kernel_rfl)
 obtain ⟨x1,e1⟩:=rdF (pos:=1) (k:=1) (zbN Tryz.underlying3) (hf 1 _ rfl) (hxs 1 (by decide)) (by kernel_rfl)
 have hall:=(zby (S:=strs) e0 e1)
 rw [yau] at hall
 have ht:∀ m,2≤m→cs.take m=cs:=fun m hm=>yY (by omega)
 rw [ht _ (by decide)] at hall
 exact ⟨⟨x0,x1⟩,hall⟩
theorem zpQ:zcy Tryz.prog 27 sSeenNonceL:=zgJ Tryz.underlying27 (by kernel_rfl) (by decide) zq5
theorem zv6:zcy Tryz.prog 109 zq9:=by
 intro H enc w base spare held fuel cs y hy
 obtain ⟨xs,n,_,_,hlen,hxl,hf⟩:=DataW.trod_struct Tryz.underlying109 hy
 have hc:Tryz.prog.cellsOf 109=3:=by kernel_rfl
 rw [hc] at hlen
 have hxs:∀ i,i < 3→∃ y,xs[i]?=some y:=fun i hi=>⟨_,yb (by rw [hxl];exact hi)⟩
 obtain ⟨x0,e0⟩:=rdF (pos:=0) (k:=1) zhB (hf 0 _ rfl) (hxs 0 (by decide)) (by kernel_rfl)
 obtain ⟨x1,e1⟩:=rdF (pos:=1) (k:=1) (zbN Tryz.underlying3) (hf 1 _ rfl) (hxs 1 (by decide)) (by kernel_rfl)
 obtain ⟨x2,e2⟩:=rdF (pos:=2) (k:=1) (zbN Tryz.underlying3) (hf 2 _ rfl) (hxs 2 (by decide)) (by kernel_rfl)
 have hall:=(zby (S:=strs) e0 (zby (S:=Shape.int) e1 e2))
 rw [yau] at hall
 have ht:∀ m,3≤m→cs.take m=cs:=fun m hm=>yY (by omega)
 rw [ht _ (by decide)] at hall
 exact ⟨⟨x0,x1,x2⟩,hall⟩
theorem zu7:zcy Tryz.prog 28 sRouteL:=zgJ Tryz.underlying28 (by kernel_rfl) (by decide) zv6
theorem zoC:zcy Tryz.prog 112 zjR:=by
 intro H enc w base spare held fuel cs y hy
 obtain ⟨xs,n,_,_,hlen,hxl,hf⟩:=DataW.trod_struct Tryz.underlying112 hy
 have hc:Tryz.prog.cellsOf 112=3:=by kernel_rfl
 rw [hc] at hlen
 have hxs:∀ i,i < 3→∃ y,xs[i]?=some y:=fun i hi=>⟨_,yb (by rw [hxl];exact hi)⟩
 obtain ⟨x0,e0⟩:=rdF (pos:=0) (k:=1) zhB (hf 0 _ rfl) (hxs 0 (by decide)) (by kernel_rfl)
 obtain ⟨x1,e1⟩:=rdF (pos:=1) (k:=1) (zbN Tryz.underlying3) (hf 1 _ rfl) (hxs 1 (by decide)) (by kernel_rfl)
 obtain ⟨x2,e2⟩:=rdF (pos:=2) (k:=1) (zbN Tryz.underlying3) (hf 2 _ rfl) (hxs 2 (by decide)) (by kernel_rfl)
 have hall:=(zby (S:=strs) e0 (zby (S:=Shape.int) e1 e2))
 rw [yau] at hall
 have ht:∀ m,3≤m→cs.take m=cs:=fun m hm=>yY (by omega)
 rw [ht _ (by decide)] at hall
 exact ⟨⟨x0,x1,x2⟩,hall⟩
theorem znN:zcy Tryz.prog 29 sMeasurementL:=zgJ Tryz.underlying29 (by kernel_rfl) (by decide) zoC
theorem zxY:zcy Tryz.prog 31 sNode:=by
 intro H enc w base spare held fuel cs y hy
 obtain ⟨xs,n,_,_,hlen,hxl,hf⟩:=DataW.trod_struct Tryz.underlying31 hy
 have hc:Tryz.prog.cellsOf 31=8:=by kernel_rfl
 rw [hc] at hlen
 have hxs:∀ i,i < 7→∃ y,xs[i]?=some y:=fun i hi=>⟨_,yb (by rw [hxl];exact hi)⟩
 obtain ⟨x0,e0⟩:=rdF (pos:=0) (k:=1) zv5 (hf 0 _ rfl) (hxs 0 (by decide)) (by kernel_rfl)
 obtain ⟨x1,e1⟩:=rdF (pos:=1) (k:=2) znM (hf 1 _ rfl) (hxs 1 (by decide)) (by kernel_rfl)
 obtain ⟨x2,e2⟩:=rdF (pos:=3) (k:=1) zlL (hf 2 _ rfl) (hxs 2 (by decide)) (by kernel_rfl)
 obtain ⟨x3,e3⟩:=rdF (pos:=4) (k:=1) zpQ (hf 3 _ rfl) (hxs 3 (by decide)) (by kernel_rfl)
 obtain ⟨x4,e4⟩:=rdF (pos:=5) (k:=1) zu7 (hf 4 _ rfl) (hxs 4 (by decide)) (by kernel_rfl)
 obtain ⟨x5,e5⟩:=rdF (pos:=6) (k:=1) znN (hf 5 _ rfl) (hxs 5 (by decide)) (by kernel_rfl)
 obtain ⟨x6,e6⟩:=rdF (pos:=7) (k:=1) (zbN Tryz.underlying3) (hf 6 _ rfl) (hxs 6 (by decide)) (by kernel_rfl)
 have hall:=(zby (S:=sDataL) e0 (zby (S:=sContentStore) e1 (zby (S:=sPendingInterestL) e2 (zby (S:=sSeenNonceL) e3 (zby (S:=sRouteL) e4 (zby (S:=sMeasurementL) e5 e6))))))
 rw [yau] at hall
 have ht:∀ m,8≤m→cs.take m=cs:=fun m hm=>yY (by omega)
 rw [ht _ (by decide)] at hall
 exact ⟨⟨x0,x1,x2,x3,x4,x5,x6⟩,hall⟩
theorem zsa:zcy Tryz.prog 65 zly:=by
 intro H enc w base spare held fuel cs y hy
 obtain ⟨xs,n,_,_,hlen,hxl,hf⟩:=DataW.trod_struct Tryz.underlying65 hy
 have hc:Tryz.prog.cellsOf 65=4:=by kernel_rfl
 rw [hc] at hlen
 have hxs:∀ i,i < 4→∃ y,xs[i]?=some y:=fun i hi=>⟨_,yb (by rw [hxl];exact hi)⟩
 obtain ⟨x0,e0⟩:=rdF (pos:=0) (k:=1) zhB (hf 0 _ rfl) (hxs 0 (by decide)) (by kernel_rfl)
 obtain ⟨x1,e1⟩:=rdF (pos:=1) (k:=1) (zbN Tryz.underlying3) (hf 1 _ rfl) (hxs 1 (by decide)) (by kernel_rfl)
 obtain ⟨x2,e2⟩:=rdF (pos:=2) (k:=1) (zbN Tryz.underlying3) (hf 2 _ rfl) (hxs 2 (by decide)) (by kernel_rfl)
 obtain ⟨x3,e3⟩:=rdF (pos:=3) (k:=1) (zbN Tryz.underlying3) (hf 3 _ rfl) (hxs 3 (by decide)) (by kernel_rfl)
 have hall:=(zby (S:=strs) e0 (zby (S:=Shape.int) e1 (zby (S:=Shape.int) e2 e3)))
 rw [yau] at hall
 have ht:∀ m,4≤m→cs.take m=cs:=fun m hm=>yY (by omega)
 rw [ht _ (by decide)] at hall
 exact ⟨⟨x0,x1,x2,x3⟩,hall⟩
theorem zq3:zcy Tryz.prog 32 sInterestL:=zgJ Tryz.underlying32 (by kernel_rfl) (by decide) zsa
end Go.Proofs.YtflhdodikmmdcaaGreat
