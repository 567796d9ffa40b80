import Derived.Test.YtflhdodikmmdcaaGreatEngStore
import Derived.Deep.AppendSrc
import Derived.Deep.Upon
namespace Go.Proofs.YtflhdodikmmdcaaGreat
open Go.RowKit
set_option linter.unusedVariables false
set_option linter.unusedSimpArgs false
set_option linter.unusedSectionVars false
theorem zkS {α:Type} {k:Nat}:∀ {l:List (List α)},(∀ es ∈ l,es.length=k)→∀ (x:Nat) es,l[x]?=some es→∀ (j:Nat) p,es[j]?=some p→l.flatten[x*k+j]?=some p
 | [],_,x,es,hx,_,_,_=>by simp at hx
 | e0::l,hk,0,es,hx,j,p,hp=>by
  simp only [yD,yd] at hx
  subst hx
  have:j < e0.length:=(yc.1 hp).1
  rw [yaG,Nat.zero_mul,yaq,yA this]
  exact hp
 | e0::l,hk,x+1,es,hx,j,p,hp=>by
  have h0:=hk e0 (by simp)
  rw [yaG,yw (by rw [h0,yap];omega)]
  have:=zkS (l:=l) (k:=k) (fun es h=>hk es (by simp [h])) x es (by simpa using hx) j p hp
  rw [← this]
  congr 1
  rw [h0,yap]
  omega
theorem zga {α:Type} {k:Nat}:∀ {l:List (List α)},(∀ es ∈ l,es.length=k)→l.flatten.length=l.length*k
 | [],_=>by simp
 | e0::l,hk=>by
  rw [yaG,yO,hk e0 (by simp),zga fun es h=>hk es (by simp [h]),yac,yap]
  omega
theorem zqp {k m n:Nat} (hk:0 < k) (h:m < n*k):m / k < n∧m % k < k∧m / k*k+m % k=m:=⟨(Nat.div_lt_iff_lt_mul hk).2 h,Nat.mod_lt _ hk,by rw [yci];exact Nat.div_add_mod m k⟩
structure Took (P:Program) (w:World) (k:Nat) (tx:TypeId) (v:Value) (l:List (List Cell)) (us:List (List Value)):Prop where
 src:Src P k tx v l.length us.flatten w
 len:us.length=l.length
 el:∀ (x:Nat) es,l[x]?=some es→es.length=k
 uk:∀ es ∈ us,es.length=k
theorem zCJ {v:Value} (h:oneV v):v.oneCell'=true:=by
 cases v<;>first|rfl|exact absurd rfl (h.1 _)|exact absurd rfl (h.2 _)
theorem zlA {P:Program} {w:World} {k:Nat} {tx:TypeId} (hk:(∃ e',P.underlying tx=some (.slice e'))∨P.underlying tx=some .string) {A:Option Addr} {n c:Nat} {us:List (List Value)} (hl:us.length=n) (huk:∀ es ∈ us,es.length=k) (hA:∀ (x:Nat) es,us[x]?=some es→∃ b off,A=some ⟨b,off,none⟩∧∀ (j:Nat) u,es[j]?=some u→w.cell? ⟨b,off+x*k+j,none⟩=some u∧oneV u) (hk0:0 < k) (hn:A=none→n=0) :
  Src P k tx (.slice A n c) n us.flatten w:=by
 cases A with
 | none =>
  have h0:=hn rfl
  subst h0
  have:us=[]:=by simpa using hl
  subst this
  exact ⟨hk,fun _=>rfl,run_firstCells_none w k 0 0 c,run_firstCells_none w.drew k 0 0 c,by simp,fun _ h=>by cases h⟩
 | some a =>
  have hone:∀ u ∈ us.flatten,u.oneCell'=true:=by
   intro u hu
   obtain ⟨es,hes,hu'⟩:=ybg.1 hu
   obtain ⟨x,hx⟩:=yao hes
   obtain ⟨j,hj⟩:=yao hu'
   obtain ⟨b,off,_,h⟩:=hA x es hx
   exact zCJ (h j u hj).2
  have hcells:∀ (m:Nat) u,us.flatten[m]?=some u→w.cell? (a.add m)=some u:=?_
  ·exact ⟨hk,fun _=>rfl,run_firstCells_some w k n a n c us.flatten (by rw [zga huk,hl]) hcells,run_firstCells_some w.drew k n a n c us.flatten (by rw [zga huk,hl]) (by simpa using hcells),by rw [zga huk,hl],hone⟩
  intro m u hm
  have hml:m < us.length*k:=by rw [← zga huk];exact (yc.1 hm).1
  obtain ⟨h1,h2,h3⟩:=zqp hk0 hml
  have hx:us[m / k]?=some us[m / k]:=yb h1
  obtain ⟨b,off,hA',h⟩:=hA _ _ hx
  injection hA' with hA'
  subst hA'
  have hlen:=huk us[m / k] (yaa h1)
  have hj:us[m / k][m % k]?=some (us[m / k][m % k]'(by omega)):=yb (by omega)
  have:=zkS huk _ _ hx _ _ hj
  rw [h3,hm] at this
  injection this with this
  rw [← this] at hj
  have:=(h _ _ hj).1
  rw [yaf,h3] at this
  rw [zjz]
  exact this
def usOf (w:World) (A:Option Addr) (n k:Nat):List (List Value) :=
 match A with
 | some a=>(List.range n).map fun x=>(List.range k).map fun j=>(w.cell? ⟨a.block,a.off+x*k+j,none⟩).getD undef
 | none=>[]
theorem zhP {w:World} {A:Option Addr} {n k:Nat} (h:A=none→n=0):(usOf w A n k).length=n:=by
 unfold usOf
 cases A with
 | none=>simp [h rfl]
 | some a=>simp
theorem ziT {w:World} {A:Option Addr} {n k:Nat}:∀ es ∈ usOf w A n k,es.length=k:=by
 intro es h
 unfold usOf at h
 cases A with
 | none=>simp at h
 | some a =>
  obtain ⟨x,_,rfl⟩:=yak.1 h
  simp
theorem zkW {w:World} {a:Addr} {n k x j:Nat} {u:Value} (hx:x < n) (hj:j < k) (hu:w.cell? ⟨a.block,a.off+x*k+j,none⟩=some u):((usOf w (some a) n k)[x]?).bind (·[j]?)=some u:=by
 simp [usOf,hx,hj,hu]
theorem zmL {w:World} {A:Option Addr} {n k x:Nat} {es:List Value} (h:(usOf w A n k)[x]?=some es):∃ a,A=some a∧x < n∧∀ (j:Nat) u,es[j]?=some u→j < k∧u=(w.cell? ⟨a.block,a.off+x*k+j,none⟩).getD undef:=by
 unfold usOf at h
 cases A with
 | none=>simp at h
 | some a =>
  have hx:x < n:=by have:=(yc.1 h).1;simpa using this
  refine ⟨a,rfl,hx,fun j u hu=>?_⟩
  simp only [yl,yat hx,yk,yd] at h
  subst h
  have hj:j < k:=by have:=(yc.1 hu).1;simpa using this
  simp only [yl,yat hj,yk,yd] at hu
  exact ⟨hj,hu.symm⟩
structure Taken (P:Program) (E:Env) (w:World) (k:Nat) (tx:TypeId) (v:Value) (l:List (List Cell)) (hp hp0:List (Nm×Bk)) (m:Nm) (s0:Nat) (E1:Env) (us:List (List Value)):Prop where
 turn:∃ gone,Turn E E1 w w (fun _=>False) gone
 wf:WfE E1 w
 φ:E1.φ=E.φ
 blk:∀ n b,look hp n=some b→BkOk E1 w n b
 nm:∀ n b,look hp n=some b→∃ b',look hp0 n=some b'
 took:Took P w k tx v l us
 cv:∀ (x:Nat) es,l[x]?=some es→∀ (j:Nat) p,es[j]?=some p→∃ u,((us[x]?).bind (·[j]?))=some u∧CvB E1 w m (s0+x) j p u
theorem zAu {E:Env} {w:World} {s:Bool} {d:DT} {c:Cell} {u:Value} (h:Rd (RS E s) w u d) (hl:zdO s d=some c):CvC E w c u∧oneV u:=by
 unfold zdO at hl
 split at hl
 ·rename_i v
  split at hl
  ·rename_i hp
   injection hl with hl
   subst hl
   obtain ⟨n,h⟩:=h
   have hu:u=v:=by cases n<;>exact h
   have hc:CvC E w (.at v) u:=hu
   exact ⟨hc,(ziP hc hp).2⟩
  ·cases hl
 ·injection hl with hl
  subst hl
  exact ⟨h,(ziP (x:=.rd s _ _ _) h rfl).2⟩
 ·cases hl
theorem zBy {P:Program} {E:Env} {w:World} (hW:WfE E w) {hp:List (Nm×Bk)} (hB:∀ n b,look hp n=some b→BkOk E w n b) {k:Nat} {tx:TypeId} (hk0:0 < k) (hkind:(∃ e',P.underlying tx=some (.slice e'))∨P.underlying tx=some .string) {s:Bool} {e:Nat} {ll:List (List DT)} {v:Value} (hv:CvC E w (.rd s e k ll) v) {l:List (List Cell)} (hl:mapO (mapO (zdO s)) ll=some l) (m:Nm) (s0:Nat) :
  ∃ us,Taken P E w k tx v l hp hp m s0 E us:=by
 obtain ⟨n,hr⟩:=hv
 cases n with
 | zero=>exact hr.elim
 | succ n =>
  obtain ⟨A,c,rfl,h1,h2,hj⟩:=hr
  obtain ⟨hlen,hm⟩:=zV hl
  have hA0:A=none→ll.length=0:=by
   intro hA
   cases hll:ll with
   | nil=>rfl
   | cons e0 r =>
    obtain ⟨_,b,off,hA',_⟩:=hj 0 e0 (by simp [hll])
    rw [hA] at hA'
    cases hA'
  have key:∀ (x:Nat) es,l[x]?=some es→es.length=k∧∃ a,A=some a∧x < ll.length∧∀ (j:Nat) p,es[j]?=some p→j < k∧∃ u,w.cell? ⟨a.block,a.off+x*k+j,none⟩=some u∧CvC E w p u∧oneV u:=by
   intro x es hx
   have hxl:x < ll.length:=by rw [← hlen];exact (yc.1 hx).1
   have hle:ll[x]?=some ll[x]:=yb hxl
   obtain ⟨es',hes',hme⟩:=hm x _ hle
   rw [hes'] at hx
   injection hx with hx
   subst hx
   obtain ⟨hlen2,hm2⟩:=zV hme
   obtain ⟨hke,b,off,hA,hR,hc⟩:=hj x _ hle
   refine ⟨by rw [hlen2,hke],⟨b,off,none⟩,hA,hxl,fun j p hp=>?_⟩
   have hjl:j < ll[x].length:=by rw [← hlen2];exact (yc.1 hp).1
   have hd:ll[x][j]?=some ll[x][j]:=yb hjl
   obtain ⟨c',hc',hld⟩:=hm2 j _ hd
   rw [hc'] at hp
   injection hp with hp
   subst hp
   obtain ⟨u,hu,hr⟩:=hc j _ hd
   obtain ⟨g1,g2⟩:=zAu (E:=E) ⟨n,hr⟩ hld
   exact ⟨by rw [← hke];exact hjl,u,hu,g1,g2⟩
  refine ⟨usOf w A ll.length k,⟨⟨fun _=>False,Turn.refl E w _⟩,hW,rfl,hB,fun n b hb=>⟨b,hb⟩,⟨?_,by rw [zhP hA0,hlen],fun x es hx=>(key x es hx).1,ziT⟩,fun x es hx j p hp=>?_⟩⟩
  ·rw [hlen]
   refine zlA hkind (zhP hA0) ziT (fun x es hx=>?_) hk0 hA0
   obtain ⟨a,hA,hxl,hes⟩:=zmL hx
   have hlx:l[x]?=some (l[x]'(by omega)):=yb (by omega)
   obtain ⟨hk',a',hA',_,hcell⟩:=key x _ hlx
   rw [hA] at hA'
   injection hA' with hA'
   subst hA'
   have hsp:a.spot=none:=by
    obtain ⟨_,b,off,hA'',_⟩:=hj x _ (yb hxl)
    rw [hA] at hA''
    injection hA'' with hA''
    rw [hA'']
   refine ⟨a.block,a.off,by rw [hA];cases a;simp_all,fun j u hu=>?_⟩
   obtain ⟨hjk,hu'⟩:=hes j u hu
   obtain ⟨_,u2,hu2,_,ho⟩:=hcell j _ (yb (by omega))
   rw [hu2] at hu'
   simp at hu'
   subst hu'
   exact ⟨hu2,ho⟩
  ·obtain ⟨_,a,hA,hxl,hcell⟩:=key x es hx
   obtain ⟨hjk,u,hu,hC,_⟩:=hcell j p hp
   refine ⟨u,?_,CvB.of_CvC hC⟩
   rw [hA]
   exact zkW hxl hjk hu
theorem zAf {P:Program} {E:Env} {w:World} (hW:WfE E w) {hp:List (Nm×Bk)} (hB:∀ n b,look hp n=some b→BkOk E w n b) {k:Nat} {tx:TypeId} (hkind:(∃ e',P.underlying tx=some (.slice e'))∨P.underlying tx=some .string) {v:Value} (hv:v=.slice none 0 0) (m:Nm) (s0:Nat) :
  ∃ us,Taken P E w k tx v [] hp hp m s0 E us:=by
 subst hv
 exact ⟨[],⟨⟨fun _=>False,Turn.refl E w _⟩,hW,rfl,hB,fun n b hb=>⟨b,hb⟩,⟨⟨hkind,fun _=>rfl,run_firstCells_none w k 0 0 0,run_firstCells_none w.drew k 0 0 0,by simp,(fun _ h=>by cases h)⟩,rfl,(fun x es hx=>by simp at hx),(fun es h=>by cases h)⟩,(fun x es hx=>by simp at hx)⟩⟩
theorem zAh {P:Program} {E:Env} {w:World} (hW:WfE E w) {hp:List (Nm×Bk)} (hB:∀ n b,look hp n=some b→BkOk E w n b) {tx:TypeId} (hkind:(∃ e',P.underlying tx=some (.slice e'))∨P.underlying tx=some .string) (s:ByteArray) (m:Nm) (s0:Nat) :
  ∃ us,Taken P E w 1 tx (.string s) (za.bytes s) hp hp m s0 E us:=by
 have hfl:(s.data.toList.map fun b=>[Value.int .u8 b.toNat]).flatten=byteCells s:=by
  unfold byteCells
  induction s.data.toList with
  | nil=>rfl
  | cons b l ih=>simp [ih]
 have hl:(za.bytes s).length=s.size:=by simp [za]
 refine ⟨s.data.toList.map fun b=>[Value.int .u8 b.toNat],⟨⟨fun _=>False,Turn.refl E w _⟩,hW,rfl,hB,fun n b hb=>⟨b,hb⟩,⟨?_,by simp [za],fun x es hx=>?_,fun es h=>?_⟩,fun x es hx j p hp=>?_⟩⟩
 ·rw [hfl,hl]
  exact ⟨hkind,fun _=>rfl,firstCells_string s w,firstCells_string s w.drew,by rw [byteCells_length,yV],fun u hu=>by
   obtain ⟨_,_,rfl⟩:=yak.1 hu
   rfl⟩
 ·simp only [za,yl] at hx
  cases hb:s.data.toList[x]? with
  | none=>simp [hb] at hx
  | some b=>simp only [hb,yk,yd] at hx;subst hx;rfl
 ·obtain ⟨b,_,rfl⟩:=yak.1 h;rfl
 ·simp only [za,yl] at hx
  cases hb:s.data.toList[x]? with
  | none=>simp [hb] at hx
  | some b =>
   simp only [hb,yk,yd] at hx
   subst hx
   cases j with
   | succ j=>simp at hp
   | zero =>
    simp at hp
    subst hp
    refine ⟨.int .u8 b.toNat,by simp [yl,hb],rfl⟩
theorem zps {p q:Cell} (h:zki p=some q):p=q∧(∀ v,p=.at v→zk9 v=true)∧((∃ v,p=.at v)∨(∃ e k,p=.nil e k)∨(∃ s e k l,p=.rd s e k l)∨(∃ e k l,p=.own e k l)):=by
 unfold zki at h
 split at h
 ·rename_i v
  split at h
  ·rename_i hp;injection h with h;exact ⟨h,fun v' hv=>by injection hv with hv;subst hv;exact hp,.inl ⟨v,rfl⟩⟩
  ·cases h
 ·injection h with h;exact ⟨h,(fun v hv=>by cases hv),.inr (.inl ⟨_,_,rfl⟩)⟩
 ·split at h
  ·injection h with h;exact ⟨h,(fun v hv=>by cases hv),.inr (.inr (.inl ⟨_,_,_,_,rfl⟩))⟩
  ·cases h
 ·injection h with h;exact ⟨h,(fun v hv=>by cases hv),.inr (.inr (.inr ⟨_,_,_,rfl⟩))⟩
 ·cases h
theorem zqM {w:World} {S:Nat→Prop} {v:Value} {e k:Nat} {l:List (List DT)} (h:Ow w S v (.sl e k l)):oneV v:=by
 obtain ⟨n,h⟩:=h
 cases n with
 | zero=>exact h.elim
 | succ n =>
  rcases h with ⟨rfl,_⟩|⟨g,o,c,cur,fz,rfl,_⟩<;>constructor<;>intro _ h<;>cases h
theorem zAB {E:Env} {w:World} {i:Nm} {x j:Nat} {p q:Cell} {u:Value} (h:CvB E w i x j p u) (hm:zki p=some q):oneV u:=by
 obtain ⟨rfl,h1,h2⟩:=zps hm
 rcases h2 with ⟨v,rfl⟩|⟨e,k,rfl⟩|⟨s,e,k,l,rfl⟩|⟨e,k,l,rfl⟩
 ·exact (ziP (E:=E) (w:=w) (x:=.at v) h (h1 v rfl)).2
 ·exact (ziP (E:=E) (w:=w) (x:=.nil e k) h rfl).2
 ·exact (ziP (E:=E) (w:=w) (x:=.rd s e k l) h rfl).2
 ·exact zqM h
def shift (E:Env) (j m:Nm) (off n s0:Nat):Env:=⟨E.φ,(fun b=>match E.ω b with
 | some (i,some (y,q))=>if i=j∧off≤y∧y < off+n then some (m,some (s0+(y - off),q)) else some (i,some (y,q))
 | o=>o),E.B⟩
theorem zrb {E:Env} {j m:Nm} {off n s0 b:Nat} {y:Nm×Option (Nat×Nat)} (h:(shift E j m off n s0).ω b=some y):∃ z,E.ω b=some z:=by
 simp only [shift] at h
 split at h
 ·rename_i i a q hb;exact ⟨_,hb⟩
 ·exact ⟨_,h⟩
theorem zmE (E:Env) (w:World) (j m:Nm) (off n s0:Nat):Turn E (shift E j m off n s0) w w (fun _=>False) (fun i=>i=j):=by
 refine ⟨fun _ _ h=>h,fun b i x hb hi=>?_,fun b i c hb=>?_,fun _=>yaF,yz _,fun _ _ _=>rfl,fun _ h=>h.elim,fun _ h=>h.elim⟩
 ·simp only [shift,hb]
  cases x with
  | none=>rfl
  | some c=>obtain ⟨y,q⟩:=c;simp only [];rw [if_neg (fun h=>hi h.1)]
 ·obtain ⟨y,q⟩:=c
  simp only [shift,hb]
  split
  ·exact ⟨_,_,rfl⟩
  ·exact ⟨_,_,rfl⟩
theorem zvf {E:Env} {w:World} (hW:WfE E w) (j m:Nm) (off n s0:Nat):WfE (shift E j m off n s0) w :=
 ⟨fun b x hx=>by obtain ⟨z,hz⟩:=zrb hx;exact hW.lt b z hz,fun b x hx=>by obtain ⟨z,hz⟩:=zrb hx;exact hW.nb b z hz,hW.bl⟩
theorem zAg {P:Program} {E:Env} {w:World} (hW:WfE E w) {hp:List (Nm×Bk)} (hB:∀ n b,look hp n=some b→BkOk E w n b) {k:Nat} {tx:TypeId} (hk0:0 < k) (hkind:(∃ e',P.underlying tx=some (.slice e'))∨P.underlying tx=some .string) {i:Nm} {e off n:Nat} {v:Value} (hv:CvL E w (.row i e k off n) v) {b:Bk} (hb:look hp i=some b) (hkb:k=b.k) (hle:off+n≤b.el.length) {l:List (List Cell)} (hl:mapO (mapO zki) ((b.el.drop off).take n)=some l) (m:Nm) (s0:Nat) (lit:Bool) :
  ∃ us,Taken P E w k tx v l (upd hp i ⟨b.isRow,lit,b.e,b.k,za.rout b.el off n⟩) hp m s0 (shift E i m off n s0) us:=by
 have hW1:=zvf hW i m off n s0
 have G:=zmE E w i m off n s0
 obtain ⟨hlen,hm⟩:=zV hl
 have hln:l.length=n:=by rw [hlen];simp;omega
 obtain ⟨A,c,rfl,hc1,hc2,h3⟩:=hv
 subst hkb
 rcases hB i b hb with ⟨hφ,hr,hnil⟩|⟨g,cur,fz,hφ,hω,hh,hfz,hrow,hc⟩
 ·-- a nil slice
  have hn0:n=0:=by rw [hnil] at hle;simp at hle;omega
  subst hn0
  have hl0:l=[]:=by simpa using hln
  subst hl0
  refine ⟨[],⟨⟨_,G⟩,hW1,rfl,fun n' b' hb'=>?_,fun n' b' hb'=>?_,⟨?_,rfl,(fun x es hx=>by simp at hx),(fun es h=>by cases h)⟩,(fun x es hx=>by simp at hx)⟩⟩
  ·rcases zhx hb' with ⟨rfl,rfl⟩|⟨hne,hlk⟩
   ·exact .inl ⟨hφ,hr,by simp [za,hnil]⟩
   ·exact (hB n' b' hlk).turn hW G hne (fun _ h=>h.elim)
  ·rcases zhx hb' with ⟨rfl,rfl⟩|⟨hne,hlk⟩
   ·exact ⟨b,hb⟩
   ·exact ⟨b',hlk⟩
  ·exact zlA (us:=[]) hkind rfl (by simp) (fun x es hx=>by simp at hx) hk0 (fun _=>rfl)
 ·have hA0:A=none→n=0:=by
   intro hA
   rcases h3 with ⟨hφ',_⟩|⟨g',hφ',hA',_⟩
   ·rw [hφ] at hφ';injection hφ' with hφ';cases hφ'
   ·rcases yb7 n with h|h
    ·exact h
    ·rw [hA] at hA';cases (hA' h).1
  have hAs:0 < n→A=some ⟨g.1,g.2+off*b.k,none⟩:=by
   intro hn
   rcases h3 with ⟨hφ',_⟩|⟨g',hφ',hA',_⟩
   ·rw [hφ] at hφ';injection hφ' with hφ';cases hφ'
   ·rw [hφ] at hφ';injection hφ' with hφ';injection hφ' with hφ';subst hφ';exact (hA' hn).1
  have key:∀ (x:Nat) es,l[x]?=some es→es.length=b.k∧x < n∧∀ (j:Nat) p,es[j]?=some p→j < b.k∧∃ u,cur[g.2+(off+x)*b.k+j]?=some u∧CvB E w i (off+x) j p u∧oneV u:=by
   intro x es hx
   have hxn:x < n:=by rw [← hln];exact (yc.1 hx).1
   have hbe:b.el[off+x]?=some (b.el[off+x]'(by omega)):=yb (by omega)
   have hel:((b.el.drop off).take n)[x]?=some (b.el[off+x]'(by omega)):=by rw [yai hxn,yad,hbe]
   obtain ⟨es',hes',hme⟩:=hm x _ hel
   rw [hes'] at hx
   injection hx with hx
   subst hx
   obtain ⟨hlen2,hm2⟩:=zV hme
   obtain ⟨hke,hcj⟩:=hc _ _ hbe
   refine ⟨by rw [hlen2,hke],hxn,fun j p hp=>?_⟩
   have hjl:j < (b.el[off+x]'(by omega)).length:=by rw [← hlen2];exact (yc.1 hp).1
   have hq:(b.el[off+x]'(by omega))[j]?=some ((b.el[off+x]'(by omega))[j]):=yb hjl
   obtain ⟨u,hu,hC⟩:=hcj j _ hq
   obtain ⟨p',hp',hmv⟩:=hm2 j _ hq
   rw [hp'] at hp
   injection hp with hp
   subst hp
   obtain ⟨he,_⟩:=zps hmv
   rw [← he]
   exact ⟨by rw [← hke];exact hjl,u,hu,hC,zAB hC hmv⟩
  refine ⟨usOf w A n b.k,⟨⟨_,G⟩,hW1,rfl,fun n' b' hb'=>?_,fun n' b' hb'=>?_,⟨?_,by rw [zhP hA0,hln],fun x es hx=>(key x es hx).1,ziT⟩,fun x es hx j p hp=>?_⟩⟩
  ·rcases zhx hb' with ⟨rfl,rfl⟩|⟨hne,hlk⟩
   ·unfold BkOk
    dsimp only
    refine .inr ⟨g,cur,fz,hφ,by simp [shift,hω],hh,hfz,fun hr'=>?_,fun x es hx=>?_⟩
    ·obtain ⟨c',h1,h2,h4⟩:=hrow hr'
     refine ⟨c',h1,h2,?_⟩
     simp [za]
     omega
    ·simp only [za] at hx
     by_cases hx1:x < off
     ·rw [yal,yA (by simp;omega),yai hx1] at hx
      obtain ⟨hke,hcj⟩:=hc x es hx
      refine ⟨hke,fun j p hp=>?_⟩
      obtain ⟨u,hu,hC⟩:=hcj j p hp
      refine ⟨u,hu,?_⟩
      by_cases ho:∃ e k l,p=.own e k l
      ·obtain ⟨e,k,l,rfl⟩:=ho
       exact Ow.mono hC (fun b' hb'=>by simp only [shift,hb'];rw [if_neg (by omega)]) (zI _ _)
      ·exact CvB.of_CvC ((hC.toC fun e k l h=>ho ⟨e,k,l,h⟩).turn hW G)
     ·by_cases hx2:x < off+n
      ·have hlo:(b.el.take off).length=off:=by simp;omega
       rw [yal,yw (by omega),hlo,yA (by simp;omega),yl,yai (by omega),yad,show off+(x - off)=x by omega] at hx
       cases hbe:b.el[x]? with
       | none=>simp [hbe] at hx
       | some es0 =>
        simp only [hbe,yk,yd] at hx
        subst hx
        obtain ⟨hke,hcj⟩:=hc x es0 hbe
        refine ⟨by simpa using hke,fun j p hp=>?_⟩
        rw [yl] at hp
        cases hq:es0[j]? with
        | none=>simp [hq] at hp
        | some q =>
         simp only [hq,yk,yd] at hp
         subst hp
         obtain ⟨u,hu,hC⟩:=hcj j q hq
         refine ⟨u,hu,CvB.of_CvC ?_⟩
         by_cases ho:∃ e k l,q=.own e k l
         ·obtain ⟨e,k,l,rfl⟩:=ho
          refine Ow.rd hC (fun b' hb'=>.inr ⟨rfl,.inr ⟨m,(s0+(x - off),j),?_⟩⟩)
          simp only [shift,hb']
          rw [if_pos ⟨trivial,by omega,by omega⟩]
         ·have hC':=(hC.toC fun e k l h=>ho ⟨e,k,l,h⟩).turn hW G
          have:outC q=q:=by cases q<;>first|rfl|exact absurd ⟨_,_,_,rfl⟩ ho
          rw [this]
          exact hC'
      ·have hlo:(b.el.take off++((b.el.drop off).take n).map (·.map outC)).length=off+n:=by simp;omega
       rw [yw (by omega),hlo,yad,show off+n+(x - (off+n))=x by omega] at hx
       obtain ⟨hke,hcj⟩:=hc x es hx
       refine ⟨hke,fun j p hp=>?_⟩
       obtain ⟨u,hu,hC⟩:=hcj j p hp
       refine ⟨u,hu,?_⟩
       by_cases ho:∃ e k l,p=.own e k l
       ·obtain ⟨e,k,l,rfl⟩:=ho
        exact Ow.mono hC (fun b' hb'=>by simp only [shift,hb'];rw [if_neg (by omega)]) (zI _ _)
       ·exact CvB.of_CvC ((hC.toC fun e k l h=>ho ⟨e,k,l,h⟩).turn hW G)
   ·exact (hB n' b' hlk).turn hW G hne (fun _ h=>h.elim)
  ·rcases zhx hb' with ⟨rfl,rfl⟩|⟨hne,hlk⟩
   ·exact ⟨b,hb⟩
   ·exact ⟨b',hlk⟩
  ·rw [hln]
   refine zlA hkind (zhP hA0) ziT (fun x es hx=>?_) hk0 hA0
   obtain ⟨a,hA,hxn,hes⟩:=zmL hx
   have hA2:=hAs (by omega)
   rw [hA] at hA2
   injection hA2 with hA2
   subst hA2
   refine ⟨g.1,g.2+off*b.k,hA,fun j u hu=>?_⟩
   obtain ⟨hjk,hu'⟩:=hes j u hu
   obtain ⟨hk',_,hcell⟩:=key x _ (yb (by omega))
   obtain ⟨_,u2,hu2,_,ho⟩:=hcell j _ (yb (by omega))
   have hcellw:w.cell? ⟨g.1,g.2+off*b.k+x*b.k+j,none⟩=some u2:=by rw [zT hh,← hu2,yap,← yaf]
   rw [hcellw] at hu'
   simp at hu'
   subst hu'
   exact ⟨hcellw,ho⟩
  ·obtain ⟨_,hxn,hcell⟩:=key x es hx
   obtain ⟨hjk,u,hu,hC,_⟩:=hcell j p hp
   refine ⟨u,?_,?_⟩
   ·rw [hAs (by omega)]
    refine zkW hxn hjk ?_
    rw [zT hh,← hu,yap,← yaf]
   ·by_cases ho:∃ e k l,p=.own e k l
    ·obtain ⟨e,k,l,rfl⟩:=ho
     refine Ow.mono hC (fun b' hb'=>?_) (zI _ _)
     simp only [shift,hb']
     rw [if_pos ⟨trivial,by omega,by omega⟩,show off+x - off=x by omega]
    ·exact CvB.of_CvC ((hC.toC fun e k l h=>ho ⟨e,k,l,h⟩).turn hW G)
theorem Turn.trans {E E1 E2:Env} {w:World} {g1 g2:Nm→Prop} (G1:Turn E E1 w w (fun _=>False) g1) (G2:Turn E1 E2 w w (fun _=>False) g2):Turn E E2 w w (fun _=>False) (fun n=>g1 n∨g2 n) :=
 ⟨fun k y hk=>G2.φ k y (G1.φ k y hk),fun b n y hb hn=>G2.ω b n y (G1.ω b n y hb (fun h=>hn (.inl h))) (fun h=>hn (.inr h)),fun b n c' hb=>by
  obtain ⟨n',c'',h'⟩:=G1.inl b n c' hb
  exact G2.inl b n' c'' h',fun b=>(G2.B b).trans (G1.B b),yz _,fun _ _ _=>rfl,fun _ h=>h.elim,fun _ h=>h.elim⟩
theorem zky (m:Nm) {w:World}:∀ (ls:List (List Cell)) (us:List (List Value)) (E:Env) (hp:List (Nm×Bk)) (x0:Nat) (ls':List (List Cell)) (hp':List (Nm×Bk)),WfE E w→(∀ n b,look hp n=some b→BkOk E w n b)→look hp m=none →
  (∀ (x:Nat) es vs,ls[x]?=some es→us[x]?=some vs→∀ (j:Nat) c u,es[j]?=some c→vs[j]?=some u→CvB E w m (x0+x) j c u) →
  zcz za hp ls=some (ls',hp') →
  ∃ E' gone,Turn E E' w w (fun _=>False) gone∧WfE E' w∧E'.φ=E.φ∧ls'.length=ls.length∧(∀ (x:Nat) es',ls'[x]?=some es'→∃ es,ls[x]?=some es∧es'.length=es.length)∧(∀ n b,look hp' n=some b→¬ gone n∧look hp n=some b)∧(∀ n b,look hp' n=some b→BkOk E' w n b) ∧
   (∀ (x:Nat) es vs,ls'[x]?=some es→us[x]?=some vs→∀ (j:Nat) c u,es[j]?=some c→vs[j]?=some u→CvB E' w m (x0+x) j c u)∧(∀ n,gone n→∃ b,look hp n=some b)
 | [],us,E,hp,x0,ls',hp',hW,hB,hm,hc,h=>by
  simp only [zcz,yd,yP] at h
  obtain ⟨rfl,rfl⟩:=h
  exact ⟨E,fun _=>False,Turn.refl E w _,hW,rfl,rfl,(fun x es' h=>by simp at h),fun n b hb=>⟨fun h=>h,hb⟩,hB,(fun x es vs h=>by simp at h),(fun n h=>h.elim)⟩
 | cs::ls,us,E,hp,x0,ls',hp',hW,hB,hm,hc,h=>by
  simp only [zcz] at h
  split at h
  ·rename_i y hp1 hy
   cases hr:zcz za hp1 ls with
   | none=>simp [hr] at h
   | some r =>
    obtain ⟨ys,hp2⟩:=r
    simp only [hr,yk,yd,yP] at h
    obtain ⟨rfl,rfl⟩:=h
    obtain ⟨E1,gone1,G1,hW1,hφ1,hlen1,hlk1,hB1,hC1,hg1⟩:=zk1 m x0 cs ((us[0]?).getD []) E hp 0 y hp1 hW hB (fun j c u hcj hu=>by
     cases h0:us[0]? with
     | none=>simp [h0] at hu
     | some vs =>
      simp only [h0,yaB] at hu
      refine ⟨?_,.inl hm⟩
      rw [yaq]
      exact hc 0 cs vs rfl h0 j c u hcj hu) hy
    have hm1:look hp1 m=none:=by
     cases hl:look hp1 m with
     | none=>rfl
     | some b=>have:=(hlk1 m b hl).2;rw [hm] at this;cases this
    have hng:¬ gone1 m:=fun hg=>by
     obtain ⟨b,hb⟩:=hg1 m hg
     rw [hm] at hb;cases hb
    obtain ⟨E2,gone2,G2,hW2,hφ2,hlen2,hel2,hlk2,hB2,hC2,hg2⟩:=zky m ls (us.drop 1) E1 hp1 (x0+1) ys hp2 hW1 hB1 hm1 (fun x es vs hx hv j c u hcj hu=>by
     have:=hc (x+1) es vs (by simpa using hx) (by simpa [yaW] using hv) j c u hcj hu
     rw [show x0+(x+1)=x0+1+x by omega] at this
     exact this.turn hW G1 hng) hr
    have hng2:¬ gone2 m:=fun hg=>by
     obtain ⟨b,hb⟩:=hg2 m hg
     rw [hm1] at hb;cases hb
    refine ⟨E2,fun n=>gone1 n∨gone2 n,G1.trans G2,hW2,by rw [hφ2,hφ1],by simp [hlen2],fun x es' hx=>?_,fun n b hb=>?_,hB2,fun x es vs hx hv j c u hcj hu=>?_,fun n hn=>?_⟩
    ·cases x with
     | zero =>
      simp only [yD,yd] at hx
      subst hx
      exact ⟨cs,rfl,hlen1⟩
     | succ x=>obtain ⟨es,h1,h2⟩:=hel2 x es' (by simpa using hx);exact ⟨es,by simpa using h1,h2⟩
    ·obtain ⟨h1,h2⟩:=hlk2 n b hb
     obtain ⟨h3,h4⟩:=hlk1 n b h2
     exact ⟨fun h=>h.elim h3 h1,h4⟩
    ·cases x with
     | zero =>
      simp only [yD,yd] at hx
      subst hx
      have:=hC1 hng j c u hcj (by simpa [hv] using hu)
      rw [yaq] at this
      exact this.turn hW1 G2 hng2
     | succ x =>
      have:=hC2 x es vs (by simpa using hx) (by simpa [yaW] using hv) j c u hcj hu
      rw [show x0+(x+1)=x0+1+x by omega]
      exact this
    ·rcases hn with hn|hn
     ·exact hg1 n hn
     ·obtain ⟨b,hb⟩:=hg2 n hn
      exact ⟨b,(hlk1 n b hb).2⟩
  ·cases h
theorem zqc:∀ (cs:List Cell) (hp:List (Nm×Bk)) r,zcK za hp cs=some r→∀ p ∈ cs,∃ hp1 q,ziK za hp1 p=some q
 | [],_,_,_,p,hp=>by cases hp
 | c::cs,hp,r,h,p,hpm=>by
  simp only [zcK] at h
  split at h
  ·rename_i y hp1 hy
   rcases yaA.1 hpm with rfl|hpm
   ·exact ⟨hp,_,hy⟩
   ·cases hr:zcK za hp1 cs with
    | none=>simp [hr] at h
    | some r'=>exact zqc cs hp1 r' hr p hpm
  ·cases h
theorem zoG:∀ (ls:List (List Cell)) (hp:List (Nm×Bk)) r,zcz za hp ls=some r→∀ es ∈ ls,∀ p ∈ es,∃ hp1 q,ziK za hp1 p=some q
 | [],_,_,_,es,h=>by cases h
 | c::cs,hp,r,h,es,hes=>by
  simp only [zcz] at h
  split at h
  ·rename_i y hp1 hy
   rcases yaA.1 hes with rfl|hes
   ·exact zqc es hp _ hy
   ·cases hr:zcz za hp1 cs with
    | none=>simp [hr] at h
    | some r'=>exact zoG cs hp1 r' hr es hes
  ·cases h
theorem zyE {E:Env} {w:World} {i:Nm} {x j:Nat} {p:Cell} {u:Value} (h:CvB E w i x j p u) {hp:List (Nm×Bk)} {q:Cell×List (Nm×Bk)} (hm:ziK za hp p=some q):oneV u:=by
 unfold ziK at hm
 split at hm
 ·obtain ⟨A,c,rfl,_⟩:=h
  constructor<;>intro _ h<;>cases h
 ·split at hm
  ·rename_i v hv;exact (ziP (E:=E) (w:=w) (x:=.at v) h hv).2
  ·cases hm
 ·rename_i e k;exact (ziP (E:=E) (w:=w) (x:=.nil e k) h rfl).2
 ·rename_i s e k l;exact (ziP (E:=E) (w:=w) (x:=.rd s e k l) h rfl).2
 ·exact zqM h
 ·cases hm
theorem zAX {E:Env} {w:World} (hW:WfE E w) {i m:Nm} {off n s0 x j:Nat} (hx:x < n) {p:Cell} {u:Value} (hC:CvB E w i (off+x) j p u):CvB (shift E i m off n s0) w m (s0+x) j p u:=by
 by_cases ho:∃ e k l,p=.own e k l
 ·obtain ⟨e,k,l,rfl⟩:=ho
  refine Ow.mono hC (fun b' hb'=>?_) (zI _ _)
  simp only [shift,hb']
  rw [if_pos ⟨trivial,by omega,by omega⟩,show off+x - off=x by omega]
 ·exact CvB.of_CvC ((hC.toC fun e k l h=>ho ⟨e,k,l,h⟩).turn hW (zmE E w i m off n s0))
def RetT (E:Env) (w:World) (E1:Env) (m:Nm) (s0:Nat) (hp0:List (Nm×Bk)) (ps:List (Nm×List (List DT))):Prop:=∀ r lr b,zi3 ps r=some lr→look hp0 r=some b→∃ x j u,CvC E w (.row r b.e b.k 0 b.el.length) u∧CvB E1 w m (s0+x) j (.own b.e b.k lr) u
theorem RetT.nil {E:Env} {w:World} {E1:Env} {m:Nm} {s0:Nat} {hp0:List (Nm×Bk)}:RetT E w E1 m s0 hp0 []:=fun r lr b h=>by cases h
theorem zAe {P:Program} {E:Env} {w:World} (hW:WfE E w) {hp:List (Nm×Bk)} (hB:∀ n b,look hp n=some b→BkOk E w n b) {k:Nat} {tx:TypeId} (hk0:0 < k) (hkind:(∃ e',P.underlying tx=some (.slice e'))∨P.underlying tx=some .string) {i:Nm} {e off n:Nat} {v:Value} (hv:CvL E w (.row i e k off n) v) {b:Bk} (hb:look hp i=some b) (hkb:k=b.k) (hle:off+n≤b.el.length) {m:Nm} (hm:look hp m=none) {l:List (List Cell)} {hp':List (Nm×Bk)} (hl:zcz za (del hp i) ((b.el.drop off).take n)=some (l,hp')) (s0:Nat) :
  ∃ E1 us,Taken P E w k tx v l hp' hp m s0 E1 us∧RetT E w E1 m s0 hp (zon ((b.el.drop off).take n) l):=by
 have hW1:=zvf hW i m off n s0
 have G:=zmE E w i m off n s0
 obtain ⟨A,c,rfl,hc1,hc2,h3⟩:=hv
 subst hkb
 have hm1:look (del hp i) m=none:=by
  cases hl:look (del hp i) m with
  | none=>rfl
  | some b'=>have:=(zcg hl).2;rw [hm] at this;cases this
 have hB1:∀ n' b',look (del hp i) n'=some b'→BkOk (shift E i m off n s0) w n' b':=fun n' b' hb'=>by
  obtain ⟨h1,h2⟩:=zcg hb'
  exact (hB n' b' h2).turn hW G h1 (fun _ h=>h.elim)
 have hA0:A=none→n=0:=by
  intro hA
  rcases h3 with ⟨_,_,hn,_⟩|⟨g',hφ',hA',_⟩
  ·exact hn
  ·rcases yb7 n with h|h
   ·exact h
   ·rw [hA] at hA';cases (hA' h).1
 have key:∀ (x:Nat) es,((b.el.drop off).take n)[x]?=some es→es.length=b.k∧x < n∧∃ g:Nat×Nat,A=some ⟨g.1,g.2+off*b.k,none⟩∧∀ (j:Nat) p,es[j]?=some p→j < b.k∧∃ u,w.cell? ⟨g.1,g.2+off*b.k+x*b.k+j,none⟩=some u∧CvB E w i (off+x) j p u∧oneV u:=by
  intro x es hx
  have hxn:x < n:=by have:=(yc.1 hx).1;simp at this;omega
  have hmem:es ∈ (b.el.drop off).take n:=yy hx
  rw [yai hxn,yad] at hx
  rcases hB i b hb with ⟨hφ,hr,hnil⟩|⟨g,cur,fz,hφ,hω,hh,hfz,hrow,hc⟩
  ·rw [hnil] at hx;simp at hx
  obtain ⟨hke,hcj⟩:=hc _ _ hx
  have hA:A=some ⟨g.1,g.2+off*b.k,none⟩:=by
   rcases h3 with ⟨hφ',_⟩|⟨g',hφ',hA',_⟩
   ·rw [hφ] at hφ';injection hφ' with hφ';cases hφ'
   ·rw [hφ] at hφ';injection hφ' with hφ';injection hφ' with hφ';subst hφ';exact (hA' (by omega)).1
  refine ⟨hke,hxn,g,hA,fun j p hp=>?_⟩
  obtain ⟨u,hu,hC⟩:=hcj j p hp
  obtain ⟨hp1,q,hq⟩:=zoG _ _ _ hl es hmem p (yy hp)
  exact ⟨by rw [← hke];exact (yc.1 hp).1,u,by rw [zT hh,← hu,yap,← yaf],hC,zyE hC hq⟩
 have hus:∀ (x:Nat) es vs,((b.el.drop off).take n)[x]?=some es→(usOf w A n b.k)[x]?=some vs→∀ (j:Nat) c u,es[j]?=some c→vs[j]?=some u→CvB (shift E i m off n s0) w m (s0+x) j c u:=by
  intro x es vs hx hv j c u hc hu
  obtain ⟨hke,hxn,g,hA,hcell⟩:=key x es hx
  obtain ⟨hjk,u',hu',hC,_⟩:=hcell j c hc
  obtain ⟨a,hA',_,hvs⟩:=zmL hv
  rw [hA] at hA'
  injection hA' with hA'
  subst hA'
  obtain ⟨_,he⟩:=hvs j u hu
  rw [hu'] at he
  simp at he
  subst he
  exact zAX hW hxn hC
 obtain ⟨E2,gone,G2,hW2,hφ2,hlen2,hel2,hlk2,hB2,hC2,hg2⟩:=zky m _ (usOf w A n b.k) (shift E i m off n s0) (del hp i) s0 l hp' hW1 hB1 hm1 hus hl
 have hln:l.length=n:=by rw [hlen2];simp;omega
 refine ⟨E2,usOf w A n b.k,⟨⟨_,G.trans G2⟩,hW2,hφ2,hB2,fun n' b' hb'=>?_,⟨?_,by rw [zhP hA0,hln],fun x es hx=>?_,ziT⟩,fun x es hx j p hp=>?_⟩,fun r lr b' hl' hb'=>?_⟩
 ·exact ⟨b',(zcg (hlk2 n' b' hb').2).2⟩
 ·rw [hln]
  refine zlA hkind (zhP hA0) ziT (fun x es hx=>?_) hk0 hA0
  obtain ⟨a,hA,hxn,hes⟩:=zmL hx
  have hlx:l[x]?=some (l[x]'(by omega)):=yb (by omega)
  obtain ⟨es0,hes0,_⟩:=hel2 x _ hlx
  obtain ⟨hke,_,g,hA2,hcell⟩:=key x es0 hes0
  rw [hA] at hA2
  injection hA2 with hA2
  subst hA2
  refine ⟨g.1,g.2+off*b.k,hA,fun j u hu=>?_⟩
  obtain ⟨hjk,hu'⟩:=hes j u hu
  obtain ⟨_,u2,hu2,_,ho⟩:=hcell j _ (yb (by omega))
  rw [hu2] at hu'
  simp at hu'
  subst hu'
  exact ⟨hu2,ho⟩
 ·obtain ⟨es0,hes0,h⟩:=hel2 x es hx
  rw [h]
  exact (key x es0 hes0).1
 ·obtain ⟨es0,hes0,h⟩:=hel2 x es hx
  obtain ⟨hke,hxn,g,hA,hcell⟩:=key x es0 hes0
  have hj:j < es0.length:=by rw [← h];exact (yc.1 hp).1
  obtain ⟨hjk,u,hu,hC,_⟩:=hcell j _ (yb hj)
  have hat:=zkW (w:=w) (a:=⟨g.1,g.2+off*b.k,none⟩) hxn hjk hu
  rw [← hA] at hat
  cases hvx:(usOf w A n b.k)[x]? with
  | none=>rw [hvx] at hat;cases hat
  | some vs =>
   rw [hvx] at hat
   exact ⟨u,hat,hC2 x es vs hx hvx j p u hp hat⟩
 ·obtain ⟨x,j,cs,cs',b2,h1,h2,h3,h4,h5⟩:=zoH _ _ _ _ hl r lr hl'
  have h6:=(zcg h5).2
  rw [hb'] at h6
  injection h6 with h6
  subst h6
  obtain ⟨hke,hxn,g,hA,hcell⟩:=key x cs h1
  obtain ⟨hjk,u,hu,hC,_⟩:=hcell j _ h3
  have hat:=zkW (w:=w) (a:=⟨g.1,g.2+off*b.k,none⟩) hxn hjk hu
  rw [← hA] at hat
  cases hvx:(usOf w A n b.k)[x]? with
  | none=>rw [hvx] at hat;cases hat
  | some vs =>
   rw [hvx] at hat
   exact ⟨x,j,u,hC,hC2 x cs' vs h2 hvx j _ u h4 hat⟩
theorem zp4 {P:Program} {E:Env} {w0:Bs} {σ:St} {a:Act} {w:World} (R:Rel E w0 σ a w) {k:Nat} {tx:TypeId} (hk0:0 < k) (hkind:(∃ e',P.underlying tx=some (.slice e'))∨P.underlying tx=some .string) {p:PV} {v:Value} (hv:CvP E w p v) {m:Nm} (hm:look σ.hp m=none) {l:List (List Cell)} {hp':List (Nm×Bk)} (h:asrc za σ k p=some (l,hp')) (s0:Nat) :
  ∃ E1 us,Taken P E w k tx v l hp' σ.hp m s0 E1 us∧RetT E w E1 m s0 σ.hp (srcM σ.hp p l):=by
 unfold asrc at h
 split at h
 ·split at h
  ·rename_i hk
   subst hk
   cases hl:za.lend _ _ with
   | none=>rw [hl] at h;cases h
   | some l' =>
    rw [hl] at h
    simp only [yk,yd,yP] at h
    obtain ⟨rfl,rfl⟩:=h
    obtain ⟨us,hT⟩:=zBy (P:=P) R.wf R.blk hk0 hkind hv hl m s0
    exact ⟨E,us,hT,RetT.nil⟩
  ·cases h
 ·injection h with h
  injection h with h1 h2
  subst h1;subst h2
  obtain ⟨us,hT⟩:=zAf (P:=P) (k:=k) (tx:=tx) R.wf R.blk hkind hv m s0
  exact ⟨E,us,hT,RetT.nil⟩
 ·split at h
  ·rename_i hk
   subst hk
   injection h with h
   injection h with h1 h2
   subst h1;subst h2
   have hv':v=.string _:=hv
   subst hv'
   obtain ⟨us,hT⟩:=zAh (P:=P) (tx:=tx) R.wf R.blk hkind _ m s0
   exact ⟨E,us,hT,RetT.nil⟩
  ·cases h
 ·split at h
  ·rename_i b hb
   split at h
   ·rename_i hk
    obtain ⟨rfl,hkb⟩:=hk
    split at h
    ·rename_i hlit
     split at h
     ·rename_i hle
      obtain ⟨E1,us,hT,hR⟩:=zAe (P:=P) (e:=0) R.wf R.blk hk0 hkind hv hb hkb hle hm h s0
      refine ⟨E1,us,hT,?_⟩
      unfold srcM
      simp only [hb,hlit,yK]
      exact hR
     ·cases h
    ·rename_i hlit
     split at h
     ·rename_i l' hl
      injection h with h
      injection h with h1 h2
      subst h1;subst h2
      simp only [za] at hl
      split at hl
      ·rename_i hle
       obtain ⟨us,hT⟩:=zAg (P:=P) (e:=0) R.wf R.blk hk0 hkind hv hb hkb hle hl m s0 b.lit
       refine ⟨_,us,hT,?_⟩
       unfold srcM
       simp only [hb,hlit]
       exact RetT.nil
      ·cases hl
     ·cases h
   ·cases h
  ·cases h
 ·cases h
def zg6 (E:Env) (i n:Nm) (g:Nat×Nat):Env:=⟨fun x=>if x=n then some (some g) else E.φ x,fun b=>if b=g.1 then some (n,none) else match E.ω b with|some (j,x)=>if j=i then some (n,x) else some (j,x)|none=>none,E.B⟩
theorem zoQ {E:Env} (w:World) {i n:Nm} {g:Nat×Nat} (hn:E.φ n=none) (hg:∀ j x,E.ω g.1=some (j,x)→j=i∧x=none):Turn E (zg6 E i n g) w w (fun _=>False) (fun j=>j=i):=by
 refine ⟨fun j x hx=>?_,fun b j x hb hj=>?_,fun b j c hb=>?_,fun _=>yaF,yz _,fun _ _ _=>rfl,fun _ h=>h.elim,fun _ h=>h.elim⟩
 ·show (if j=n then _ else E.φ j)=some x
  rw [if_neg (fun h=>by subst h;rw [hn] at hx;cases hx)]
  exact hx
 ·have hbg:b≠g.1:=fun h=>by subst h;exact hj (hg _ _ hb).1
  simp only [zg6,if_neg hbg,hb,if_neg hj]
 ·have hbg:b≠g.1:=fun h=>by subst h;cases (hg _ _ hb).2
  simp only [zg6,if_neg hbg,hb]
  split
  ·exact ⟨_,_,rfl⟩
  ·exact ⟨_,_,rfl⟩
theorem zzh {E:Env} {w:World} (hW:WfE E w) {i n:Nm} {g:Nat×Nat} (hg:g.1 < w.heap.size) (hB:¬ E.U g.1):WfE (zg6 E i n g) w:=by
 refine ⟨fun b x hx=>?_,fun b x hx=>?_,hW.bl⟩
 ·by_cases hb:b=g.1
  ·rw [hb];exact hg
  ·simp only [zg6,if_neg hb] at hx
   cases ho:E.ω b with
   | none=>simp [ho] at hx
   | some y=>exact hW.lt b y ho
 ·by_cases hb:b=g.1
  ·rw [hb];exact hB
  ·simp only [zg6,if_neg hb] at hx
   cases ho:E.ω b with
   | none=>simp [ho] at hx
   | some y=>exact hW.nb b y ho
theorem zrB {E:Env} {w w':World} (hW:WfE E w) (hW':WfE E w') {gs:Nat→Prop} (G:Turn E E w w' gs (fun _=>False)) {i n:Nm} {g:Nat×Nat} (hn:E.φ n=none) (hg:∀ j x,E.ω g.1=some (j,x)→j=i∧x=none) {j0:Nm} (hj0:j0=i∨j0=n) {x j:Nat} {p:Cell} {u:Value} (h:CvB E w j0 x j p u):CvB (zg6 E i n g) w' n x j p u:=by
 by_cases ho:∃ e k l,p=.own e k l
 ·obtain ⟨e,k,l,rfl⟩:=ho
  refine Ow.mono h (fun b hb=>?_) (fun b hb hb'=>G.same b hb fun hgs=>?_)
  ·have hbg:b≠g.1:=fun h=>by subst h;cases (hg _ _ hb).2
   simp only [zg6,if_neg hbg,hb]
   rcases hj0 with rfl|rfl
   ·rw [if_pos rfl]
   ·split<;>rfl
  ·obtain ⟨i',hi'⟩:=G.opn b hgs
   rw [hi'] at hb';cases hb'
 ·exact CvB.of_CvC (((h.toC fun e k l h=>ho ⟨e,k,l,h⟩).turn hW G).turn hW' (zoQ w' hn hg))
structure AppOk (E2 E:Env) (w w':World) (i n:Nm) (e k:Nat) (el:List (List Cell)) (v:Value):Prop where
 wf:WfE E2 w'
 keep:∀ p u,CvP E w p u→CvP E2 w' p u
 blk:BkOk E2 w' n ⟨true,false,e,k,el⟩
 blks:∀ n' b',BkOk E w n' b'→n'≠i→BkOk E2 w' n' b'
 val:CvP E2 w' (.c (.row n e k 0 el.length)) v
 φ:∀ j,E2.φ j≠none→E.φ j≠none∨j=n
 B:∀ b,E2.B b↔E.B b
 own:∀ (x j:Nat) p u,CvB E w n x j p u→CvB E2 w' n x j p u
 up:∀ i x,E.φ i=some x→E2.φ i=some x
theorem ztR {E:Env} {w w':World} (hW:WfE E w) (hW':WfE E w') {gs:Nat→Prop} (G:Turn E E w w' gs (fun _=>False)) {i n:Nm} {g:Nat×Nat} (hn:E.φ n=none) (hg:∀ j x,E.ω g.1=some (j,x)→j=i∧x=none) (hgB:¬ E.U g.1) (hgs:∀ b,gs b→E.ω b=some (i,none)) {e k c:Nat} {cur:Array Value} {fz:Nat×Nat} (hgw:w'.heap[g.1]?=some (.cells cur e fz)) (hfz:FzOk fz cur.size) (hsz:cur.size=g.2+c*k) (hc:c≤maxLen) {el:List (List Cell)} (hlen:el.length≤c)
  (hel:∀ (x:Nat) es,el[x]?=some es→es.length=k∧∀ (j:Nat) p,es[j]?=some p→∃ u,cur[g.2+x*k+j]?=some u∧(CvB E w i x j p u∨CvB E w n x j p u)) :
  AppOk (zg6 E i n g) E w w' i n e k el (.slice (some ⟨g.1,g.2,none⟩) el.length c):=by
 have G2:=zoQ w' hn hg
 have hlt:g.1 < w'.heap.size:=(yn.1 hgw).1
 refine ⟨zzh hW' hlt hgB,fun p u h=>(h.turn hW G).turn hW' G2,?_,fun n' b' h hne=>?_,?_,fun j hj=>?_,fun _=>yaF,fun x j p u h=>zrB hW hW' G hn hg (.inr rfl) h,G2.φ⟩
 ·refine .inr ⟨g,cur,fz,by simp [zg6],by simp [zg6],hgw,⟨hfz,fun h=>by cases h⟩,fun _=>⟨c,hsz,hc,hlen⟩,fun x es hx=>?_⟩
  obtain ⟨hk,hj⟩:=hel x es hx
  refine ⟨hk,fun j p hp=>?_⟩
  obtain ⟨u,hu,hC⟩:=hj j p hp
  refine ⟨u,hu,?_⟩
  rcases hC with hC|hC
  ·exact zrB hW hW' G hn hg (.inl rfl) hC
  ·exact zrB hW hW' G hn hg (.inr rfl) hC
 ·refine (h.turn hW G (fun h=>h) (fun b hb ho=>?_)).turn hW' G2 hne (fun _ h=>h.elim)
  rw [hgs b hb] at ho
  injection ho with ho
  injection ho with ho
  exact hne ho.symm
 ·exact ⟨some ⟨g.1,g.2,none⟩,c,rfl,hlen,hc,.inr ⟨g,by simp [zg6],(fun _=>⟨by simp,cur,e,fz,hgw,by rw [hsz];simp⟩),fun _=>⟨rfl,cur,e,fz,hgw,hsz⟩⟩⟩
 ·by_cases h:j=n
  ·exact .inr h
  ·left;simpa [zg6,h] using hj
theorem ztS {E:Env} {w:World} (hW:WfE E w) {i n:Nm} (hn:E.φ n=none) (e k:Nat):AppOk ⟨fun x=>if x=n then some none else E.φ x,E.ω,E.B⟩ E w w i n e k [] (.slice none 0 0):=by
 have G:Turn E ⟨fun x=>if x=n then some none else E.φ x,E.ω,E.B⟩ w w (fun _=>False) (fun _=>False):=by
  refine ⟨fun j x hx=>?_,fun _ _ _ h _=>h,fun _ _ _ h=>⟨_,_,h⟩,fun _=>yaF,yz _,fun _ _ _=>rfl,fun _ h=>h.elim,fun _ h=>h.elim⟩
  show (if j=n then _ else E.φ j)=some x
  rw [if_neg (fun h=>by subst h;rw [hn] at hx;cases hx)]
  exact hx
 refine ⟨⟨hW.lt,hW.nb,hW.bl⟩,fun p u h=>h.turn hW G,.inl ⟨by simp,rfl,rfl⟩,fun n' b' h _=>h.turn hW G (fun h=>h) (fun _ h=>h.elim),?_,fun j hj=>?_,fun _=>yaF,fun x j p u h=>h.turn hW G (fun h=>h),G.φ⟩
 ·exact ⟨none,0,rfl,yz _,by simp [maxLen],.inl ⟨by simp,rfl,rfl,rfl,rfl⟩⟩
 ·by_cases h:j=n
  ·exact .inr h
  ·left;simpa [h] using hj
theorem zCK {v:Value} (h:v.oneCell'=true):oneV v:=by
 cases v<;>first|(simp [Value.oneCell'] at h;done)|(constructor<;>intro _ h<;>cases h)
theorem zAU {P:Program} {w:World} (t tx ty e:TypeId) (i:TypeInfo) (ht:P.underlying t=some (.slice e)) (hi:P.info? e=some i) (b o sLen sCap:Nat) (x:Value) (n:Nat) (news:List Value) (hs:Src P i.size tx x n news w)
  (hroom:sLen+n≤sCap) {cur:Array Value} {e':Nat} {fz:Nat×Nat} (hh:w.heap[b]?=some (.cells cur e' fz)) (hf:FzOk fz cur.size) (hsz:cur.size=o+sCap*i.size) :
  ∃ w',(Builtin.append_ #[t,tx] ty #[.slice (some ⟨b,o,none⟩) sLen sCap,x]).run P w=.ok (.slice (some ⟨b,o,none⟩) (sLen+n) sCap) w'∧Wrote w w' b (o+sLen*i.size) news:=by
 have hle:(sLen+n)*i.size≤sCap*i.size:=yaw _ hroom
 rw [yap] at hle
 obtain ⟨w',hst,W⟩:=ziz (P:=P) b (o+sLen*i.size) news 0 w cur e' fz hh hf (by rw [hs.newsLen,hsz];omega) (fun v hv=>zCK (hs.one v hv))
 refine ⟨w',?_,W⟩
 rcases hs.kind with ⟨e',hk⟩|hk<;>simp [Builtin.append_,run_underlying ht,run_underlying hk,sizeOf,typeInfo,hi,hs.len,hroom,hs.cells,Addr.add_lit,hst]
theorem zCt {k:Nat} {olds:List (List Value)} {us:List (List Value)} (ho:∀ es ∈ olds,es.length=k) (hu:∀ es ∈ us,es.length=k) (z:Array Value) {x j:Nat} {u:Value} (h:((us[x]?).bind (·[j]?))=some u):((olds.flatten++us.flatten).toArray++z)[(olds.length+x)*k+j]?=some u:=by
 cases hx:us[x]? with
 | none=>simp [hx] at h
 | some es =>
  simp only [hx,ya] at h
  have h1:=zkS hu x es hx j u h
  have hl:x*k+j < us.flatten.length:=(yc.1 h1).1
  have h0:=zga ho
  rw [yaR (by simp only [ya2,yO];rw [yap];omega)]
  rw [yaV,yw (by rw [h0,yap];omega),h0,yap]
  rw [← h1]
  congr 1
  omega
theorem zCI {k:Nat} {olds:List (List Value)} {us:List Value} (ho:∀ es ∈ olds,es.length=k) (z:Array Value) {x j:Nat} {u:Value} (h:((olds[x]?).bind (·[j]?))=some u):((olds.flatten++us).toArray++z)[x*k+j]?=some u:=by
 cases hx:olds[x]? with
 | none=>simp [hx] at h
 | some es =>
  simp only [hx,ya] at h
  have h1:=zkS ho x es hx j u h
  have hl:x*k+j < olds.flatten.length:=(yc.1 h1).1
  rw [yaR (by simp only [ya2,yO];omega),yaV,yA hl]
  exact h1
theorem zAn {E:Env} {w w':World} (h:Ext w w') (gone:Nm→Prop):Turn E E w w' (fun _=>False) gone :=
 ⟨fun _ _ h=>h,fun _ _ _ h _=>h,fun _ _ _ h=>⟨_,_,h⟩,fun _=>yaF,h.size,fun b hb _=>h.block b hb,fun _ h=>h.elim,fun _ h=>h.elim⟩
theorem zpa {P:Program} {E:Env} {w:World} (hW:WfE E w) {t tx ty e:TypeId} {i:TypeInfo} {z:Value} (ht:P.underlying t=some (.slice e)) (hi:P.info? e=some i) (hz:i.zero=some z) (hzs:z.cells.size=i.size) {i0 n:Nm} (hn:E.φ n=none) {base:Option Addr} {m sCap:Nat} {olds:List (List Value)} (hol:olds.length=m) (hok:∀ es ∈ olds,es.length=i.size) (hold:(Builtin.firstCells i.size m (.slice base m sCap)).run P w.drew=.ok olds.flatten.toArray w.drew) {x:Value} {l:List (List Cell)} {us:List (List Value)} (hT:Took P w i.size tx x l us) (hg:sCap < m+l.length) (hby:i.bytes≠0) (hfit:(m+l.length)*i.bytes≤2 ^ 46) {el:List (List Cell)} (helen:el.length=m)
  (hel:∀ (x:Nat) es,el[x]?=some es→es.length=i.size∧∀ (j:Nat) p,es[j]?=some p→∃ u,((olds[x]?).bind (·[j]?))=some u∧CvB E w i0 x j p u)
  (hl:∀ (x:Nat) es,l[x]?=some es→∀ (j:Nat) p,es[j]?=some p→∃ u,((us[x]?).bind (·[j]?))=some u∧CvB E w n (m+x) j p u) :
  ∃ E2 w' v,(Builtin.append_ #[t,tx] ty #[.slice base m sCap,x]).run P w=.ok v w'∧AppOk E2 E w w' i0 n e i.size (el++l) v∧(∀ a:Bs,a.Ext w→(∀ b,E.ω b=some (i0,none)→a.w.heap.size≤b∨a.C b)→a.Ext w'):=by
 have hneed:m+l.length≤2 ^ 46:=yaj (ybH _ (ybq hby)) hfit
 have hrun:=run_append_grow_src (P:=P) w t tx ty e i z ht hi hz base m sCap olds.flatten hold x l.length us.flatten hT.src hg (by omega) (growslice_fits hg (by omega))
 have hge:=grownCap_ge w (m+l.length) sCap e
 have hcm:=grownCap_le_maxLen w (m+l.length) sCap e (by simp only [maxLen];omega)
 have hsz:((olds.flatten++us.flatten).toArray++Builtin.zeroCells z.cells (grownCap w (m+l.length) sCap e - (m+l.length))).size=grownCap w (m+l.length) sCap e*i.size:=by
  rw [ybw,ya2,yO,zga hok,zga hT.uk,size_zeroCells,hzs,← yap,← yap,hol,hT.len]
  congr 1
  omega
 have hext:Ext w (w.drew.alloc (.cells ((olds.flatten++us.flatten).toArray++Builtin.zeroCells z.cells (grownCap w (m+l.length) sCap e - (m+l.length))) e)):=(Ext.refl w).drew.alloc _
 have hlen:(el++l).length=m+l.length:=by rw [yO,helen]
 have key:=ztR (g:=(w.drew.heap.size,0)) (i:=i0) (e:=e) (k:=i.size) (c:=grownCap w (m+l.length) sCap e) (el:=el++l) hW (hW.ext hext) (zAn hext _) hn (fun j x hx=>absurd (hW.lt _ _ hx) (ybL _)) (fun hB=>absurd (hW.bl _ hB) (ybL _)) (fun _ h=>h.elim) (MapKept.heap_alloc w.drew _).1 (fz0 _) (by rw [hsz];simp) hcm (by rw [hlen];exact hge) (fun x es hx=>by
  by_cases hxm:x < m
  ·rw [yA (by omega)] at hx
   obtain ⟨hk,hj⟩:=hel x es hx
   refine ⟨hk,fun j p hp=>?_⟩
   obtain ⟨u,hu,hC⟩:=hj j p hp
   exact ⟨u,by rw [yaq];exact zCI hok _ hu,.inl hC⟩
  ·rw [yw (by omega),helen] at hx
   refine ⟨hT.el _ es hx,fun j p hp=>?_⟩
   obtain ⟨u,hu,hC⟩:=hl _ es hx j p hp
   have:=zCt hok hT.uk (Builtin.zeroCells z.cells (grownCap w (m+l.length) sCap e - (m+l.length))) hu
   rw [hol,show m+(x - m)=x by omega] at this
   rw [show m+(x - m)=x by omega] at hC
   exact ⟨u,by rw [yaq];exact this,.inr hC⟩)
 rw [hlen] at key
 exact ⟨_,_,_,hrun,key,fun a ha _=>ha.trans hext⟩
theorem zAd {P:Program} {E:Env} {w:World} (hW:WfE E w) {t tx ty e:TypeId} {i:TypeInfo} (ht:P.underlying t=some (.slice e)) (hi:P.info? e=some i) (hk0:0 < i.size) {i0 n:Nm} (hn:E.φ n=none) {g:Nat×Nat} {c m:Nat} {cur:Array Value} {fz:Nat×Nat} (hω:E.ω g.1=some (i0,none)) (hh:w.heap[g.1]?=some (.cells cur e fz)) (hfz:FzOk fz cur.size) (hsz:cur.size=g.2+c*i.size) (hc:c≤maxLen) {x:Value} {l:List (List Cell)} {us:List (List Value)} (hT:Took P w i.size tx x l us) (hg:m+l.length≤c) {el:List (List Cell)} (helen:el.length=m)
  (hel:∀ (x:Nat) es,el[x]?=some es→es.length=i.size∧∀ (j:Nat) p,es[j]?=some p→∃ u,cur[g.2+x*i.size+j]?=some u∧CvB E w i0 x j p u)
  (hl:∀ (x:Nat) es,l[x]?=some es→∀ (j:Nat) p,es[j]?=some p→∃ u,((us[x]?).bind (·[j]?))=some u∧CvB E w n (m+x) j p u) :
  ∃ E2 w' v,(Builtin.append_ #[t,tx] ty #[.slice (some ⟨g.1,g.2,none⟩) m c,x]).run P w=.ok v w'∧AppOk E2 E w w' i0 n e i.size (el++l) v∧(∀ a:Bs,a.Ext w→(∀ b,E.ω b=some (i0,none)→a.w.heap.size≤b∨a.C b)→a.Ext w'):=by
 obtain ⟨w',hrun,W⟩:=zAU (P:=P) t tx ty e i ht hi g.1 g.2 m c x l.length us.flatten hT.src hg hh hfz hsz
 obtain ⟨cur',h1,h2,h3⟩:=W.blk cur e fz hh
 have hlen:(el++l).length=m+l.length:=by rw [yO,helen]
 have hW':WfE E w':=⟨fun b x hx=>by rw [W.size];exact hW.lt b x hx,hW.nb,fun b hb=>by rw [W.size];exact hW.bl b hb⟩
 have hul:us.flatten.length=l.length*i.size:=by rw [zga hT.uk,hT.len]
 have key:=ztR (i:=i0) (e:=e) (k:=i.size) (c:=c) (el:=el++l) hW hW' (zrm W hω) hn (fun j x hx=>by rw [hω] at hx;injection hx with hx;injection hx with a b;exact ⟨a.symm,b.symm⟩) (hW.nb g.1 _ hω) (fun b hb=>by rw [hb];exact hω) h1 (by rw [h2];exact hfz) (by rw [h2];exact hsz) hc (by rw [hlen];exact hg) (fun x es hx=>by
  by_cases hxm:x < m
  ·rw [yA (by omega)] at hx
   obtain ⟨hk,hj⟩:=hel x es hx
   refine ⟨hk,fun j p hp=>?_⟩
   obtain ⟨u,hu,hC⟩:=hj j p hp
   have hjk:j < i.size:=by rw [← hk];exact (yc.1 hp).1
   have hlt:x*i.size+j < m*i.size:=by
    have:=yaw i.size (ybc hxm)
    rw [yby] at this
    omega
   exact ⟨u,by rw [h3,if_neg (by omega)];exact hu,.inl hC⟩
  ·rw [yw (by omega),helen] at hx
   have hke:=hT.el _ es hx
   refine ⟨hke,fun j p hp=>?_⟩
   obtain ⟨u,hu,hC⟩:=hl _ es hx j p hp
   have hxl:x - m < l.length:=(yc.1 hx).1
   have hjk:j < i.size:=by rw [← hke];exact (yc.1 hp).1
   rw [show m+(x - m)=x by omega] at hC
   refine ⟨u,?_,.inr hC⟩
   cases hux:us[x - m]? with
   | none=>simp [hux] at hu
   | some vs =>
    simp only [hux,ya] at hu
    have hfl:=zkS hT.uk _ _ hux j u hu
    have hlo:x*i.size=m*i.size+(x - m)*i.size:=by rw [← yap];congr 1;omega
    have hb1:(x - m)*i.size+j < l.length*i.size:=by
     rw [← hul];exact (yc.1 hfl).1
    have hb2:(m+l.length)*i.size≤c*i.size:=yaw _ hg
    rw [yap] at hb2
    rw [h3,if_pos (by omega),show g.2+x*i.size+j - (g.2+m*i.size)=(x - m)*i.size+j by omega]
    exact hfl)
 rw [hlen] at key
 exact ⟨_,w',_,hrun,key,fun a ha hb=>W.ext a ha (hb g.1 hω)⟩
theorem zjr {T:TT} {E':Env} {w0:Bs} {w':World} {σ:St} {a:Act} {o:Oper} {p:PV} {nb:List (Nm×Bk)} {v:Value} (hW:WfE E' w') (hd:a.defers=[]) (hs:a.tmps.size=σ.tm.length) (ht:∀ (t:Nat) q,σ.tm[t]?=some q→CvP E' w' q (a.tmps.getD t undef)) (hb:∀ i b,look (nb++σ.hp) i=some b→BkOk E' w' i b) (hk:w0.Ext w') (hB:BsOk E' w0) (hv:CvP E' w' p v) :
  Rel E' w0 (aput T σ o p nb) (a.put o.dst v) w':=by
 unfold aput Act.put
 cases o.dst with
 | none=>exact ⟨hW,hd,hs,ht,hb,hk,hB⟩
 | some d =>
  refine ⟨hW,hd,by simp [hs],fun t q hq=>?_,hb,hk,hB⟩
  simp only [ybe] at hq
  split at hq
  ·rename_i hdt
   subst hdt
   split at hq
   ·rename_i hlt
    injection hq with hq
    subst hq
    have:(a.tmps.setIfInBounds d v).getD d undef=v:=by simp [yJ,yb3,hs,hlt]
    rw [this]
    exact zcG hv
   ·cases hq
  ·rename_i hdt
   have:(a.tmps.setIfInBounds d v).getD t undef=a.tmps.getD t undef:=by simp [yJ,yb3,hdt]
   rw [this]
   exact ht t q hq
theorem zwk {P:Program} {T:TT} {E E1 E2:Env} {w0:Bs} {w w':World} {σ:St} {a:Act} (R:Rel E w0 σ a w) {k m:Nat} {tx:TypeId} {xv:Value} {l el:List (List Cell)} {hp:List (Nm×Bk)} {n i:Nm} {us:List (List Value)} (hTk:Taken P E w k tx xv l hp σ.hp n m E1 us) {e:Nat} {v:Value} (hA:AppOk E2 E1 w w' i n e k el v) (hext:∀ a:Bs,a.Ext w→(∀ b,E1.ω b=some (i,none)→a.w.heap.size≤b∨a.C b)→a.Ext w')
  {hp1:List (Nm×Bk)} (hh:∀ n' b',look hp1 n'=some b'→look hp n'=some b'∧n'≠i) {c:Nat} (hc:c=el.length) (o:Oper) :
  Rel E2 w0 (aput T ⟨σ.tm,hp1,σ.cnt⟩ o (.c (.row n e k 0 c)) [(n,⟨true,false,e,k,el⟩)]) (a.put o.dst v) w':=by
 obtain ⟨gone,G⟩:=hTk.turn
 subst hc
 refine zjr hA.wf R.dfr R.siz (fun t q hq=>hA.keep q _ ((R.tmp t q hq).turn R.wf G)) (fun j b hb=>?_) (hext w0 R.kp (fun b hb=>?_)) (zjm hA.B hA.up (zjm G.B G.φ R.bs)) hA.val
 ·rcases zk6 hb with hb|hb
  ·simp only [yU,yP] at hb
   obtain ⟨rfl,rfl⟩:=hb
   exact hA.blk
  ·obtain ⟨h1,h2⟩:=hh j b hb
   exact hA.blks j b (hTk.blk j b h1) h2
 ·exact R.far fun hB=>hTk.wf.nb b _ hb ((G.B _).2 hB)
theorem zwl {P:Program} {E E1 E2:Env} {w w':World} (hW:WfE E w) {k:Nat} {tx:TypeId} {xv:Value} {l:List (List Cell)} {hp hp0:List (Nm×Bk)} {n i:Nm} {s0:Nat} {us:List (List Value)} (hTk:Taken P E w k tx xv l hp hp0 n s0 E1 us) {ps:List (Nm×List (List DT))} (hR:RetT E w E1 n s0 hp0 ps) {e k':Nat} {el:List (List Cell)} {v:Value} (hA:AppOk E2 E1 w w' i n e k' el v) (t:Nat) {x:PV} (hps:ps=srcM hp0 x l):zlj E2 w' hp0 (retM t hp0 x l):=by
 obtain ⟨gone,G⟩:=hTk.turn
 intro r lr b hl hb
 unfold retM at hl
 split at hl
 ·subst hps
  obtain ⟨y,j,u,h1,h2⟩:=hR r lr b hl hb
  refine ⟨u,hA.keep (.c (.row r b.e b.k 0 b.el.length)) u (h1.turn hW G),?_⟩
  have ho:Ow w' (fun b'=>E2.ω b'=some (n,some (s0+y,j))) u (.sl b.e b.k lr):=hA.own _ _ _ u h2
  exact ho.rd fun b hb=>.inr ⟨rfl,.inr ⟨_,_,hb⟩⟩
 ·cases hl
theorem zAc {P:Program} {E:Env} {w:World} (hW:WfE E w) {t tx ty e:TypeId} {i:TypeInfo} {z:Value} (ht:P.underlying t=some (.slice e)) (hi:P.info? e=some i) (hz:i.zero=some z) (hzs:z.cells.size=i.size) (hk0:0 < i.size) (hby:i.bytes≠0) {i0 n:Nm} (hn:E.φ n=none) {x:Value} {l:List (List Cell)} {us:List (List Value)} (hT:Took P w i.size tx x l us) {b:Bk} (hB:BkOk E w i0 b) (hbk:i.size=b.k) (hbe:e=b.e) (hrow:b.isRow=true) {e':Nat} {v:Value} (hv:CvL E w (.row i0 e' i.size 0 b.el.length) v) (hfit:(b.el.length+l.length)*i.bytes≤2 ^ 46)
  (hl:∀ (x:Nat) es,l[x]?=some es→∀ (j:Nat) p,es[j]?=some p→∃ u,((us[x]?).bind (·[j]?))=some u∧CvB E w n (b.el.length+x) j p u) :
  ∃ E2 w' v',(Builtin.append_ #[t,tx] ty #[v,x]).run P w=.ok v' w'∧AppOk E2 E w w' i0 n e i.size (b.el++l) v'∧(∀ a:Bs,a.Ext w→(∀ b,E.ω b=some (i0,none)→a.w.heap.size≤b∨a.C b)→a.Ext w'):=by
 obtain ⟨A,c,rfl,hc1,hc2,h3⟩:=hv
 rcases hB with ⟨hφ,_,hnil⟩|⟨g,cur,fz,hφ,hω,hh,hfz,hr,hcell⟩
 ·-- the row is nil
  rcases h3 with ⟨_,rfl,hn0,rfl,_⟩|⟨g',hφ',_⟩
  ·rw [hnil] at hfit hl ⊢
   simp only [ybp,yaI] at *
   by_cases hl0:l=[]
   ·subst hl0
    have hus:us=[]:=by have:=hT.len;simpa using this
    subst hus
    exact ⟨_,w,_,run_append_nothing (P:=P) w t tx ty e i ht hi none 0 0 (yz _) x hT.src,ztS hW hn e i.size,fun a ha _=>ha⟩
   ·have hpos:0 < l.length:=ybA.2 hl0
    exact zpa (el:=[]) (olds:=[]) hW ht hi hz hzs hn rfl (fun es h=>by cases h) (run_firstCells_none w.drew i.size 0 0 0) hT (by omega) hby hfit rfl (fun x es hx=>by simp at hx) hl
  ·rw [hφ] at hφ';injection hφ' with hφ';cases hφ'
 ·rcases h3 with ⟨hφ',_⟩|⟨g',hφ',_,h4⟩
  ·rw [hφ] at hφ';injection hφ' with hφ';cases hφ'
  ·rw [hφ] at hφ';injection hφ' with hφ';injection hφ' with hφ';subst hφ'
   obtain ⟨rfl,cur2,e2,fz2,hh2,hsz⟩:=h4 rfl
   rw [hh] at hh2
   injection hh2 with hh2
   injection hh2 with a1 a2 a3
   subst a1;subst a2;subst a3
   rw [← hbe] at hh
   by_cases hroom:b.el.length+l.length≤c
   ·exact zAd hW ht hi hk0 hn hω hh hfz.1 hsz hc2 hT hroom rfl (fun x es hx=>by rw [hbk];exact hcell x es hx) hl
   ·refine zpa (olds:=usOf w (some ⟨g.1,g.2,none⟩) b.el.length i.size) hW ht hi hz hzs hn (zhP (fun h=>by cases h)) ziT ?_ hT (by omega) hby hfit rfl (fun x es hx=>?_) hl
    ·refine run_firstCells_some w.drew i.size _ ⟨g.1,g.2,none⟩ _ c _ (by rw [zga ziT,zhP (fun h=>by cases h)]) (fun q u hq=>?_)
     have hql:q < b.el.length*i.size:=by
      have:=(yc.1 hq).1
      rw [zga ziT,zhP (fun h=>by cases h)] at this
      exact this
     obtain ⟨p1,p2,p3⟩:=zqp hk0 hql
     obtain ⟨hke,hcj⟩:=hcell _ _ (yb p1)
     obtain ⟨u',hu',_⟩:=hcj (q % i.size) _ (yb (by rw [hke,← hbk];exact p2))
     rw [← hbk,yaf,p3] at hu'
     have hat:=zkW (w:=w) (a:=⟨g.1,g.2,none⟩) (n:=b.el.length) (k:=i.size) (x:=q / i.size) (j:=q % i.size) (u:=u') p1 p2 (by rw [zT hh];rw [yaf,p3];exact hu')
     cases hux:(usOf w (some ⟨g.1,g.2,none⟩) b.el.length i.size)[q / i.size]? with
     | none=>rw [hux] at hat;cases hat
     | some vs =>
      rw [hux] at hat
      have hfl:=zkS ziT _ _ hux _ _ hat
      rw [p3,hq] at hfl
      injection hfl with hfl
      subst hfl
      rw [zjz]
      show w.cell? ⟨g.1,g.2+q,none⟩=some u
      rw [zT hh]
      exact hu'
    ·obtain ⟨hke,hcj⟩:=hcell x es hx
     refine ⟨by rw [hbk];exact hke,fun j p hp=>?_⟩
     obtain ⟨u,hu,hC⟩:=hcj j p hp
     refine ⟨u,?_,hC⟩
     refine zkW (yc.1 hx).1 (by rw [hbk,← hke];exact (yc.1 hp).1) ?_
     rw [zT hh,hbk]
     exact hu
theorem zsX {P:Program} {T:TT} (hT:∀ t ti,T t=some ti→ttOf P t=some ti) {E:Env} {w0:Bs} {σ:St} {a:Act} {w:World} (R:Rel E w0 σ a w) {n:Nm} (hn:E.φ n=none) {o:Oper} {as:Array Operand} {ts:Array TypeId} {s x:Operand} {t t':TypeId} (ho:o.op=.call { callee:=.builtin .append,args:=as,argTypes:=ts }) (has:as.toList=[s,x]) (hts:ts.toList=[t,t']) {σ':St} (h:zjl za T σ n o t t' (σ.get s) (norm T t' (σ.get x))=some σ') :
  ∃ E' w' v,(execOp a.eval o).run P w=.ok (.value v) w'∧Rel E' w0 σ' (a.put o.dst v) w'∧(∀ j,E'.φ j≠none→E.φ j≠none∨j=n):=by
 have has':as=#[s,x]:=by cases as;simp at has;simp [has]
 have hts':ts=#[t,t']:=by cases ts;simp at hts;simp [hts]
 subst has';subst hts'
 have hrun:∀ v w',(Builtin.append_ #[t,t'] o.type #[a.eval s,a.eval x]).run P w=.ok v w'→(execOp a.eval o).run P w=.ok (.value v) w':=by
  intro v w' hr
  simp [execOp,ho,resolve,invoke,builtin,hr]
 have hφn:∀ n' b',look σ.hp n'=some b'→n'≠n:=by
  intro n' b' hb' he
  subst he
  rcases R.blk _ _ hb' with ⟨h1,_⟩|⟨g,_,_,h1,_⟩<;>rw [hn] at h1<;>cases h1
 have hln:look σ.hp n=none:=by
  cases hl:look σ.hp n with
  | none=>rfl
  | some b=>exact absurd rfl (hφn n b hl)
 unfold zjl at h
 split at h
 ·rename_i e k by_ s1 z1 ht
  split at h
  ·rename_i kx s2 z2 tie ht' hte
   split at h
   ·rename_i hcond
    obtain ⟨hkx,hk0,hby⟩:=hcond
    obtain ⟨hu,ie,hie,hke,hbe⟩:=zcE (hT _ _ ht) rfl
    obtain ⟨i2,z,d,hi2,hz,hd,ha,hti,hzs,_⟩:=zjv (hT _ _ hte)
    rw [hie] at hi2
    injection hi2 with hi2
    subst hi2
    subst hke;subst hbe
    have hkind:(∃ e',P.underlying t'=some (.slice e'))∨P.underlying t'=some .string:=by
     unfold srcK at hkx
     split at hkx
     ·exact .inl ⟨_,(zcE (hT _ _ ht') rfl).1⟩
     ·exact .inr (zgH (hT _ _ ht') rfl)
     ·cases hkx
    have hk1:0 < ie.size:=ybq hk0
    split at h
    ·rename_i l hp hsrc
     split at h
     ·rename_i e1 k1 hs
      split at h
      ·rename_i hfit
       injection h with h
       subst h
       simp only [za,ye] at hfit
       have hsv:a.eval s=.slice none 0 0:=by
        have:=zcG (T:=T) (t:=t) (zbq R s)
        rw [hs] at this
        exact this
       obtain ⟨E1,us,hTk,hRt⟩:=zp4 (P:=P) R hk1 hkind (zcG (T:=T) (t:=t') (zbq R x)) hln hsrc 0
       have hn1:E1.φ n=none:=by rw [hTk.φ];exact hn
       have hcore:∃ E2 w' v',(Builtin.append_ #[t,t'] o.type #[a.eval s,a.eval x]).run P w=.ok v' w'∧AppOk E2 E1 w w' n n e ie.size l v'∧(∀ a:Bs,a.Ext w→(∀ b,E1.ω b=some (n,none)→a.w.heap.size≤b∨a.C b)→a.Ext w'):=by
        rw [hsv]
        by_cases hl0:l=[]
        ·subst hl0
         have hus:us=[]:=by have:=hTk.took.len;simpa using this
         subst hus
         exact ⟨_,w,_,run_append_nothing (P:=P) w t t' o.type e ie hu hie none 0 0 (yz _) _ hTk.took.src,ztS hTk.wf hn1 e ie.size,fun a ha _=>ha⟩
        ·have hpos:0 < l.length:=ybA.2 hl0
         exact zpa (el:=[]) (olds:=[]) hTk.wf hu hie hz hzs hn1 rfl (fun es h=>by cases h) (run_firstCells_none w.drew ie.size 0 0 0) hTk.took (by omega) hby hfit rfl (fun x es hx=>by simp at hx) hTk.cv
       obtain ⟨E2,w',v',hr,hA,hx⟩:=hcore
       refine ⟨E2,w',v',hrun _ _ hr,zvb (zwk R hTk hA hx (fun n' b' hb'=>⟨hb',?_⟩) rfl o) (zwl R.wf hTk hRt hA t rfl),fun j hj=>?_⟩
       ·obtain ⟨b0,hb0⟩:=hTk.nm n' b' hb'
        exact hφn n' b0 hb0
       ·rcases hA.φ j hj with h|h
        ·rw [hTk.φ] at h;exact .inl h
        ·exact .inr h
      ·cases h
     ·rename_i i e1 k1 off m hs
      split at h
      ·rename_i b hb
       split at h
       ·rename_i hcond
        obtain ⟨hrow,rfl,hkb,heb,hfull,hfit,_⟩:=hcond
        injection h with h
        subst h
        simp only [za,ye] at hfit
        have hfull':off=0∧m=b.el.length:=by
         unfold Bk.full at hfull
         split at hfull
         ·simpa using hfull
         ·simpa [za] using hfull
        obtain ⟨rfl,rfl⟩:=hfull'
        obtain ⟨E1,us,hTk,hRt⟩:=zp4 (P:=P) R hk1 hkind (zcG (T:=T) (t:=t') (zbq R x)) hln hsrc b.el.length
        have hn1:E1.φ n=none:=by rw [hTk.φ];exact hn
        obtain ⟨gone,G⟩:=hTk.turn
        have hsv:CvP E1 w (.c (.row i e1 ie.size 0 b.el.length)) (a.eval s):=by
         have:=zcG (T:=T) (t:=t) (zbq R s)
         rw [hs] at this
         exact this.turn R.wf G
        obtain ⟨E2,w',v',hr,hA,hx⟩:=zAc (P:=P) (t:=t) (tx:=t') (ty:=o.type) (e':=e1) hTk.wf hu hie hz hzs hk1 hby hn1 hTk.took (hTk.blk i b hb) hkb heb hrow hsv hfit hTk.cv
        refine ⟨E2,w',v',hrun _ _ hr,zvb (zwk R hTk hA hx (fun n' b' hb'=>?_) (by simp [za]) o) (zwl R.wf hTk hRt hA t rfl),fun j hj=>?_⟩
        ·obtain ⟨h1,h2⟩:=zcg hb'
         exact ⟨h2,h1⟩
        ·rcases hA.φ j hj with h|h
         ·rw [hTk.φ] at h;exact .inl h
         ·exact .inr h
       ·cases h
      ·cases h
     ·cases h
    ·cases h
   ·cases h
  ·cases h
 ·cases h
end Go.Proofs.YtflhdodikmmdcaaGreat
