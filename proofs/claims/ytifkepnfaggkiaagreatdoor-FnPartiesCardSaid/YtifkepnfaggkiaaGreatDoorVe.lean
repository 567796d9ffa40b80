import Derived.WalkKit
import Derived.Test.YtifkepnfaggkiaaGreatDoorDw
import Derived.Test.YtifkepnfaggkiaaGreatDoorTf
namespace Go.Proofs.YtifkepnfaggkiaaGreatDoor
set_option linter.unusedVariables false
set_option linter.unusedSimpArgs false
abbrev Kn:=Nat→Nat→Nat
def mx (f g:Nat→Nat):Nat→Nat:=fun p=>max (f p) (g p)
def meet (s:Kn) (a b:Nat):Kn:=fun x=>if x=a∨x=b then mx (s a) (s b) else s x
def zfS (L:List (Nat×Nat)) (s:Kn):Kn:=L.foldl (fun s e=>meet s e.1 e.2) s
def zbP (L:List (Nat×Nat)):Nat→Kn→Kn
 | 0,s=>s
 | m+1,s=>zbP L m (zfS L s)
theorem zht (L:List (Nat×Nat)):∀ (m:Nat) (s:Kn),zbP L (m+1) s=zfS L (zbP L m s)
 | 0,s=>rfl
 | m+1,s=>by
  show zbP L (m+1) (zfS L s)=_
  rw [zht L m (zfS L s)]
  rfl
theorem zoN (s:Kn) (a b x p:Nat):s x p≤meet s a b x p:=by
 unfold meet mx
 split
 ·rename_i h
  rcases h with rfl|rfl
  ·exact Nat.le_max_left _ _
  ·exact Nat.le_max_right _ _
 ·exact Nat.le_refl _
theorem zha:∀ (L:List (Nat×Nat)) (s:Kn) (x p:Nat),s x p≤zfS L s x p
 | [],s,x,p=>Nat.le_refl _
 | e::L,s,x,p=>Nat.le_trans (zoN s e.1 e.2 x p) (zha L (meet s e.1 e.2) x p)
theorem ztk (L:List (Nat×Nat)):∀ (m:Nat) (s:Kn) (x p:Nat),s x p≤zbP L m s x p
 | 0,s,x,p=>Nat.le_refl _
 | m+1,s,x,p=>Nat.le_trans (zha L s x p) (ztk L m (zfS L s) x p)
theorem zku:∀ (L:List (Nat×Nat)) (s:Kn) (a b p:Nat),(a,b) ∈ L→s b p≤zfS L s a p∧s a p≤zfS L s b p
 | [],s,a,b,p,h=>by cases h
 | e::L,s,a,b,p,h=>by
  rcases List.mem_cons.1 h with h|h
  ·subst h
   have h1:s b p≤meet s a b a p:=by
    unfold meet mx
    rw [if_pos (.inl rfl)]
    exact Nat.le_max_right _ _
   have h2:s a p≤meet s a b b p:=by
    unfold meet mx
    rw [if_pos (.inr rfl)]
    exact Nat.le_max_left _ _
   exact ⟨Nat.le_trans h1 (zha L (meet s a b) a p),Nat.le_trans h2 (zha L (meet s a b) b p)⟩
  ·obtain ⟨h1,h2⟩:=zku L (meet s e.1 e.2) a b p h
   exact ⟨Nat.le_trans (zoN s e.1 e.2 b p) h1,Nat.le_trans (zoN s e.1 e.2 a p) h2⟩
inductive Conn (L:List (Nat×Nat)) (a:Nat):Nat→Prop
 | refl:Conn L a a
 | step {b x:Nat}:Conn L a b→((b,x) ∈ L∨(x,b) ∈ L)→Conn L a x
theorem Conn.trans {L:List (Nat×Nat)} {a b c:Nat} (h:Conn L a b) (k:Conn L b c):Conn L a c:=by
 induction k with
 | refl=>exact h
 | step _ e ih=>exact .step ih e
theorem Conn.one {L:List (Nat×Nat)} {a b:Nat} (h:(a,b) ∈ L∨(b,a) ∈ L):Conn L a b:=.step .refl h
theorem Conn.symm {L:List (Nat×Nat)} {a b:Nat} (h:Conn L a b):Conn L b a:=by
 induction h with
 | refl=>exact .refl
 | step _ e ih=>exact (Conn.one e.symm).trans ih
theorem Conn.lt {L:List (Nat×Nat)} {n a b:Nat} (hL:∀ e ∈ L,e.1 < n∧e.2 < n) (ha:a < n) (h:Conn L a b):b < n:=by
 cases h with
 | refl=>exact ha
 | step _ e=>rcases e with e|e;exact (hL _ e).2;exact (hL _ e).1
theorem zpL (L:List (Nat×Nat)) (s0:Kn):∀ (M:List (Nat×Nat)) (s:Kn),(∀ e ∈ M,e ∈ L)→(∀ x p,∃ y,Conn L x y∧s x p=s0 y p)→∀ x p,∃ y,Conn L x y∧zfS M s x p=s0 y p
 | [],s,_,h,x,p=>h x p
 | e::M,s,hM,h,x,p=>by
  refine zpL L s0 M (meet s e.1 e.2) (fun f hf=>hM f (List.mem_cons_of_mem _ hf)) (fun x p=>?_) x p
  have he:(e.1,e.2) ∈ L:=hM e (List.mem_cons_self ..)
  unfold meet mx
  split
  ·rename_i hx
   have h1:Conn L x e.1:=by
    rcases hx with rfl|rfl
    ·exact .refl
    ·exact Conn.one (.inr he)
   have h2:Conn L x e.2:=by
    rcases hx with rfl|rfl
    ·exact Conn.one (.inl he)
    ·exact .refl
   dsimp only
   rcases Nat.le_total (s e.1 p) (s e.2 p) with hle|hle
   ·rw [Nat.max_eq_right hle]
    obtain ⟨y,hy,hv⟩:=h e.2 p
    exact ⟨y,h2.trans hy,hv⟩
   ·rw [Nat.max_eq_left hle]
    obtain ⟨y,hy,hv⟩:=h e.1 p
    exact ⟨y,h1.trans hy,hv⟩
  ·exact h x p
theorem zra (L:List (Nat×Nat)) (s0:Kn):∀ (m:Nat) (s:Kn),(∀ x p,∃ y,Conn L x y∧s x p=s0 y p)→∀ x p,∃ y,Conn L x y∧zbP L m s x p=s0 y p
 | 0,s,h,x,p=>h x p
 | m+1,s,h,x,p=>zra L s0 m (zfS L s) (zpL L s0 L s (fun _ h=>h) h) x p
theorem zmo {q r:Nat→Bool} (hqr:∀ x,q x=true→r x=true):∀ (l:List Nat) (y:Nat),y ∈ l→q y=false→r y=true→l.countP q+1≤l.countP r
 | [],y,h,_,_=>by cases h
 | x::l,y,h,h1,h2=>by
  have hle:l.countP q≤l.countP r:=List.countP_mono_left fun z _ hz=>hqr z hz
  by_cases hxy:x=y
  ·subst hxy
   rw [List.countP_cons_of_neg (by rw [h1];decide),List.countP_cons_of_pos h2]
   omega
  ·have hy:y ∈ l:=(List.mem_cons.1 h).resolve_left fun e=>hxy e.symm
   have ih:=zmo hqr l y hy h1 h2
   cases hq:q x with
   | true =>
    rw [List.countP_cons_of_pos hq,List.countP_cons_of_pos (hqr x hq)]
    omega
   | false =>
    rw [List.countP_cons_of_neg (by rw [hq];decide)]
    have:l.countP r≤(x::l).countP r:=by
     cases hr:r x with
     | true=>rw [List.countP_cons_of_pos hr];omega
     | false=>rw [List.countP_cons_of_neg (by rw [hr];decide)];exact Nat.le_refl _
    omega
def cntK (n:Nat) (s:Kn) (p M:Nat):Nat:=(List.range n).countP fun x=>decide (M≤s x p)
theorem zwB {L:List (Nat×Nat)} {n:Nat} (hL:∀ e ∈ L,e.1 < n∧e.2 < n) {s:Kn} {y0 p M:Nat} (hy:y0 < n) (h0:M≤s y0 p):∀ r:Nat,(∀ x,Conn L y0 x→M≤zbP L r s x p)∨r+1≤cntK n (zbP L r s) p M
 | 0=>by
  right
  have:0 < cntK n s p M:=List.countP_pos_iff.2 ⟨y0,List.mem_range.2 hy,decide_eq_true h0⟩
  exact this
 | r+1=>by
  rcases zwB hL hy h0 r with h|h
  ·left
   intro x hx
   rw [zht]
   exact Nat.le_trans (h x hx) (zha L _ x p)
  ·by_cases hc:∃ x y,M≤zbP L r s x p∧((x,y) ∈ L∨(y,x) ∈ L)∧¬ M≤zbP L r s y p
   ·obtain ⟨x,y,h1,h2,h3⟩:=hc
    right
    have hyn:y < n:=by rcases h2 with e|e;exact (hL _ e).2;exact (hL _ e).1
    have hg:zbP L r s x p≤zbP L (r+1) s y p:=by
     rw [zht]
     rcases h2 with e|e
     ·exact (zku L _ x y p e).2
     ·exact (zku L _ y x p e).1
    have hr:decide (M≤zbP L (r+1) s y p)=true:=decide_eq_true (Nat.le_trans h1 hg)
    have:=zmo (q:=fun x=>decide (M≤zbP L r s x p)) (r:=fun x=>decide (M≤zbP L (r+1) s x p)) (fun z hz=>by
     rw [decide_eq_true_eq] at hz ⊢
     rw [zht]
     exact Nat.le_trans hz (zha L _ z p)) (List.range n) y (List.mem_range.2 hyn) (decide_eq_false h3) hr
    unfold cntK at h ⊢
    omega
   ·left
    intro x hx
    have hstay:M≤zbP L r s x p:=by
     induction hx with
     | refl=>exact Nat.le_trans h0 (ztk L r s y0 p)
     | step _ e ih =>
      exact Decidable.byContradiction fun hn=>hc ⟨_,_,ih,e,hn⟩
    rw [zht]
    exact Nat.le_trans hstay (zha L _ x p)
theorem full {L:List (Nat×Nat)} {n:Nat} (hL:∀ e ∈ L,e.1 < n∧e.2 < n) (s:Kn) {x y:Nat} (hy:y < n) (h:Conn L y x) (p:Nat):s y p≤zbP L n s x p:=by
 rcases zwB (M:=s y p) hL hy (Nat.le_refl _) n with h1|h1
 ·exact h1 x h
 ·exfalso
  have:cntK n (zbP L n s) p (s y p)≤(List.range n).length:=List.countP_le_length
  rw [List.length_range] at this
  omega
theorem zq5 (L:List (Nat×Nat)) (n:Nat) (s:Kn) (x p:Nat):∃ y,Conn L x y∧zbP L n s x p=s y p:=zra L s n s (fun x p=>⟨x,.refl,rfl⟩) x p
theorem ztd {L:List (Nat×Nat)} {n:Nat} (hL:∀ e ∈ L,e.1 < n∧e.2 < n) (s:Kn) {x y:Nat} (hx:x < n) (h:Conn L x y):zbP L n s x=zbP L n s y:=by
 funext p
 have key:∀ {x y:Nat},x < n→Conn L x y→zbP L n s x p≤zbP L n s y p:=fun {x y} hx h=>by
  obtain ⟨z,hz,hv⟩:=zq5 L n s x p
  rw [hv]
  exact full hL s (hz.lt hL hx) (hz.symm.trans h) p
 exact Nat.le_antisymm (key hx h) (key (h.lt hL hx) h.symm)
theorem zvM {L:List (Nat×Nat)} {n:Nat} (hL:∀ e ∈ L,e.1 < n∧e.2 < n) (s:Kn):∀ e ∈ L,zbP L n s e.1=zbP L n s e.2:=fun e he=>ztd hL s (hL e he).1 (Conn.one (.inl he))
end Go.Proofs.YtifkepnfaggkiaaGreatDoor
namespace Go.Proofs.YtifkepnfaggkiaaGreatDoor
open Go.RowKit
set_option linter.unusedVariables false
set_option linter.unusedSimpArgs false
noncomputable section
def nm (i:Nat):List ByteArray:=zgw (i:Int)
theorem zuB {i:Nat} (h:i < 6):nm i=[bs [109],bs [UInt8.ofNat (48+i)]]:=by
 rcases (show i=0∨i=1∨i=2∨i=3∨i=4∨i=5 by omega) with rfl|rfl|rfl|rfl|rfl|rfl <;>
  simp [nm,zgw,Go.Lib.itoa,Go.Lib.decDigits]
theorem zxL (a b:List UInt8):za.scmp .lss (bs a) (bs b)=Op.bytesLess a b:=by
 show Op.bytesLess (bs a).toList (bs b).toList=_
 rw [ByteArray.toList_eq,ByteArray.toList_eq]
 rfl
theorem zxK (a b:List UInt8):za.scmp .gtr (bs a) (bs b)=!(Op.bytesLess a b || a == b):=by
 show (!(Op.bytesLess (bs a).toList (bs b).toList || (bs a).toList == (bs b).toList))=_
 rw [ByteArray.toList_eq,ByteArray.toList_eq]
 rfl
theorem zqQ {i j:Nat} (hi:i < 6) (hj:j < 6):cmpN (nm i) (nm j)=if i < j then -1 else if j < i then 1 else 0:=by
 rw [zuB hi,zuB hj]
 simp only [cmpN,cmpS,zxL,zxK]
 rcases (show i=0∨i=1∨i=2∨i=3∨i=4∨i=5 by omega) with rfl|rfl|rfl|rfl|rfl|rfl <;>
  rcases (show j=0∨j=1∨j=2∨j=3∨j=4∨j=5 by omega) with rfl|rfl|rfl|rfl|rfl|rfl<;>rfl
theorem zpg {i j:Nat} (hij:i < j) (hj:j < 6):cmpN (nm i) (nm j)=-1:=by rw [zqQ (by omega) hj,if_pos hij]
theorem zvt {i j:Nat} (hij:j < i) (hi:i < 6):cmpN (nm i) (nm j)=1:=by rw [zqQ hi (by omega),if_neg (by omega),if_pos hij]
theorem zn9 {i j:Nat} (hi:i < 6) (hj:j < 6) (h:nm i=nm j):i=j:=by
 have h1:=(zh2 _ _).2 h
 rw [zqQ hi hj] at h1
 split at h1
 ·cases h1
 ·split at h1
  ·cases h1
  ·omega
theorem zse {i:Nat} (h:i < 6):zdr (nm i)=true:=by
 rw [zuB h]
 rcases (show i=0∨i=1∨i=2∨i=3∨i=4∨i=5 by omega) with rfl|rfl|rfl|rfl|rfl|rfl<;>decide
theorem zrD (i:Nat):(nm i).length=2:=rfl
theorem zkq {α:Type} (p:α→Bool) (l:List α):nthI l (idxI p l)=l.find? p:=by
 rcases zk8 p l with ⟨h1,h2⟩|⟨h1,h2⟩
 ·rw [h1,zbD,List.find?_eq_getElem?_findIdx]
 ·rw [h1,zf4 _ _ (by decide),List.find?_eq_getElem?_findIdx,h2]
  simp
theorem zlD (l:List zb) (n:List ByteArray):seqV l n=match l.find? (entP n) with|some x=>x.value|none=>0:=by
 unfold seqV
 rw [zkq]
 cases l.find? (entP n)<;>rfl
theorem zxM (n:List ByteArray):seqV [] n=0:=by rw [zlD];rfl
theorem zws (x:zb) (l:List zb) (n:List ByteArray):seqV (x::l) n=if x.name=n then x.value else seqV l n:=by
 rw [zlD,zlD,List.find?_cons]
 by_cases h:x.name=n
 ·rw [if_pos h,show entP n x=true from decide_eq_true h]
 ·rw [if_neg h,show entP n x=false from decide_eq_false h]
theorem zk9 {α:Type} (p:α→Bool) (l:List α) (h:l.any p=true):(idxI p l).toNat=l.findIdx p:=by
 rcases zk8 p l with ⟨h1,h2⟩|⟨h1,h2⟩
 ·rw [h1,Int.toNat_natCast]
 ·exfalso
  have:=List.findIdx_eq_length.1 h2
  obtain ⟨x,hx,hp⟩:=List.any_eq_true.1 h
  rw [this x hx] at hp
  cases hp
theorem zza (x:zb) (l:List zb) (n:List ByteArray) (v:Int) (h:x.name=n):putL (x::l) n v=⟨n,v⟩::l:=by
 have he:entP n x=true:=decide_eq_true h
 have ha:(x::l).any (entP n)=true:=by rw [List.any_cons,he];rfl
 unfold putL
 rw [if_pos ha,zk9 _ _ ha,List.findIdx_cons,he]
 rfl
theorem zzc (x:zb) (l:List zb) (n:List ByteArray) (v:Int) (h:x.name≠n) (hc:cmpN x.name n≤0):putL (x::l) n v=x::putL l n v:=by
 have he:entP n x=false:=decide_eq_false h
 have hg:gtP n x=false:=decide_eq_false (by omega)
 have e1:(x::l).any (entP n)=l.any (entP n):=by rw [List.any_cons,he];rfl
 unfold putL
 rw [e1]
 by_cases ha:l.any (entP n)=true
 ·rw [if_pos ha,if_pos ha,zk9 _ _ (by rw [e1];exact ha),zk9 _ _ ha,List.findIdx_cons,he]
  rfl
 ·rw [if_neg ha,if_neg ha,List.findIdx_cons,hg]
  rfl
theorem zzb (l:List zb) (n:List ByteArray) (v:Int) (h:∀ x ∈ l,0 < cmpN x.name n):putL l n v=⟨n,v⟩::l:=by
 have ha:¬ l.any (entP n)=true:=fun ha=>by
  obtain ⟨x,hx,hp⟩:=List.any_eq_true.1 ha
  have h1:=h x hx
  have h2:x.name=n:=of_decide_eq_true hp
  have h3:=(zh2 x.name n).2 h2
  omega
 have h0:l.findIdx (gtP n)=0:=by
  cases l with
  | nil=>rfl
  | cons x l=>rw [List.findIdx_cons,show gtP n x=true from decide_eq_true (h x (List.mem_cons_self ..))];rfl
 unfold putL
 rw [if_neg ha,h0]
 rfl
def tabF (f:Nat→Nat):Nat→Nat→List zb
 | _,0=>[]
 | k,m+1=>if f k=0 then tabF f (k+1) m else ⟨nm k,(f k:Int)⟩::tabF f (k+1) m
def sumN (f:Nat→Nat):Nat→Nat→Nat
 | _,0=>0
 | k,m+1=>f k+sumN f (k+1) m
def setF (f:Nat→Nat) (i v:Nat):Nat→Nat:=fun x=>if x=i then v else f x
theorem zpQ (f:Nat→Nat) (k m:Nat):tabF f k (m+1)=if f k=0 then tabF f (k+1) m else ⟨nm k,(f k:Int)⟩::tabF f (k+1) m:=rfl
theorem zd1 {f g:Nat→Nat}:∀ (m k:Nat),(∀ i,k≤i→i < k+m→f i=g i)→tabF f k m=tabF g k m
 | 0,k,h=>rfl
 | m+1,k,h=>by
  simp only [tabF]
  rw [h k (Nat.le_refl _) (by omega),zd1 m (k+1) fun i h1 h2=>h i (by omega) (by omega)]
theorem zkC {f g:Nat→Nat}:∀ (m k:Nat),(∀ i,k≤i→i < k+m→f i=g i)→sumN f k m=sumN g k m
 | 0,k,h=>rfl
 | m+1,k,h=>by
  simp only [sumN]
  rw [h k (Nat.le_refl _) (by omega),zkC m (k+1) fun i h1 h2=>h i (by omega) (by omega)]
theorem zhm {f g:Nat→Nat}:∀ (m k:Nat),(∀ i,k≤i→i < k+m→f i≤g i)→sumN f k m≤sumN g k m
 | 0,k,h=>Nat.le_refl _
 | m+1,k,h=>by
  have h1:=h k (Nat.le_refl _) (by omega)
  have h2:=zhm m (k+1) fun i h1 h2=>h i (by omega) (by omega)
  simp only [sumN]
  omega
theorem zhc {f:Nat→Nat} {i v:Nat}:∀ (m k:Nat),k≤i→i < k+m→sumN (setF f i v) k m+f i=sumN f k m+v
 | 0,k,h1,h2=>by omega
 | m+1,k,h1,h2=>by
  simp only [sumN]
  by_cases he:i=k
  ·subst he
   have e:sumN (setF f i v) (i+1) m=sumN f (i+1) m:=zkC m (i+1) fun j h3 h4=>if_neg (by omega)
   have e2:setF f i v i=v:=if_pos rfl
   omega
  ·have ih:=zhc (f:=f) (v:=v) m (k+1) (by omega:k+1≤i) (by omega)
   have e2:setF f i v k=f k:=if_neg (by omega)
   omega
theorem ztF {f:Nat→Nat} {i:Nat}:∀ (m k:Nat),k≤i→i < k+m→f i≤sumN f k m
 | 0,k,h1,h2=>by omega
 | m+1,k,h1,h2=>by
  simp only [sumN]
  by_cases he:i=k
  ·subst he;omega
  ·have:=ztF (f:=f) m (k+1) (by omega:k+1≤i) (by omega);omega
theorem zhd {f:Nat→Nat} {x:zb}:∀ (m k:Nat),x ∈ tabF f k m→∃ i,k≤i∧i < k+m∧f i≠0∧x=⟨nm i,(f i:Int)⟩
 | 0,k,h=>by cases h
 | m+1,k,h=>by
  simp only [tabF] at h
  split at h
  ·obtain ⟨i,h1,h2,h3⟩:=zhd m (k+1) h
   exact ⟨i,by omega,by omega,h3⟩
  ·rename_i h0
   rcases List.mem_cons.1 h with h|h
   ·exact ⟨k,Nat.le_refl _,by omega,h0,h⟩
   ·obtain ⟨i,h1,h2,h3⟩:=zhd m (k+1) h
    exact ⟨i,by omega,by omega,h3⟩
theorem zns {f:Nat→Nat}:∀ (m k:Nat),(tabF f k m).length≤m
 | 0,k=>Nat.le_refl _
 | m+1,k=>by
  have:=zns (f:=f) m (k+1)
  simp only [tabF]
  split
  ·omega
  ·simp only [List.length_cons];omega
theorem zjd {f:Nat→Nat} {i:Nat}:∀ (m k:Nat),k+m≤6→i < 6→seqV (tabF f k m) (nm i)=if k≤i∧i < k+m then (f i:Int) else 0
 | 0,k,h,hi=>by
  rw [if_neg (by omega)]
  exact zxM _
 | m+1,k,h,hi=>by
  have ih:=zjd (f:=f) m (k+1) (by omega) hi
  simp only [tabF]
  by_cases h0:f k=0
  ·rw [if_pos h0,ih]
   by_cases he:i=k
   ·subst he
    rw [if_neg (by omega),if_pos (by omega),h0]
    rfl
   ·by_cases hc:k≤i∧i < k+(m+1)
    ·rw [if_pos hc,if_pos (by omega)]
    ·rw [if_neg hc,if_neg (by omega)]
  ·rw [if_neg h0,zws]
   by_cases he:i=k
   ·subst he
    rw [if_pos rfl,if_pos (by omega)]
   ·rw [if_neg (fun e=>he (zn9 hi (by omega) e.symm)),ih]
    by_cases hc:k≤i∧i < k+(m+1)
    ·rw [if_pos hc,if_pos (by omega)]
    ·rw [if_neg hc,if_neg (by omega)]
theorem zno {f:Nat→Nat} {i v:Nat} (hv:v≠0):∀ (m k:Nat),k+m≤6→k≤i→i < k+m→putL (tabF f k m) (nm i) (v:Int)=tabF (setF f i v) k m
 | 0,k,h,h1,h2=>by omega
 | m+1,k,h,h1,h2=>by
  by_cases he:i=k
  ·subst he
   have e:tabF (setF f i v) (i+1) m=tabF f (i+1) m:=zd1 m (i+1) fun j h3 h4=>if_neg (by omega)
   have e2:setF f i v i=v:=if_pos rfl
   simp only [tabF,e,e2,if_neg hv]
   by_cases h0:f i=0
   ·rw [if_pos h0,zzb]
    intro x hx
    obtain ⟨j,h3,h4,h5,rfl⟩:=zhd m (i+1) hx
    show 0 < cmpN (nm j) (nm i)
    rw [zvt (by omega) (by omega)]
    decide
   ·rw [if_neg h0,zza _ _ _ _ rfl]
  ·have ih:=zno (f:=f) hv m (k+1) (by omega) (by omega:k+1≤i) (by omega)
   have e2:setF f i v k=f k:=if_neg (by omega)
   simp only [tabF,e2]
   by_cases h0:f k=0
   ·rw [if_pos h0,if_pos h0,ih]
   ·rw [if_neg h0,if_neg h0,zzc _ _ _ _ (fun e=>he (zn9 (by omega) (by omega) e.symm)) (by show cmpN (nm k) (nm i)≤0;rw [zpg (by omega) (by omega)];decide),ih]
theorem ztH {f:Nat→Nat}:∀ (m k:Nat),k+m≤6→(tabF f k m).Pairwise fun x y=>cmpN x.name y.name < 0
 | 0,k,h=>.nil
 | m+1,k,h=>by
  have ih:=ztH (f:=f) m (k+1) (by omega)
  simp only [tabF]
  split
  ·exact ih
  ·refine List.pairwise_cons.2 ⟨fun y hy=>?_,ih⟩
   obtain ⟨j,h3,h4,h5,rfl⟩:=zhd m (k+1) hy
   show cmpN (nm k) (nm j) < 0
   rw [zpg (by omega) (by omega)]
   decide
theorem zlJ (f:Nat→Nat):vTab (tabF f 0 6)=true:=by
 unfold vTab
 cases hs:scan (badT (tabF f 0 6)) (fun _ _=>false) 0 (tabF f 0 6) with
 | none =>
  have:=zns (f:=f) 6 0
  exact decide_eq_true (by omega)
 | some b =>
  exfalso
  obtain ⟨j,x,h1,h2,_⟩:=zbs _ _ _ _ _ hs
  rw [Nat.zero_add] at h2
  obtain ⟨i,h3,h4,h5,rfl⟩:=zhd 6 0 (List.mem_of_getElem? h1)
  unfold badT at h2
  rw [show zdr ((⟨nm i,(f i:Int)⟩:zb)).name=true from zse (by omega)] at h2
  simp only [Bool.not_true,Bool.false_or,Bool.and_eq_true,decide_eq_true_eq] at h2
  obtain ⟨h6,h7⟩:=h2
  have hj:j < (tabF f 0 6).length:=(List.getElem?_eq_some_iff.1 h1).1
  have hj1:j - 1 < (tabF f 0 6).length:=by omega
  rw [List.getElem?_eq_getElem hj1] at h7
  have hp:=List.pairwise_iff_getElem.1 (ztH (f:=f) 6 0 (by omega)) (j - 1) j hj1 hj (by omega)
  have h8:(tabF f 0 6)[j]=⟨nm i,(f i:Int)⟩:=by
   rw [List.getElem?_eq_getElem hj] at h1
   injection h1
  rw [h8] at hp
  have h9:=of_decide_eq_true h7
  dsimp only at hp h9
  omega
theorem zwG {f:Nat→Nat} (h:∀ i,i < 6→f i≤1000):vVec (tabF f 0 6)=true:=by
 unfold vVec
 rw [zlJ,Bool.and_true]
 have:(tabF f 0 6).any badV=false:=List.any_eq_false.2 fun x hx=>by
  obtain ⟨i,h3,h4,h5,rfl⟩:=zhd 6 0 hx
  have:=h i (by omega)
  unfold badV
  rw [decide_eq_true (by dsimp only;omega)]
  decide
 rw [this]
 rfl
theorem znr {f:Nat→Nat}:∀ (m k s:Nat),s+sumN f k m≤2 ^ 40→sumV (s:Int) (tabF f k m)=((s+sumN f k m:Nat):Int)
 | 0,k,s,h=>rfl
 | m+1,k,s,h=>by
  simp only [sumN] at h ⊢
  simp only [tabF]
  by_cases h0:f k=0
  ·rw [if_pos h0,znr m (k+1) s (by omega),h0,Nat.zero_add]
  ·rw [if_neg h0]
   show sumV (za.arith .add .i64 (s:Int) (f k:Int)) (tabF f (k+1) m)=_
   rw [zf8 _ _ (by omega) (by omega),show ((s:Nat):Int)+((f k:Nat):Int)=((s+f k:Nat):Int) by omega,znr m (k+1) (s+f k) (by omega)]
   congr 1
   omega
def run (i lo n:Nat):List zb:=(List.range n).map fun t=>⟨nm i,((lo+t+1:Nat):Int)⟩
theorem zr8 (i lo n:Nat):run i lo (n+1)=⟨nm i,((lo+1:Nat):Int)⟩::run i (lo+1) n:=by
 unfold run
 rw [List.range_succ_eq_map,List.map_cons,List.map_map]
 congr 1
 refine List.map_congr_left fun t _=>?_
 show (⟨nm i,((lo+(t+1)+1:Nat):Int)⟩:zb)=⟨nm i,((lo+1+t+1:Nat):Int)⟩
 congr 1
 omega
theorem zoY (i lo n:Nat):(run i lo n).length=n:=by unfold run;simp
theorem zq2 (i top:Nat):∀ (n lo:Nat) (m:Nat) (out:List zb),lo+n=top→n < m→top≤2 ^ 40→out.length+n≤20→zfZ (nm i) (top:Int) m (lo:Int) out=out++run i lo n
 | 0,lo,m,out,h1,h2,h3,h4=>by
  obtain ⟨m,rfl⟩:∃ m',m=m'+1:=⟨m - 1,by omega⟩
  unfold zfZ
  rw [decide_eq_false (show ¬ ((lo:Nat):Int) < ((top:Nat):Int) by omega),Bool.false_and,cond_false]
  simp [run]
 | n+1,lo,m,out,h1,h2,h3,h4=>by
  obtain ⟨m,rfl⟩:∃ m',m=m'+1:=⟨m - 1,by omega⟩
  unfold zfZ
  rw [decide_eq_true (show ((lo:Nat):Int) < ((top:Nat):Int) by omega),decide_eq_true (show ((out.length:Nat):Int) < 20 by omega),Bool.true_and,cond_true,zcc lo top (by omega) (by omega),zq2 i top n (lo+1) m _ (by omega) (by omega) h3 (by rw [List.length_append,List.length_singleton];omega),zr8,List.append_assoc]
  rfl
theorem zvE (n:List ByteArray) (m:Nat) (k top:Int) (out:List zb) (h:top≤k):zfZ n top m k out=out:=by
 cases m with
 | zero=>rfl
 | succ m =>
  unfold zfZ
  rw [decide_eq_false (show ¬ k < top by omega),Bool.false_and,cond_false]
def miss (f g:Nat→Nat):Nat→Nat→List zb
 | _,0=>[]
 | k,m+1=>run k (g k) (f k - g k)++miss f g (k+1) m
theorem zjq {α σ:Type} (h:α→σ→σ):∀ (l:List α) (i:Nat) (s:σ),gath (fun _=>h) i l s=l.foldl (fun s x=>h x s) s
 | [],i,s=>rfl
 | x::l,i,s=>zjq h l (i+1) (h x s)
theorem zn7 {f g:Nat→Nat} (hf:∀ i,i < 6→f i≤2 ^ 30) (hg:∀ i,i < 6→g i≤2 ^ 30):∀ (m k:Nat) (out:List zb),k+m≤6→out.length+(miss f g k m).length≤20→gath (newF (tabF f 0 6) (tabF g 0 6)) 0 (tabF f k m) out=out++miss f g k m
 | 0,k,out,h,hl=>by simp [tabF,gath,miss]
 | m+1,k,out,h,hl=>by
  have e:newF (tabF f 0 6) (tabF g 0 6)=fun _=>fun x out=>zfZ x.name (seqV (tabF f 0 6) x.name) 21 (seqV (tabF g 0 6) x.name) out:=rfl
  have ih:=zn7 hf hg m (k+1)
  rw [e] at ih ⊢
  simp only [zjq] at ih ⊢
  simp only [miss,List.length_append,zoY] at hl
  rw [zpQ f k m]
  simp only [miss]
  have h1:=hf k (by omega)
  have h2:=hg k (by omega)
  by_cases h0:f k=0
  ·rw [if_pos h0,ih out (by omega) (by omega),h0,Nat.zero_sub]
   rfl
  ·rw [if_neg h0,List.foldl_cons]
   have hs:=zjd (f:=f) (i:=k) 6 0 (by omega) (by omega)
   have hs2:=zjd (f:=g) (i:=k) 6 0 (by omega) (by omega)
   rw [if_pos (by omega)] at hs hs2
   dsimp only
   rw [hs,hs2]
   by_cases hle:f k≤g k
   ·rw [zvE _ _ _ _ _ (by omega),ih out (by omega) (by omega),show f k - g k=0 by omega]
    rfl
   ·rw [zq2 k (f k) (f k - g k) (g k) 21 out (by omega) (by omega) (by omega) (by omega),ih _ (by omega) (by rw [List.length_append,zoY];omega),List.append_assoc]
theorem zrA {f g:Nat→Nat} (hf:∀ i,i < 6→f i≤2 ^ 30) (hg:∀ i,i < 6→g i≤2 ^ 30) (hl:(miss f g 0 6).length≤20):zci (tabF f 0 6) (tabF g 0 6)=miss f g 0 6:=by
 have:=zn7 hf hg 6 0 [] (by omega) (by simpa using hl)
 rw [List.nil_append] at this
 exact this
theorem zm6 {f g:Nat→Nat}:∀ (m k:Nat),(miss f g k m).length≤sumN f k m
 | 0,k=>Nat.le_refl _
 | m+1,k=>by
  have:=zm6 (f:=f) (g:=g) m (k+1)
  simp only [miss,sumN,List.length_append,zoY]
  omega
theorem zpy {f g:Nat→Nat}:∀ (m k:Nat),k+m≤6→gath zhu 0 (tabF g k m) (tabF f 0 6)=tabF (fun i=>if k≤i∧i < k+m then max (f i) (g i) else f i) 0 6
 | 0,k,h=>by
  show tabF f 0 6=_
  exact zd1 6 0 fun i h1 h2=>(if_neg (fun e=>by omega)).symm
 | m+1,k,h=>by
  have e:zhu=fun _=>fun x s=>bif decide (seqV s x.name < x.value) then (put s x.name x.value).1 else s:=rfl
  have ih:=fun f=>zpy (f:=f) (g:=g) m (k+1) (by omega)
  rw [e] at ih ⊢
  simp only [zjq] at ih ⊢
  rw [zpQ g k m]
  by_cases h0:g k=0
  ·rw [if_pos h0,ih f]
   refine zd1 6 0 fun i h1 h2=>?_
   by_cases he:i=k
   ·subst he
    rw [if_neg (by omega),if_pos (by omega),h0,Nat.max_eq_left (Nat.zero_le _)]
   ·by_cases hc:k+1≤i∧i < k+1+m
    ·rw [if_pos hc,if_pos (by omega)]
    ·rw [if_neg hc,if_neg (by omega)]
  ·rw [if_neg h0,List.foldl_cons]
   have hs:=zjd (f:=f) (i:=k) 6 0 (by omega) (by omega)
   rw [if_pos (by omega)] at hs
   dsimp only
   rw [hs]
   by_cases hlt:f k < g k
   ·rw [decide_eq_true (show ((f k:Nat):Int) < ((g k:Nat):Int) by omega),cond_true]
    have hp:(put (tabF f 0 6) (nm k) ((g k:Nat):Int)).1=tabF (setF f k (g k)) 0 6:=by
     unfold put
     rw [zno h0 6 0 (by omega) (by omega) (by omega),zlJ,cond_true]
    rw [hp,ih (setF f k (g k))]
    refine zd1 6 0 fun i h1 h2=>?_
    by_cases he:i=k
    ·subst he
     rw [if_neg (by omega),if_pos (by omega),Nat.max_eq_right (by omega)]
     exact if_pos rfl
    ·have e3:setF f k (g k) i=f i:=if_neg he
     rw [e3]
     by_cases hc:k+1≤i∧i < k+1+m
     ·rw [if_pos hc,if_pos (by omega)]
     ·rw [if_neg hc,if_neg (by omega)]
   ·rw [decide_eq_false (show ¬ ((f k:Nat):Int) < ((g k:Nat):Int) by omega),cond_false,ih f]
    refine zd1 6 0 fun i h1 h2=>?_
    by_cases he:i=k
    ·subst he
     rw [if_neg (by omega),if_pos (by omega),Nat.max_eq_left (by omega)]
    ·by_cases hc:k+1≤i∧i < k+1+m
     ·rw [if_pos hc,if_pos (by omega)]
     ·rw [if_neg hc,if_neg (by omega)]
theorem zuo (f g:Nat→Nat):zkl (tabF f 0 6) (tabF g 0 6)=tabF (mx f g) 0 6:=by
 unfold zkl
 rw [zpy 6 0 (by omega)]
 exact zd1 6 0 fun i h1 h2=>if_pos (by omega)
end
end Go.Proofs.YtifkepnfaggkiaaGreatDoor
namespace Go.Proofs.YtifkepnfaggkiaaGreatDoor
open Go.RowKit
set_option linter.unusedVariables false
set_option linter.unusedSimpArgs false
noncomputable section
abbrev Log:=Nat→Nat→List UInt8
def zio (G:Log):Prop:=∀ i s,(G i s).length≤60
def pubD (G:Log) (i s:Nat):zh:=⟨nm i,(s:Int),G i s⟩
structure Mem (G:Log) (k:Nat) (c:Nat→Nat) (m:zc):Prop where
 name:m.name=nm k
 vec:m.vector=tabF c 0 6
 len:m.publications.length=sumN c 0 6
 all:∀ i s,i < 6→1≤s→s≤c i→pubD G i s ∈ m.publications
 only:∀ x ∈ m.publications,∃ i s,i < 6∧1≤s∧s≤c i∧x=pubD G i s
 nd:m.publications.Pairwise fun x y=>¬ (x.publisher=y.publisher∧x.seq=y.seq)
theorem Mem.congr {G:Log} {k:Nat} {c d:Nat→Nat} {m:zc} (h:Mem G k c m) (e:∀ i,i < 6→c i=d i):Mem G k d m where
 name:=h.name
 vec:=by rw [h.vec];exact zd1 6 0 fun i h1 h2=>e i (by omega)
 len:=by rw [h.len];exact zkC 6 0 fun i h1 h2=>e i (by omega)
 all i s hi h1 h2:=h.all i s hi h1 (by rw [e i hi];exact h2)
 only x hx:=by
  obtain ⟨i,s,h1,h2,h3,h4⟩:=h.only x hx
  exact ⟨i,s,h1,h2,by rw [← e i h1];exact h3,h4⟩
 nd:=h.nd
theorem Mem.log {G H:Log} {k:Nat} {c:Nat→Nat} {m:zc} (h:Mem G k c m) (e:∀ i s,i < 6→1≤s→s≤c i→G i s=H i s):Mem H k c m where
 name:=h.name
 vec:=h.vec
 len:=h.len
 all i s hi h1 h2:=by
  have:=h.all i s hi h1 h2
  unfold pubD at this ⊢
  rwa [e i s hi h1 h2] at this
 only x hx:=by
  obtain ⟨i,s,h1,h2,h3,h4⟩:=h.only x hx
  exact ⟨i,s,h1,h2,h3,by rw [h4];unfold pubD;rw [e i s h1 h2 h3]⟩
 nd:=h.nd
theorem Mem.small {c:Nat→Nat} (hs:sumN c 0 6≤16) {i:Nat} (hi:i < 6):c i≤16:=Nat.le_trans (ztF 6 0 (Nat.zero_le _) (by omega)) hs
theorem Mem.seq {G:Log} {k:Nat} {c:Nat→Nat} {m:zc} (h:Mem G k c m) {i:Nat} (hi:i < 6):seqV m.vector (nm i)=(c i:Int):=by
 rw [h.vec,zjd 6 0 (by omega) hi,if_pos (by omega)]
theorem Mem.v {G:Log} (hG:zio G) {k:Nat} {c:Nat→Nat} {m:zc} (h:Mem G k c m) (hk:k < 6) (hs:sumN c 0 6≤16):vMem m=true:=by
 have hsum:sumV 0 (tabF c 0 6)=((sumN c 0 6:Nat):Int):=by
  have:=znr (f:=c) 6 0 0 (by omega)
  rw [Nat.zero_add] at this
  exact this
 have hsc:scan (badP m) (fun _ _=>false) 0 m.publications=none:=by
  cases hq:scan (badP m) (fun _ _=>false) 0 m.publications with
  | none=>rfl
  | some b =>
   exfalso
   obtain ⟨j,x,h1,h2,_⟩:=zbs _ _ _ _ _ hq
   rw [Nat.zero_add] at h2
   obtain ⟨i,s,h3,h4,h5,h6⟩:=h.only x (List.mem_of_getElem? h1)
   have hlen:=hG i s
   rw [h6] at h2
   have h2:(!decide ((1:Int)≤(s:Int)∧(s:Int)≤seqV m.vector (nm i)) || (decide ((60:Int) < ((G i s).length:Int)) || decide (0≤idxI (pubP (nm i) (s:Int)) (m.publications.take j))))=true:=h2
   rw [h.seq h3,decide_eq_true (show (1:Int)≤(s:Int)∧(s:Int)≤(c i:Int) by omega),decide_eq_false (show ¬ (60:Int) < ((G i s).length:Int) by omega)] at h2
   simp only [Bool.not_true,Bool.false_or,decide_eq_true_eq] at h2
   rcases zbd (pubP (nm i) (s:Int)) (m.publications.take j) with ⟨h7,_⟩|⟨q,y,h7,h8,h9⟩
   ·rw [h7] at h2;omega
   ·have hq:q < (m.publications.take j).length:=(List.getElem?_eq_some_iff.1 h8).1
    rw [List.length_take] at hq
    have hj:j < m.publications.length:=(List.getElem?_eq_some_iff.1 h1).1
    rw [List.getElem?_take_of_lt (by omega)] at h8
    have hp:=List.pairwise_iff_getElem.1 h.nd q j (by omega) hj (by omega)
    rw [List.getElem?_eq_getElem (by omega)] at h8
    rw [List.getElem?_eq_getElem hj] at h1
    injection h8 with h8
    injection h1 with h1
    rw [h8,h1,h6] at hp
    unfold pubP at h9
    rw [Bool.and_eq_true,decide_eq_true_eq,decide_eq_true_eq] at h9
    exact hp ⟨h9.2,h9.1⟩
 unfold vMem
 rw [hsc,h.name,zse hk,h.vec,zwG (fun i hi=>by have:=Mem.small hs hi;omega),hsum,h.len,zrD]
 rw [decide_eq_false (show ¬ (16:Int) < ((sumN c 0 6:Nat):Int) by omega),decide_eq_true (show ((sumN c 0 6:Nat):Int)=((sumN c 0 6:Nat):Int) from rfl)]
 decide
theorem Mem.find {G:Log} {k:Nat} {c:Nat→Nat} {m:zc} (h:Mem G k c m) {i s:Nat} (hi:i < 6) (h1:1≤s) (h2:s≤c i):m.publications.find? (pubP (nm i) (s:Int))=some (pubD G i s):=by
 cases hf:m.publications.find? (pubP (nm i) (s:Int)) with
 | none =>
  exfalso
  have:=List.find?_eq_none.1 hf _ (h.all i s hi h1 h2)
  refine this ?_
  unfold pubP pubD
  rw [decide_eq_true rfl,decide_eq_true rfl]
  rfl
 | some x =>
  have hp:=List.find?_some hf
  obtain ⟨j,t,h3,h4,h5,rfl⟩:=h.only x (List.mem_of_find?_eq_some hf)
  unfold pubP pubD at hp
  rw [Bool.and_eq_true,decide_eq_true_eq,decide_eq_true_eq] at hp
  have e1:t=s:=by have:=hp.1;dsimp only at this;omega
  have e2:j=i:=zn9 h3 hi hp.2
  rw [e1,e2]
theorem zvZ {G:Log} {k:Nat} {c:Nat→Nat} {m:zc} (h:Mem G k c m) {i s:Nat} (hi:i < 6) (h1:1≤s) (h2:s≤c i):zgZ m (nm i) (s:Int)=(G i s,true):=by
 unfold zgZ
 rw [zkq,h.find hi h1 h2]
 rfl
theorem ztp {G:Log} (hG:zio G) {k:Nat} {c:Nat→Nat} {m:zc} (h:Mem G k c m) (hk:k < 6) {i:Nat} (hi:i < 6) (hs:sumN c 0 6+1≤16):(acc m (pubD G i (c i+1))).2=true∧Mem G k (setF c i (c i+1)) (acc m (pubD G i (c i+1))).1:=by
 have hci:=Mem.small (by omega:sumN c 0 6≤16) hi
 have hput:put m.vector (nm i) ((c i+1:Nat):Int)=(tabF (setF c i (c i+1)) 0 6,true):=by
  unfold put
  rw [h.vec,zno (by omega) 6 0 (by omega) (by omega) (by omega),zlJ,cond_true]
 have hset:=zhc (f:=c) (i:=i) (v:=c i+1) 6 0 (by omega) (by omega)
 have hne:∀ {j:Nat},j≠i→setF c i (c i+1) j=c j:=fun hj=>if_neg hj
 have heq:setF c i (c i+1) i=c i+1:=if_pos rfl
 have hM:Mem G k (setF c i (c i+1)) (accM m (pubD G i (c i+1))):=by
  refine ⟨h.name,?_,?_,fun j s hj h1 h2=>?_,fun x hx=>?_,?_⟩
  ·show (put m.vector (nm i) ((c i+1:Nat):Int)).1=_
   rw [hput]
  ·show (m.publications++[_]).length=_
   rw [List.length_append,List.length_singleton,h.len]
   omega
  ·show _ ∈ m.publications++[_]
   by_cases hji:j=i
   ·subst hji
    rw [heq] at h2
    by_cases hsc:s=c j+1
    ·rw [hsc];exact List.mem_append.2 (.inr (List.mem_singleton.2 rfl))
    ·exact List.mem_append.2 (.inl (h.all j s hj h1 (by omega)))
   ·rw [hne hji] at h2
    exact List.mem_append.2 (.inl (h.all j s hj h1 h2))
  ·rcases List.mem_append.1 hx with hx|hx
   ·obtain ⟨j,s,h1,h2,h3,h4⟩:=h.only x hx
    refine ⟨j,s,h1,h2,?_,h4⟩
    by_cases hji:j=i
    ·subst hji;rw [heq];omega
    ·rw [hne hji];exact h3
   ·rw [List.mem_singleton] at hx
    exact ⟨i,c i+1,hi,by omega,by rw [heq];exact Nat.le_refl _,hx⟩
  ·show (m.publications++[_]).Pairwise _
   refine List.pairwise_append.2 ⟨h.nd,List.pairwise_singleton _ _,fun x hx y hy=>?_⟩
   rw [List.mem_singleton] at hy
   obtain ⟨j,s,h1,h2,h3,h4⟩:=h.only x hx
   rw [hy,h4]
   rintro ⟨e1,e2⟩
   have e3:=zn9 h1 hi e1
   subst e3
   have e4:((s:Nat):Int)=((c j+1:Nat):Int):=e2
   omega
 have hv:=hM.v hG hk (by omega)
 have hcond:(decide ((pubD G i (c i+1)).seq=za.arith .add .i64 (seqV m.vector (pubD G i (c i+1)).publisher) 1) && ((put m.vector (pubD G i (c i+1)).publisher (pubD G i (c i+1)).seq).2 && vMem (accM m (pubD G i (c i+1)))))=true:=by
  rw [hv]
  show (decide (((c i+1:Nat):Int)=za.arith .add .i64 (seqV m.vector (nm i)) 1) && ((put m.vector (nm i) ((c i+1:Nat):Int)).2 && true))=true
  rw [hput,h.seq hi,zcc (c i) (c i+1) (by omega) (by omega),decide_eq_true rfl]
  rfl
 have ha:acc m (pubD G i (c i+1))=(accM m (pubD G i (c i+1)),true):=by
  unfold acc
  rw [hcond,cond_true]
 rw [ha]
 exact ⟨rfl,hM⟩
theorem zyq {G:Log} (hG:zio G) {k kf:Nat} {c d:Nat→Nat} {m fr:zc} (hm:Mem G k c m) (hf:Mem G kf d fr) (hk:k < 6) {i:Nat} (hi:i < 6) (hd:c i+1≤d i) (hs:sumN c 0 6+1≤16) (q:Nat):Mem G k (setF c i (c i+1)) (catF fr q ⟨nm i,((c i+1:Nat):Int)⟩ m):=by
 unfold catF
 dsimp only
 rw [zvZ hf hi (by omega) hd]
 exact (ztp hG hm hk hi hs).2
theorem zpe {G:Log} (hG:zio G) {k kf:Nat} {d:Nat→Nat} {fr:zc} (hf:Mem G kf d fr) (hk:k < 6) {i:Nat} (hi:i < 6) (h:zb→zc→zc) (hh:∀ q,catF fr q=h):∀ (n:Nat) (c:Nat→Nat) (m:zc),Mem G k c m→c i+n≤d i→sumN c 0 6+n≤16→Mem G k (setF c i (c i+n)) ((run i (c i) n).foldl (fun s x=>h x s) m)
 | 0,c,m,hm,h1,h2=>hm.congr fun j hj=>by
  unfold setF
  split
  ·rename_i e;rw [e];rfl
  ·rfl
 | n+1,c,m,hm,h1,h2=>by
  have hset:=zhc (f:=c) (i:=i) (v:=c i+1) 6 0 (by omega) (by omega)
  have heq:setF c i (c i+1) i=c i+1:=if_pos rfl
  rw [zr8,List.foldl_cons,← hh 0]
  have h3:=zyq hG hm hf hk hi (by omega) (by omega) 0
  have ih:=zpe hG hf hk hi h hh n (setF c i (c i+1)) _ h3 (by rw [heq];omega) (by omega)
  rw [heq] at ih
  rw [hh 0] at ih ⊢
  refine ih.congr fun j hj=>?_
  unfold setF
  split
  ·omega
  ·rfl
theorem znD {G:Log} (hG:zio G) {k kf:Nat} {g d:Nat→Nat} {fr:zc} (hf:Mem G kf d fr) (hk:k < 6) (h:zb→zc→zc) (hh:∀ q,catF fr q=h):∀ (n j:Nat) (c:Nat→Nat) (m:zc),j+n≤6→Mem G k c m→(∀ i,j≤i→i < j+n→c i=g i)→sumN (mx c d) 0 6≤16→Mem G k (fun i=>if j≤i∧i < j+n then max (c i) (d i) else c i) ((miss d g j n).foldl (fun s x=>h x s) m)
 | 0,j,c,m,hj,hm,hc,hs=>hm.congr fun i hi=>(if_neg (by omega)).symm
 | n+1,j,c,m,hj,hm,hc,hs=>by
  have hcj:=hc j (Nat.le_refl _) (by omega)
  have hset:=zhc (f:=c) (i:=j) (v:=c j+(d j - c j)) 6 0 (by omega) (by omega)
  have hle:sumN (setF c j (c j+(d j - c j))) 0 6≤sumN (mx c d) 0 6:=zhm 6 0 fun i _ _=>by
   unfold setF mx
   split
   ·rename_i e;rw [e];omega
   ·exact Nat.le_max_left _ _
  simp only [miss]
  rw [List.foldl_append,← hcj]
  have h1:Mem G k (setF c j (c j+(d j - c j))) ((run j (c j) (d j - c j)).foldl (fun s x=>h x s) m):=by
   by_cases hcd:c j≤d j
   ·exact zpe hG hf hk (by omega) h hh (d j - c j) c m hm (by omega) (by omega)
   ·rw [show d j - c j=0 by omega]
    refine hm.congr fun i hi=>?_
    unfold setF
    split
    ·rename_i e;rw [e];rfl
    ·rfl
  have hne:∀ i,i≠j→setF c j (c j+(d j - c j)) i=c i:=fun i e=>if_neg e
  have heq:setF c j (c j+(d j - c j)) j=max (c j) (d j):=by
   unfold setF
   rw [if_pos rfl]
   omega
  refine (znD hG hf hk h hh n (j+1) _ _ (by omega) h1 (fun i h2 h3=>by rw [hne i (by omega)];exact hc i (by omega) (by omega)) ?_).congr fun i hi=>?_
  ·refine Nat.le_trans (zhm 6 0 fun i _ _=>?_) hs
   unfold mx
   by_cases e:i=j
   ·rw [e,heq];omega
   ·rw [hne i e];exact Nat.le_refl _
  ·by_cases e:i=j
   ·rw [e,if_neg (by omega),if_pos (by omega),heq]
   ·rw [hne i e]
    by_cases hq:j+1≤i∧i < j+1+n
    ·rw [if_pos hq,if_pos (by omega)]
    ·rw [if_neg hq,if_neg (by omega)]
theorem zqO {G:Log} (hG:zio G) {k kf:Nat} {c d:Nat→Nat} {m fr:zc} (hm:Mem G k c m) (hf:Mem G kf d fr) (hk:k < 6) (hs:sumN (mx c d) 0 6≤16):Mem G k (mx c d) (zW m fr):=by
 have hc:sumN c 0 6≤16:=Nat.le_trans (zhm 6 0 fun i _ _=>Nat.le_max_left _ _) hs
 have hd:sumN d 0 6≤16:=Nat.le_trans (zhm 6 0 fun i _ _=>Nat.le_max_right _ _) hs
 unfold zW
 rw [hm.vec,hf.vec,zrA (fun i hi=>by have:=Mem.small hd hi;omega) (fun i hi=>by have:=Mem.small hc hi;omega) (by have:=zm6 (f:=d) (g:=c) 6 0;omega)]
 have e:catF fr=fun _=>catF fr 0:=rfl
 rw [e,zjq]
 exact (znD hG hf hk (catF fr 0) (fun q=>rfl) 6 0 c m (by omega) hm (fun i _ _=>rfl) hs).congr fun i hi=>if_pos (by omega)
theorem znE {G:Log} {k kf:Nat} {c:Nat→Nat} {m fr:zc} (hm:Mem G k c m) (hf:Mem G kf c fr) (hs:sumN c 0 6≤16):zW m fr=m:=by
 unfold zW
 rw [hm.vec,hf.vec,zrA (fun i hi=>by have:=Mem.small hs hi;omega) (fun i hi=>by have:=Mem.small hs hi;omega) (by have:=zm6 (f:=c) (g:=c) 6 0;omega)]
 have:∀ n j,miss c c j n=[]:=fun n=>by
  induction n with
  | zero=>intro j;rfl
  | succ n ih=>intro j;simp only [miss,ih,Nat.sub_self,run];rfl
 rw [this]
 rfl
end
end Go.Proofs.YtifkepnfaggkiaaGreatDoor
namespace Go.Proofs.YtifkepnfaggkiaaGreatDoor
open Go.RowKit
set_option linter.unusedVariables false
set_option linter.unusedSimpArgs false
noncomputable section
def zdk (dead:List Int):Nat→List zl→List (Nat×Nat)
 | _,[]=>[]
 | i,x::l=>if hasD dead (i:Int)=true then zdk dead (i+1) l else (x.a.toNat,x.b.toNat)::zdk dead (i+1) l
theorem zm2 {dead:List Int} {e:Nat×Nat}:∀ (l:List zl) (i:Nat),e ∈ zdk dead i l→∃ j x,l[j]?=some x∧hasD dead ((i+j:Nat):Int)=false∧e=(x.a.toNat,x.b.toNat)
 | [],i,h=>by cases h
 | x::l,i,h=>by
  simp only [zdk] at h
  split at h
  ·obtain ⟨j,y,h1,h2,h3⟩:=zm2 l (i+1) h
   exact ⟨j+1,y,by simpa using h1,by rw [show i+(j+1)=i+1+j by omega];exact h2,h3⟩
  ·rename_i hd
   rcases List.mem_cons.1 h with h|h
   ·exact ⟨0,x,rfl,by simpa using hd,h⟩
   ·obtain ⟨j,y,h1,h2,h3⟩:=zm2 l (i+1) h
    exact ⟨j+1,y,by simpa using h1,by rw [show i+(j+1)=i+1+j by omega];exact h2,h3⟩
def LkOk (n:Nat) (x:zl):Prop:=0≤x.a∧x.a < x.b∧x.b < (n:Int)
theorem zu2 {t:zi} (h:zaq t=true) {n:Nat} (hn:t.size=(n:Int)):∀ x ∈ t.links,LkOk n x:=by
 intro x hx
 obtain ⟨i,hi⟩:=List.getElem?_of_mem hx
 obtain ⟨s1,s2⟩:=zbN h
 unfold zaq at h
 cases hc:scan (badS t) (fun _ _=>false) 0 t.links with
 | some b =>
  rw [hc] at h
  obtain ⟨j,x,_,_,h3⟩:=zbs _ _ _ _ _ hc
  simp only at h
  rw [h3] at h
  cases h
 | none =>
  have h3:=ze1 _ _ _ 0 hc i x hi
  unfold badS at h3
  rw [Bool.or_eq_false_iff,Bool.or_eq_false_iff,Bool.or_eq_false_iff,zes _ _ (by omega) (by omega)] at h3
  obtain ⟨h4,h5,h6,_⟩:=h3
  simp only [Bool.not_eq_false',decide_eq_true_eq,decide_eq_false_iff_not] at h4 h5 h6
  exact ⟨by omega,by omega,by omega⟩
structure Grs (G:Log) (n:Nat) (N:Nat→Nat) (C:Kn) (s:List zc):Prop where
 short:zio G
 n6:n≤6
 few:sumN N 0 6≤16
 len:s.length=n
 mem:∀ (k:Nat) m,s[k]?=some m→Mem G k (C k) m
 le:∀ k i,k < n→i < 6→C k i≤N i
 own:∀ k,k < n→C k k=N k
theorem Grs.lt {G:Log} {n:Nat} {N:Nat→Nat} {C:Kn} {s:List zc} (h:Grs G n N C s) {k:Nat} {m:zc} (hm:s[k]?=some m):k < n:=by
 have:=(List.getElem?_eq_some_iff.1 hm).1
 rw [h.len] at this
 exact this
theorem Grs.sum {G:Log} {n:Nat} {N:Nat→Nat} {C:Kn} {s:List zc} (h:Grs G n N C s) {k:Nat} (hk:k < n):sumN (C k) 0 6≤16:=Nat.le_trans (zhm 6 0 fun i _ hi=>h.le k i hk (by omega)) h.few
theorem Grs.sum2 {G:Log} {n:Nat} {N:Nat→Nat} {C:Kn} {s:List zc} (h:Grs G n N C s) {a b:Nat} (ha:a < n) (hb:b < n):sumN (mx (C a) (C b)) 0 6≤16:=Nat.le_trans (zhm 6 0 fun i _ hi=>Nat.max_le.2 ⟨h.le a i ha (by omega),h.le b i hb (by omega)⟩) h.few
theorem Grs.at {G:Log} {n:Nat} {N:Nat→Nat} {C:Kn} {s:List zc} (h:Grs G n N C s) {k:Nat} (hk:k < n):∃ m,s[k]?=some m∧Mem G k (C k) m:=by
 have hl:k < s.length:=by rw [h.len];exact hk
 exact ⟨s[k],List.getElem?_eq_getElem hl,h.mem k _ (List.getElem?_eq_getElem hl)⟩
theorem ztG {dead:List Int} {i:Nat} {x:zl} {s:List zc} {p q:zc} (hd:hasD dead (i:Int)=false) (ha:s[x.a.toNat]?=some p) (hb:s[x.b.toNat]?=some q) (hab:x.a.toNat≠x.b.toNat):zcJ dead i x s=(s.set x.a.toNat (zW p q)).set x.b.toNat (zW q (zW p q)):=by
 have e3:(s.set x.a.toNat (zW p q))[x.b.toNat]?=some q:=by rw [List.getElem?_set_ne hab];exact hb
 unfold zcJ
 rw [hd,ha,hb]
 simp only [cond_false,e3]
theorem Grs.step {G:Log} {n:Nat} {N:Nat→Nat} {C:Kn} {s:List zc} (h:Grs G n N C s) {dead:List Int} {i:Nat} {x:zl} (hx:LkOk n x) (hd:hasD dead (i:Int)=false):Grs G n N (meet C x.a.toNat x.b.toNat) (zcJ dead i x s):=by
 obtain ⟨h0,h1,h2⟩:=hx
 have han:x.a.toNat < n:=by omega
 have hbn:x.b.toNat < n:=by omega
 have hab:x.a.toNat≠x.b.toNat:=by omega
 obtain ⟨p,hp,pM⟩:=h.at han
 obtain ⟨q,hq,qM⟩:=h.at hbn
 rw [ztG hd hp hq hab]
 generalize x.a.toNat=a at *
 generalize x.b.toNat=b at *
 have n6:=h.n6
 have s2:=h.sum2 han hbn
 have m1:=zqO h.short pM qM (by omega) s2
 have e2:mx (C b) (mx (C a) (C b))=mx (C a) (C b):=funext fun i=>by unfold mx;omega
 have m2:=zqO h.short qM m1 (by omega) (by rw [e2];exact s2)
 rw [e2] at m2
 have ma:∀ k,k=a∨k=b→meet C a b k=mx (C a) (C b):=fun k hk=>if_pos hk
 have mn:∀ k,¬ (k=a∨k=b)→meet C a b k=C k:=fun k hk=>if_neg hk
 have hl:=h.len
 refine ⟨h.short,h.n6,h.few,by rw [List.length_set,List.length_set];exact hl,fun k m hm=>?_,fun k i hk hi=>?_,fun k hk=>?_⟩
 ·by_cases hkb:k=b
  ·subst hkb
   rw [List.getElem?_set_self (by rw [List.length_set];omega)] at hm
   injection hm with hm
   rw [← hm,ma _ (.inr rfl)]
   exact m2
  ·rw [List.getElem?_set_ne (fun e=>hkb e.symm)] at hm
   by_cases hka:k=a
   ·subst hka
    rw [List.getElem?_set_self (by omega)] at hm
    injection hm with hm
    rw [← hm,ma _ (.inl rfl)]
    exact m1
   ·rw [List.getElem?_set_ne (fun e=>hka e.symm)] at hm
    rw [mn k (by omega)]
    exact h.mem k m hm
 ·by_cases hkk:k=a∨k=b
  ·rw [ma k hkk]
   exact Nat.max_le.2 ⟨h.le a i han hi,h.le b i hbn hi⟩
  ·rw [mn k hkk]
   exact h.le k i hk hi
 ·have h6:k < 6:=by omega
  by_cases hkk:k=a∨k=b
  ·rw [ma k hkk]
   have l1:=h.le a k han h6
   have l2:=h.le b k hbn h6
   have o:=h.own k hk
   unfold mx
   rcases hkk with rfl|rfl<;>omega
  ·rw [mn k hkk]
   exact h.own k hk
theorem zpO {dead:List Int} {i:Nat} {x:zl} {s:List zc} (hd:hasD dead (i:Int)=true):zcJ dead i x s=s:=by
 unfold zcJ
 rw [hd]
 rfl
theorem zmY {G:Log} {n:Nat} {N:Nat→Nat} {dead:List Int}:∀ (l:List zl) (i:Nat) (C:Kn) (s:List zc),Grs G n N C s→(∀ x ∈ l,LkOk n x)→Grs G n N (zfS (zdk dead i l) C) (gath (zcJ dead) i l s)
 | [],i,C,s,h,_=>h
 | x::l,i,C,s,h,hl=>by
  have hl2:∀ y ∈ l,LkOk n y:=fun y hy=>hl y (List.mem_cons_of_mem _ hy)
  simp only [zdk]
  show Grs G n N _ (gath (zcJ dead) (i+1) l (zcJ dead i x s))
  cases hd:hasD dead (i:Int) with
  | true =>
   rw [if_pos rfl,zpO hd]
   exact zmY l (i+1) C s h hl2
  | false =>
   rw [if_neg (by decide)]
   exact zmY l (i+1) _ _ (h.step (hl x (List.mem_cons_self ..)) hd) hl2
theorem Grs.stay {G:Log} {n:Nat} {N:Nat→Nat} {dead:List Int} {C:Kn} {s:List zc} (h:Grs G n N C s):∀ (l:List zl) (i:Nat),(∀ x ∈ l,LkOk n x)→(∀ e ∈ zdk dead i l,C e.1=C e.2)→gath (zcJ dead) i l s=s
 | [],i,_,_=>rfl
 | x::l,i,hl,hC=>by
  have hl2:∀ y ∈ l,LkOk n y:=fun y hy=>hl y (List.mem_cons_of_mem _ hy)
  show gath (zcJ dead) (i+1) l (zcJ dead i x s)=s
  simp only [zdk] at hC
  cases hd:hasD dead (i:Int) with
  | true =>
   rw [hd,if_pos rfl] at hC
   rw [zpO hd]
   exact h.stay l (i+1) hl2 hC
  | false =>
   rw [hd,if_neg (by decide)] at hC
   obtain ⟨h0,h1,h2⟩:=hl x (List.mem_cons_self ..)
   have han:x.a.toNat < n:=by omega
   have hbn:x.b.toNat < n:=by omega
   obtain ⟨p,hp,pM⟩:=h.at han
   obtain ⟨q,hq,qM⟩:=h.at hbn
   have he:C x.a.toNat=C x.b.toNat:=hC _ (List.mem_cons_self ..)
   have c1:zW p q=p:=znE pM (by rw [he];exact qM) (h.sum han)
   have c2:zW q p=q:=znE qM (by rw [← he];exact pM) (h.sum hbn)
   have hset:∀ (j:Nat) (y:zc),s[j]?=some y→s.set j y=s:=fun j y hy=>by
    have hj:j < s.length:=(List.getElem?_eq_some_iff.1 hy).1
    rw [List.getElem?_eq_getElem hj] at hy
    injection hy with hy
    rw [← hy,List.set_getElem_self]
   rw [ztG hd hp hq (by omega),c1,c2,hset _ _ hp,hset _ _ hq]
   exact h.stay l (i+1) hl2 fun e he=>hC e (List.mem_cons_of_mem _ he)
structure Grp (G:Log) (n:Nat) (N:Nat→Nat) (C:Kn) (g:zd):Prop where
 top:zaq g.topology=true
 size:g.topology.size=(n:Int)
 lks:g.topology.links.length≤1048576
 grs:Grs G n N C g.members
theorem Grp.v {G:Log} {n:Nat} {N:Nat→Nat} {C:Kn} {g:zd} (h:Grp G n N C g):vGrp g=true:=by
 have hsc:scan badM (fun _ _=>false) 0 g.members=none:=by
  cases hq:scan badM (fun _ _=>false) 0 g.members with
  | none=>rfl
  | some b =>
   exfalso
   obtain ⟨j,x,h1,h2,_⟩:=zbs _ _ _ _ _ hq
   rw [Nat.zero_add] at h2
   have hj:=h.grs.lt h1
   have hM:=h.grs.mem j x h1
   have n6:=h.grs.n6
   unfold badM at h2
   rw [hM.v h.grs.short (by omega) (h.grs.sum hj),decide_eq_true (show x.name=zgw (j:Int) from hM.name)] at h2
   cases h2
 unfold vGrp
 rw [h.top,hsc,h.size,h.grs.len,decide_eq_true rfl]
 rfl
theorem Grp.lk {G:Log} {n:Nat} {N:Nat→Nat} {C:Kn} {g:zd} (h:Grp G n N C g):∀ x ∈ g.topology.links,LkOk n x:=zu2 h.top h.size
theorem Grp.live {G:Log} {n:Nat} {N:Nat→Nat} {C:Kn} {g:zd} (h:Grp G n N C g) (dead:List Int):∀ e ∈ zdk dead 0 g.topology.links,e.1 < n∧e.2 < n:=fun e he=>by
 obtain ⟨j,x,h1,_,rfl⟩:=zm2 _ _ he
 obtain ⟨h2,h3,h4⟩:=h.lk x (List.mem_of_getElem? h1)
 exact ⟨by dsimp only;omega,by dsimp only;omega⟩
theorem Grp.round {G:Log} {n:Nat} {N:Nat→Nat} {C:Kn} {g:zd} (h:Grp G n N C g) (dead:List Int):Grp G n N (zfS (zdk dead 0 g.topology.links) C) (zd0 g dead)∧(zd0 g dead).topology=g.topology:=by
 unfold zd0
 rw [h.v,cond_true]
 exact ⟨⟨h.top,h.size,h.lks,zmY _ 0 C _ h.grs h.lk⟩,rfl⟩
theorem Grp.iter {G:Log} {n:Nat} {N:Nat→Nat} (dead:List Int):∀ (m:Nat) (C:Kn) (g:zd),Grp G n N C g→Grp G n N (zbP (zdk dead 0 g.topology.links) m C) (zeI dead m g)∧(zeI dead m g).topology=g.topology
 | 0,C,g,h=>⟨h,rfl⟩
 | m+1,C,g,h=>by
  obtain ⟨h1,h2⟩:=h.round dead
  have ih:=Grp.iter dead m _ _ h1
  rw [h2] at ih
  exact ih
theorem Grp.stop {G:Log} {n:Nat} {N:Nat→Nat} {C:Kn} {g:zd} (h:Grp G n N C g) (dead:List Int):zd0 (zeI dead n g) dead=zeI dead n g:=by
 obtain ⟨h1,h2⟩:=Grp.iter dead n C g h
 have hs:=h1.grs.stay (dead:=dead) (zeI dead n g).topology.links 0 h1.lk (by
  rw [h2]
  exact zvM (h.live dead) C)
 unfold zd0
 rw [h1.v,cond_true,hs]
def putG (G:Log) (k s:Nat) (b:List UInt8):Log:=fun i t=>if i=k∧t=s then b else G i t
def putC (C:Kn) (k v:Nat):Kn:=fun x=>if x=k then setF (C k) k v else C x
theorem Grp.pub {G:Log} {n:Nat} {N:Nat→Nat} {C:Kn} {g:zd} (h:Grp G n N C g) {k:Nat} (hk:k < n) {b:List UInt8} (hb:b.length≤60) (hs:sumN N 0 6+1≤16):Grp (putG G k (N k+1) b) n (setF N k (N k+1)) (putC C k (N k+1)) (ziB g (k:Int) b).1∧(ziB g (k:Int) b).1.topology=g.topology:=by
 have n6:=h.grs.n6
 have hl:=h.grs.len
 obtain ⟨m,hm,M⟩:=h.grs.at hk
 have hown:=h.grs.own k hk
 have hG:zio (putG G k (N k+1) b):=fun i s=>by
  unfold putG
  split
  ·exact hb
  ·exact h.grs.short i s
 have other:∀ (j:Nat) (x:zc),j < n→Mem G j (C j) x→Mem (putG G k (N k+1) b) j (C j) x:=fun j x hj hx=>hx.log fun i s hi h1 h2=>by
  have:=h.grs.le j i hj hi
  unfold putG
  rw [if_neg (fun e=>by obtain ⟨rfl,rfl⟩:=e;omega)]
 have M2:=other k m hk M
 have hsum:=h.grs.sum hk
 have hset:=zhc (f:=C k) (i:=k) (v:=N k+1) 6 0 (by omega) (by omega)
 have hsetN:=zhc (f:=N) (i:=k) (v:=N k+1) 6 0 (by omega) (by omega)
 have hle:sumN (C k) 0 6≤sumN N 0 6:=zhm 6 0 fun i _ hi=>h.grs.le k i hk (by omega)
 have ha:=ztp hG M2 (by omega:k < 6) (i:=k) (by omega) (by omega)
 have hof:ofM m b=pubD (putG G k (N k+1) b) k (C k k+1):=by
  unfold ofM pubD
  rw [M.name,M.seq (by omega),zcc (C k k) (C k k+1) (by omega) (by have:=Mem.small hsum (show k < 6 by omega);omega)]
  unfold putG
  rw [hown,if_pos ⟨rfl,rfl⟩]
 rw [hown] at ha hof
 unfold ziB
 rw [decide_eq_true (show 0≤(k:Int)∧(k:Int)≤((g.members.length:Nat):Int) - 1 by omega),cond_true,zbD,hm]
 dsimp only
 rw [hof,Int.toNat_natCast]
 refine ⟨⟨h.top,h.size,h.lks,hG,h.grs.n6,by omega,by rw [List.length_set];exact hl,fun j x hx=>?_,fun j i hj hi=>?_,fun j hj=>?_⟩,rfl⟩
 ·by_cases hjk:j=k
  ·subst hjk
   rw [List.getElem?_set_self (by omega)] at hx
   injection hx with hx
   rw [← hx,show putC C j (N j+1) j=setF (C j) j (N j+1) from if_pos rfl]
   exact ha.2
  ·rw [List.getElem?_set_ne (fun e=>hjk e.symm)] at hx
   rw [show putC C k (N k+1) j=C j from if_neg hjk]
   exact other j x (h.grs.lt hx) (h.grs.mem j x hx)
 ·have h3:C j i≤N i:=h.grs.le j i hj hi
  have h4:C j i≤setF N k (N k+1) i:=by
   unfold setF
   split
   ·rename_i e;subst e;omega
   ·exact h3
  unfold putC
  split
  ·rename_i e
   subst e
   unfold setF
   split
   ·exact Nat.le_refl _
   ·exact h3
  ·exact h4
 ·have h3:=h.grs.own j hj
  unfold putC
  by_cases hjk:j=k
  ·subst hjk
   rw [if_pos rfl]
   show setF (C j) j (N j+1) j=setF N j (N j+1) j
   unfold setF
   rw [if_pos rfl,if_pos rfl]
  ·rw [if_neg hjk]
   unfold setF
   rw [if_neg hjk]
   exact h3
theorem zlG:∀ (m k:Nat),tabF (fun _=>0) k m=[]
 | 0,k=>rfl
 | m+1,k=>by simp only [tabF,if_true];exact zlG m (k+1)
theorem zjE:∀ (m k:Nat),sumN (fun _=>0) k m=0
 | 0,k=>rfl
 | m+1,k=>by simp only [sumN,Nat.zero_add];exact zjE m (k+1)
theorem Grp.new {t:zi} (h:zaq t=true) (hl:t.links.length≤1048576):Grp (fun _ _=>[]) t.size.toNat (fun _=>0) (fun _ _=>0) (grpT t)∧(grpT t).topology=t:=by
 obtain ⟨s1,s2⟩:=zbN h
 have e:grpT t=⟨t,zeO t.size.toNat⟩:=by unfold grpT;rw [h];rfl
 rw [e]
 refine ⟨⟨h,(Int.toNat_of_nonneg (show 0≤t.size by omega)).symm,hl,fun i s=>Nat.zero_le _,by omega,by rw [zjE];decide,zlf _,fun k m hm=>?_,fun k i _ _=>Nat.le_refl _,fun k _=>rfl⟩,rfl⟩
 have hm':(zeO t.size.toNat)[k]?=some m:=hm
 unfold zeO at hm'
 rw [List.getElem?_map] at hm'
 cases hr:(List.range t.size.toNat)[k]? with
 | none=>rw [hr] at hm';cases hm'
 | some i =>
  rw [hr] at hm'
  injection hm' with hm'
  obtain ⟨hlt,hri⟩:=List.getElem?_eq_some_iff.1 hr
  rw [List.getElem_range] at hri
  subst hri
  rw [← hm']
  exact ⟨rfl,(zlG 6 0).symm,(zjE 6 0).symm,fun i s hi h1 h2=>by omega,fun x hx=>(by cases hx),.nil⟩
end
end Go.Proofs.YtifkepnfaggkiaaGreatDoor
namespace Go.Proofs.YtifkepnfaggkiaaGreatDoor
open Go.RowKit
set_option linter.unusedVariables false
set_option linter.unusedSimpArgs false
noncomputable section
def zeN (dead:List Int):Nat→List zl→List zl
 | _,[]=>[]
 | i,x::l=>if hasD dead (i:Int)=true then zeN dead (i+1) l else x::zeN dead (i+1) l
theorem zhI {dead:List Int}:∀ (l:List zl) (i:Nat),List.Sublist (zeN dead i l) l
 | [],i=>List.Sublist.refl _
 | x::l,i=>by
  simp only [zeN]
  split
  ·exact (zhI l (i+1)).cons x
  ·exact (zhI l (i+1)).cons_cons x
theorem zla {dead:List Int}:∀ (l:List zl) (i:Nat),zdk dead i l=(zeN dead i l).map fun x=>(x.a.toNat,x.b.toNat)
 | [],i=>rfl
 | x::l,i=>by
  simp only [zeN,zdk]
  split
  ·exact zla l (i+1)
  ·rw [List.map_cons,zla l (i+1)]
theorem znY (a:Int):Tp.inSet 0 a=false:=by
 unfold Tp.inSet
 have e:za.arith .shr .i64 0 a=0:=by
  show Int.fdiv 0 (2 ^ min a.toNat IntKind.i64.bits)=0
  exact Int.zero_fdiv _
 rw [e,show za.cmp .eql (za.arith .and .i64 0 1) 1=false from rfl,Bool.and_false,Bool.and_false]
theorem ztm (dead:List Int) (i:Nat) (x:zl):Tp.keepL dead 0 i x=!hasD dead (i:Int):=by
 unfold Tp.keepL hasD
 rw [znY,znY]
 simp
theorem zpA {dead:List Int}:∀ (l:List zl) (i:Nat) (acc:List zl),gath (fun i x acc=>if Tp.keepL dead 0 i x then acc++[x] else acc) i l acc=acc++zeN dead i l
 | [],i,acc=>(List.append_nil _).symm
 | x::l,i,acc=>by
  simp only [gath,zeN,ztm]
  have ih:=fun acc=>zpA (dead:=dead) l (i+1) acc
  simp only [ztm] at ih
  rw [ih]
  cases hasD dead (i:Int)
  ·simp
  ·simp
theorem zyP (dead:List Int) (l:List zl):Tp.leftL dead 0 l=zeN dead 0 l:=by
 unfold Tp.leftL
 rw [zpA,List.nil_append]
theorem zsR {x y z:zl} (h:zfe x y=true) (k:zfe y z=true):zfe x z=true:=by
 unfold zfe at *
 simp only [Bool.or_eq_true,Bool.and_eq_true,decide_eq_true_eq] at *
 omega
theorem zxV {t:zi} (h:zaq t=true):t.links.Pairwise fun x y=>zfe x y=true:=by
 have adj:∀ (i:Nat) (hi:i+1 < t.links.length),zfe (t.links[i]'(by omega)) t.links[i+1]=true:=fun i hi=>by
  unfold zaq at h
  cases hc:scan (badS t) (fun _ _=>false) 0 t.links with
  | some b =>
   rw [hc] at h
   obtain ⟨j,x,_,_,h3⟩:=zbs _ _ _ _ _ hc
   simp only at h
   rw [h3] at h
   cases h
  | none =>
   have h3:=ze1 _ _ _ 0 hc (i+1) _ (List.getElem?_eq_getElem hi)
   unfold badS at h3
   rw [Bool.or_eq_false_iff,Bool.or_eq_false_iff,Bool.or_eq_false_iff] at h3
   obtain ⟨_,_,_,h4⟩:=h3
   rw [decide_eq_true (show (0:Int) < ((0+(i+1):Nat):Int) by omega),Bool.true_and,show 0+(i+1) - 1=i by omega,List.getElem?_eq_getElem (show i < t.links.length by omega)] at h4
   simpa using h4
 refine List.pairwise_iff_getElem.2 fun i j hi hj hij=>?_
 obtain ⟨d,rfl⟩:∃ d,j=i+1+d:=⟨j - i - 1,by omega⟩
 clear hij
 induction d with
 | zero=>exact adj i hj
 | succ d ih=>exact zsR (ih (by omega)) (adj (i+1+d) (by omega))
theorem zsg {t:zi} {n:Nat} (hn:t.size=(n:Int)) (h1:1≤n) (h6:n≤6) (hl:∀ x ∈ t.links,LkOk n x) (hp:t.links.Pairwise fun x y=>zfe x y=true):zaq t=true:=by
 unfold zaq
 cases hc:scan (badS t) (fun _ _=>false) 0 t.links with
 | none=>exact decide_eq_true (by omega)
 | some b =>
  exfalso
  obtain ⟨j,x,h2,h3,_⟩:=zbs _ _ _ _ _ hc
  rw [Nat.zero_add] at h3
  obtain ⟨h4,h5,h7⟩:=hl x (List.mem_of_getElem? h2)
  have hj:j < t.links.length:=(List.getElem?_eq_some_iff.1 h2).1
  unfold badS at h3
  rw [zes _ _ (by omega) (by omega),decide_eq_true (show 0≤x.a∧x.a≤t.size - 1 by omega),decide_eq_true (show 0≤x.b∧x.b≤t.size - 1 by omega),decide_eq_false (show ¬ x.b≤x.a by omega)] at h3
  simp only [Bool.not_true,Bool.false_or,Bool.and_eq_true,decide_eq_true_eq] at h3
  obtain ⟨h8,h9⟩:=h3
  rw [List.getElem?_eq_getElem (show j - 1 < t.links.length by omega)] at h9
  have h10:=List.pairwise_iff_getElem.1 hp (j - 1) j (by omega) hj (by omega)
  rw [List.getElem?_eq_getElem hj] at h2
  injection h2 with h2
  rw [h2] at h10
  simp only [h10] at h9
  cases h9
theorem zxT (t:zi):zaq t=zaq t:=rfl
theorem zpC (a b:Int) (x:zl):Tp.linkP a b x=true↔(x.a=a∧x.b=b)∨(x.a=b∧x.b=a):=by
 unfold Tp.linkP
 simp only [Bool.or_eq_true,Bool.and_eq_true,decide_eq_true_eq]
theorem zte (P:Nat→Prop) [DecidablePred P] (b:Int):∀ (l:List Nat) (i:Nat) (acc:List Int),b ∈ gath (fun i _ acc=>if P i then acc++[(i:Int)] else acc) i l acc↔b ∈ acc∨∃ j:Nat,j < l.length∧P (i+j)∧b=((i+j:Nat):Int)
 | [],i,acc=>by simp [gath]
 | x::l,i,acc=>by
  simp only [gath]
  rw [zte P b l (i+1)]
  constructor
  ·rintro (h|⟨j,h1,h2,h3⟩)
   ·split at h
    ·rename_i hp
     rcases List.mem_append.1 h with h|h
     ·exact .inl h
     ·rw [List.mem_singleton] at h
      exact .inr ⟨0,by simp,by simpa using hp,by simpa using h⟩
    ·exact .inl h
   ·exact .inr ⟨j+1,by simpa using h1,by rw [show i+(j+1)=i+1+j by omega];exact h2,by rw [h3];omega⟩
  ·rintro (h|⟨j,h1,h2,h3⟩)
   ·left
    split
    ·exact List.mem_append.2 (.inl h)
    ·exact h
   ·cases j with
    | zero =>
     left
     rw [Nat.add_zero] at h2 h3
     rw [if_pos h2]
     exact List.mem_append.2 (.inr (List.mem_singleton.2 h3))
    | succ j=>exact .inr ⟨j,by simpa using h1,by rw [show i+1+j=i+(j+1) by omega];exact h2,by rw [h3];omega⟩
theorem zxo {t:zi} {n:Nat} (hn:t.size=(n:Int)) (h6:n≤6) (a:Int) (b:Nat):(b:Int) ∈ Tp.nbrs t a↔b < n∧∃ x ∈ t.links,(x.a=a∧x.b=(b:Int))∨(x.a=(b:Int)∧x.b=a):=by
 unfold Tp.nbrs
 have hl:(List.range (max 0 (min t.size 6)).toNat).length=n:=by rw [List.length_range];omega
 rw [zte (fun i=>t.links.any (Tp.linkP a (i:Int))=true),hl]
 constructor
 ·rintro (h|⟨j,h1,h2,h3⟩)
  ·cases h
  ·have e:j=b:=by omega
   subst e
   obtain ⟨x,hx,hp⟩:=List.any_eq_true.1 h2
   rw [Nat.zero_add] at hp
   exact ⟨h1,x,hx,(zpC _ _ _).1 hp⟩
 ·rintro ⟨h1,x,hx,hp⟩
  exact .inr ⟨b,h1,List.any_eq_true.2 ⟨x,hx,by rw [Nat.zero_add];exact (zpC _ _ _).2 hp⟩,by omega⟩
theorem zq6 {α β:Type} (h:Nat→β):∀ (l:List α) (i:Nat) (acc:List β),gath (fun i _ acc=>acc++[h i]) i l acc=acc++(List.range l.length).map fun j=>h (i+j)
 | [],i,acc=>by simp [gath]
 | x::l,i,acc=>by
  simp only [gath]
  rw [zq6 h l (i+1),List.length_cons,List.range_succ_eq_map,List.map_cons,List.map_map,List.append_assoc]
  congr 1
  rw [List.singleton_append]
  congr 1
  refine List.map_congr_left fun j _=>?_
  show h (i+1+j)=h (i+(j+1))
  congr 1
  omega
theorem zyl {t:zi} {n:Nat} (h:zaq t=true) (hn:t.size=(n:Int)):Tp.advs t=(List.range n).map fun j:Nat=>(⟨(j:Int),1,Tp.nbrs t (j:Int),[]⟩:zg):=by
 unfold Tp.advs
 rw [zxT,h,if_pos rfl,zq6 (fun i=>(⟨(i:Int),1,Tp.nbrs t (i:Int),[]⟩:zg)),hn,Int.toNat_natCast,List.length_range,List.nil_append]
 refine List.map_congr_left fun j _=>?_
 rw [Nat.zero_add]
theorem zo6 {t:zi} {n:Nat} (h:zaq t=true) (hn:t.size=(n:Int)) (a:Nat):nthI (Tp.advs t) (idxI (fun x:zg=>decide (x.origin=(a:Int))) (Tp.advs t))=if a < n then some ⟨(a:Int),1,Tp.nbrs t (a:Int),[]⟩ else none:=by
 rw [zkq,zyl h hn]
 cases hf:List.find? (fun x:zg=>decide (x.origin=(a:Int))) ((List.range n).map fun j:Nat=>(⟨(j:Int),1,Tp.nbrs t (j:Int),[]⟩:zg)) with
 | none =>
  rw [if_neg]
  intro ha
  have:=List.find?_eq_none.1 hf _ (List.mem_map.2 ⟨a,List.mem_range.2 ha,rfl⟩)
  exact this (decide_eq_true rfl)
 | some x =>
  have hp:=List.find?_some hf
  obtain ⟨j,hj,rfl⟩:=List.mem_map.1 (List.mem_of_find?_eq_some hf)
  rw [decide_eq_true_eq] at hp
  have e:j=a:=by have:(j:Int)=(a:Int):=hp;omega
  subst e
  rw [if_pos (List.mem_range.1 hj)]
theorem zrv {t:zi} {n:Nat} (h:zaq t=true) (hn:t.size=(n:Int)) (a b:Nat):Tp.nbrB (Tp.advs t) (a:Int) (b:Int)=true↔a < n∧b < n∧∃ x ∈ t.links,(x.a=(a:Int)∧x.b=(b:Int))∨(x.a=(b:Int)∧x.b=(a:Int)):=by
 obtain ⟨s1,s2⟩:=zbN h
 unfold Tp.nbrB
 rw [zo6 h hn]
 by_cases ha:a < n
 ·rw [if_pos ha]
  have:=zxo (t:=t) hn (by omega) (a:Int) b
  simp only [List.any_eq_true,decide_eq_true_eq]
  constructor
  ·rintro ⟨y,h1,h2⟩
   rw [h2] at h1
   exact ⟨ha,this.1 h1⟩
  ·rintro ⟨_,h1⟩
   exact ⟨_,this.2 h1,rfl⟩
 ·rw [if_neg ha]
  exact ⟨fun h=>(by cases h),fun h=>absurd h.1 ha⟩
theorem zzV {t:zi} {n:Nat} (h:zaq t=true) (hn:t.size=(n:Int)) (a b:Nat):Tp.RB (Tp.advs t) a b=true↔a < n∧b < n∧∃ x ∈ t.links,(x.a=(a:Int)∧x.b=(b:Int))∨(x.a=(b:Int)∧x.b=(a:Int)):=by
 unfold Tp.RB Tp.bidB
 rw [Bool.and_eq_true,zrv h hn,zrv h hn]
 exact ⟨fun h=>h.1,fun h=>⟨h,h.2.1,h.1,by obtain ⟨x,hx,hp⟩:=h.2.2;exact ⟨x,hx,hp.symm⟩⟩⟩
theorem zn5:∀ (d:List Int) (i:Nat) (y:Int),y ∈ Tp.places i d↔∃ j:Nat,j < d.length∧y=((i+j:Nat):Int)∧0≤Tp.gt d j
 | [],i,y=>⟨fun h=>(by cases h),fun ⟨j,h,_⟩=>(by simp at h)⟩
 | x::d,i,y=>by
  have ih:=zn5 d (i+1) y
  have h2:(∃ j:Nat,j < d.length∧y=((i+1+j:Nat):Int)∧0≤Tp.gt d j)→∃ j:Nat,j < (x::d).length∧y=((i+j:Nat):Int)∧0≤Tp.gt (x::d) j:=fun ⟨j,h1,h2,h3⟩=>⟨j+1,by simpa using h1,by omega,h3⟩
  simp only [Tp.places]
  constructor
  ·intro h
   split at h
   ·rename_i h0
    rcases List.mem_cons.1 h with h|h
    ·exact ⟨0,by simp,by simpa using h,h0⟩
    ·exact h2 (ih.1 h)
   ·exact h2 (ih.1 h)
  ·rintro ⟨j,h1,h3,h4⟩
   cases j with
   | zero =>
    rw [if_pos (show 0≤x from h4)]
    exact List.mem_cons.2 (.inl (by simpa using h3))
   | succ j =>
    have:=ih.2 ⟨j,by simpa using h1,by omega,h4⟩
    split
    ·exact List.mem_cons_of_mem _ this
    ·exact this
theorem zta {G:Log} {n:Nat} {N:Nat→Nat} {C:Kn} {g:zd} (h:Grp G n N C g) (dead:List Int) (hd:dead.length≤1048576) {k:Nat} (hk:k < n):∃ r,zaP g dead (k:Int)=some r∧zar g dead (k:Int)=some r∧Tp.Rising r∧∀ y,y ∈ r↔∃ j:Nat,y=(j:Int)∧Conn (zdk dead 0 g.topology.links) k j:=by
 have hlk:=h.lk
 have hlen:g.topology.links.length≤2 ^ 40:=by have:=h.lks;omega
 obtain ⟨r,h1,h2,h3⟩:=Tp.connected_both g dead (k:Int) hlen (by omega)
 refine ⟨r,h1,h2,h3,?_⟩
 obtain ⟨s1,s2⟩:=zbN h.top
 have hsz:=h.size
 have hv:zaq ⟨g.topology.size,zeN dead 0 g.topology.links⟩=true:=zsg hsz (by omega) (by omega) (fun x hx=>hlk x ((zhI _ 0).subset hx)) ((zxV h.top).sublist (zhI _ 0))
 have hok:=Tp.advs_ok ⟨g.topology.size,zeN dead 0 g.topology.links⟩
 obtain ⟨d,hd1,hd2⟩:=Tp.impl_Distances _ hok (k:Int)
 have hr:r=Tp.places 0 d:=by
  have e:=Tp.p_impl_Reach _ hok hd1 hd2.1
  unfold zar at h2
  rw [Tp.p_impl_RemoveFailed _ _ _ hlen (by omega),zyP,Option.bind_some,Tp.p_impl_AdvertisementsOf _ (by show (zeN dead 0 g.topology.links).length≤2 ^ 40;have:=(zhI (dead:=dead) g.topology.links 0).length_le;omega),Option.bind_some,e] at h2
  simpa using h2.symm
 have edge:∀ a b:Nat,Tp.RB (Tp.advs ⟨g.topology.size,zeN dead 0 g.topology.links⟩) a b=true↔((a,b) ∈ zdk dead 0 g.topology.links∨(b,a) ∈ zdk dead 0 g.topology.links):=fun a b=>by
  rw [zzV hv hsz,zla]
  constructor
  ·rintro ⟨_,_,x,hx,(⟨e1,e2⟩|⟨e1,e2⟩)⟩
   ·left
    refine List.mem_map.2 ⟨x,hx,?_⟩
    rw [e1,e2,Int.toNat_natCast,Int.toNat_natCast]
   ·right
    refine List.mem_map.2 ⟨x,hx,?_⟩
    rw [e1,e2,Int.toNat_natCast,Int.toNat_natCast]
  ·rintro (hm|hm)<;>obtain ⟨x,hx,e⟩:=List.mem_map.1 hm<;>obtain ⟨q1,q2,q3⟩:=hlk x ((zhI _ 0).subset hx)<;>injection e with e1 e2
   ·exact ⟨by omega,by omega,x,hx,.inl ⟨by omega,by omega⟩⟩
   ·exact ⟨by omega,by omega,x,hx,.inr ⟨by omega,by omega⟩⟩
 have hon:Tp.onA (Tp.advs ⟨g.topology.size,zeN dead 0 g.topology.links⟩) (k:Int):=by
  refine ⟨by omega,?_⟩
  have hf:=zo6 hv hsz k
  rw [if_pos hk] at hf
  rcases zbd (fun x:zg=>decide (x.origin=(k:Int))) (Tp.advs ⟨g.topology.size,zeN dead 0 g.topology.links⟩) with ⟨e1,_⟩|⟨j,x,e1,_,_⟩
  ·rw [e1,zf4 _ _ (by decide)] at hf
   cases hf
  ·rw [e1];omega
 have to1:∀ {j:Nat},Tp.Rch (Tp.RB (Tp.advs ⟨g.topology.size,zeN dead 0 g.topology.links⟩)) k j→Conn (zdk dead 0 g.topology.links) k j:=fun {j} hj=>by
  induction hj with
  | start=>exact .refl
  | step _ hr _ ih=>exact .step ih ((edge _ _).1 hr)
 have to2:∀ {j:Nat},Conn (zdk dead 0 g.topology.links) k j→Tp.Rch (Tp.RB (Tp.advs ⟨g.topology.size,zeN dead 0 g.topology.links⟩)) k j:=fun {j} hj=>by
  induction hj with
  | refl=>exact .start
  | step hb he ih =>
   refine .step ih ((edge _ _).2 he) ?_
   have:=(Conn.step hb he).lt (h.live dead) hk
   omega
 intro y
 rw [hr,zn5]
 constructor
 ·rintro ⟨j,h4,h5,h6⟩
  rw [hd2.1] at h4
  have h7:=(hd2.2 j h4).1 h6
  rw [Int.toNat_natCast] at h7
  exact ⟨j,by omega,to1 h7.2⟩
 ·rintro ⟨j,h4,h5⟩
  have hj:=h5.lt (h.live dead) hk
  refine ⟨j,by rw [hd2.1];omega,by omega,(hd2.2 j (by omega)).2 ⟨hon,?_⟩⟩
  rw [Int.toNat_natCast]
  exact to2 h5
theorem zo8 {α:Type} {e:α→α→Bool} (h:∀ x,e x x=true):∀ l:List α,allE e l l=true
 | []=>rfl
 | x::l=>by
  show (e x x && allE e l l)=true
  rw [h,zo8 h l]
  rfl
theorem zrg {G:Log} {k kf:Nat} {c:Nat→Nat} {m fr:zc} (hm:Mem G k c m) (hf:Mem G kf c fr):m.publications.any (Tp.lacks fr.publications)=false:=by
 refine List.any_eq_false.2 fun x hx=>?_
 obtain ⟨i,s,h1,h2,h3,rfl⟩:=hm.only x hx
 have hfp:Tp.findPub fr.publications (nm i) (s:Int)=(G i s,true):=by
  have e:(pubP (nm i) (s:Int))=pubP (nm i) (s:Int):=rfl
  unfold Tp.findPub
  rw [e,zkq,hf.find h1 h2 h3]
  rfl
 unfold Tp.lacks
 show ¬ (!(Tp.findPub fr.publications (nm i) (s:Int)).2 || !decide ((Tp.findPub fr.publications (nm i) (s:Int)).1=G i s))=true
 rw [hfp,decide_eq_true rfl]
 simp
theorem zw4 {G:Log} {k kf:Nat} {c:Nat→Nat} {m fr:zc} (hm:Mem G k c m) (hf:Mem G kf c fr):Tp.inS m fr=true:=by
 unfold Tp.inS
 rw [zrg hm hf,zrg hf hm,hm.vec,hf.vec,zo8 (fun x=>by unfold Tp.tE;rw [decide_eq_true rfl,decide_eq_true rfl];rfl)]
 rfl
theorem zzY {G:Log} (hG:zio G) {k:Nat} {c:Nat→Nat} {m:zc} (h:Mem G k c m) (hs:sumN c 0 6≤16):Tp.MemOk m:=by
 refine ⟨⟨?_,fun x hx=>?_⟩,by rw [h.len];omega,fun x hx=>?_⟩
 ·rw [h.vec]
  have:=zns (f:=c) 6 0
  omega
 ·rw [h.vec] at hx
  obtain ⟨i,_,_,_,rfl⟩:=zhd 6 0 hx
  show (nm i).length≤_
  rw [zrD]
  decide
 ·obtain ⟨i,s,_,_,_,rfl⟩:=h.only x hx
  have:=hG i s
  refine ⟨?_,by show (G i s).length≤_;omega⟩
  show (nm i).length≤_
  rw [zrD]
  decide
theorem zzp {G:Log} {n:Nat} {N:Nat→Nat} {C:Kn} {g:zd} (h:Grp G n N C g) (dead:List Int) {k:Nat} (hk:k < n) {r:List Int} (hr:zar g dead (k:Int)=some r) (hR:Tp.Rising r) (hin:∀ y ∈ r,∃ j:Nat,y=(j:Int)∧j < n∧C j=C k):zcd g dead (k:Int)=some true:=by
 have hM:∀ m ∈ g.members,Tp.MemOk m:=fun m hm=>by
  obtain ⟨j,hj⟩:=List.getElem?_of_mem hm
  exact zzY h.grs.short (h.grs.mem j m hj) (h.grs.sum (h.grs.lt hj))
 have ho:=Tp.impl_out g (by rw [h.grs.len];have:=h.grs.n6;omega) hM hR
 have hf:r.any (fun x=>r.any (fun y=>!decide (x=y) && !Tp.okP g.members x y))=false:=by
  refine List.any_eq_false.2 fun x hx=>?_
  rw [Bool.not_eq_true]
  refine List.any_eq_false.2 fun y hy=>?_
  obtain ⟨a,rfl,ha,ea⟩:=hin x hx
  obtain ⟨b,rfl,hb,eb⟩:=hin y hy
  obtain ⟨p,hp,pM⟩:=h.grs.at ha
  obtain ⟨q,hq,qM⟩:=h.grs.at hb
  rw [ea] at pM
  rw [eb] at qM
  have:Tp.okP g.members (a:Int) (b:Int)=true:=by
   unfold Tp.okP
   rw [zbD,zbD,hp,hq]
   exact zw4 pM qM
  rw [this]
  simp
 rw [hf] at ho
 unfold zcd
 rw [hr,Option.bind_some,ho]
 rfl
def zhs (C:Kn):List Int→(Nat→Nat)→Nat→Nat
 | [],f=>f
 | y::r,f=>zhs C r (mx f (C y.toNat))
theorem zq3 (C:Kn):∀ (r:List Int) (f:Nat→Nat) (p:Nat),f p≤zhs C r f p∧∀ y ∈ r,C y.toNat p≤zhs C r f p
 | [],f,p=>⟨Nat.le_refl _,fun y hy=>by cases hy⟩
 | y::r,f,p=>by
  obtain ⟨h1,h2⟩:=zq3 C r (mx f (C y.toNat)) p
  have h3:mx f (C y.toNat) p=max (f p) (C y.toNat p):=rfl
  refine ⟨?_,fun z hz=>?_⟩
  ·show f p≤zhs C r (mx f (C y.toNat)) p
   omega
  ·show C z.toNat p≤zhs C r (mx f (C y.toNat)) p
   rcases List.mem_cons.1 hz with rfl|hz
   ·omega
   ·exact h2 z hz
theorem zpq (C:Kn):∀ (r:List Int) (f:Nat→Nat) (p:Nat),zhs C r f p=f p∨∃ y ∈ r,zhs C r f p=C y.toNat p
 | [],f,p=>.inl rfl
 | y::r,f,p=>by
  show zhs C r (mx f (C y.toNat)) p=f p∨∃ z ∈ y::r,zhs C r (mx f (C y.toNat)) p=C z.toNat p
  rcases zpq C r (mx f (C y.toNat)) p with h|⟨z,hz,h⟩
  ·have h3:mx f (C y.toNat) p=max (f p) (C y.toNat p):=rfl
   rcases Nat.le_total (f p) (C y.toNat p) with hle|hle
   ·exact .inr ⟨y,List.mem_cons_self ..,by omega⟩
   ·exact .inl (by omega)
  ·exact .inr ⟨z,List.mem_cons_of_mem _ hz,h⟩
theorem zs9 {G:Log} {n:Nat} {N:Nat→Nat} {C:Kn} {g:zd} (h:Grp G n N C g):∀ (r:List Int) (i:Nat) (f:Nat→Nat),(∀ y ∈ r,∃ j:Nat,y=(j:Int)∧j < n)→gath (zgq g) i r (tabF f 0 6)=tabF (zhs C r f) 0 6
 | [],i,f,_=>rfl
 | y::r,i,f,hr=>by
  obtain ⟨j,rfl,hj⟩:=hr y (List.mem_cons_self ..)
  obtain ⟨m,hm,M⟩:=h.grs.at hj
  have hl:=h.grs.len
  show gath (zgq g) (i+1) r (zgq g i (j:Int) (tabF f 0 6))=tabF (zhs C r (mx f (C ((j:Int)).toNat))) 0 6
  rw [Int.toNat_natCast]
  unfold zgq
  rw [decide_eq_true (show 0≤(j:Int)∧(j:Int)≤((g.members.length:Nat):Int) - 1 by omega),cond_true,zbD,hm]
  dsimp only
  rw [M.vec,zuo]
  have ih:=zs9 h r (i+1) (mx f (C j)) fun y hy=>hr y (List.mem_cons_of_mem _ hy)
  unfold zgq at ih
  exact ih
theorem zwW {G:Log} {n:Nat} {N:Nat→Nat} {C:Kn} {g:zd} (h:Grp G n N C g) (dead:List Int) {k:Nat} (hk:k < n) {r:List Int} (hin:∀ y,y ∈ r↔∃ j:Nat,y=(j:Int)∧Conn (zdk dead 0 g.topology.links) k j):comb g r=tabF (zbP (zdk dead 0 g.topology.links) n C k) 0 6:=by
 have hL:=h.live dead
 unfold comb
 have e0:([]:List zb)=tabF (fun _=>0) 0 6:=(zlG 6 0).symm
 rw [e0,zs9 h r 0 _ fun y hy=>by
  obtain ⟨j,e,hj⟩:=(hin y).1 hy
  exact ⟨j,e,hj.lt hL hk⟩]
 refine zd1 6 0 fun p _ _=>Nat.le_antisymm ?_ ?_
 ·rcases zpq C r (fun _=>0) p with e|⟨y,hy,e⟩
  ·rw [e];exact Nat.zero_le _
  ·obtain ⟨j,rfl,hj⟩:=(hin y).1 hy
   rw [e,Int.toNat_natCast]
   exact full hL C (hj.lt hL hk) hj.symm p
 ·obtain ⟨j,hj,e⟩:=zq5 (zdk dead 0 g.topology.links) n C k p
  rw [e]
  have:=(zq3 C r (fun _=>0) p).2 (j:Int) ((hin _).2 ⟨j,rfl,hj⟩)
  rwa [Int.toNat_natCast] at this
end
end Go.Proofs.YtifkepnfaggkiaaGreatDoor
