import Derived.Test.YtifkepnfaggkiaaGreatDoorPt
namespace Go.Proofs.YtifkepnfaggkiaaGreatDoor
open Go.RowKit
set_option linter.unusedVariables false
set_option linter.unusedSimpArgs false
noncomputable section
def NmS (n:List ByteArray):Prop:=n.length≤2 ^ 22∧∀ s ∈ n,s.size≤2 ^ 40
def TabS (l:List zb):Prop:=l.length≤2 ^ 22∧∀ x ∈ l,NmS x.name
theorem NmS.ok {n:List ByteArray} (h:NmS n):zhZ n:=⟨by have:=h.1;omega,h.2⟩
theorem TabS.ok {l:List zb} (h:TabS l):zfI l:=⟨by have:=h.1;omega,fun x hx=>(h.2 x hx).ok⟩
theorem zkr (l:List zb) (h:TabS l):zbw l=some l:=by
 unfold zbw
 have hl:=h.1
 rw [zgG l (fun x=>[x]) (by omega) (fun _=>Nat.le_refl _) (fun i x out hm hx hi ho=>by
  have hn:=(h.2 x hm).1
  simp only [zgV,zw _ hi,cond_true,hx,Option.bind_some,zfM x.name (by omega)]
  simp only [zq,zS,zcc i l.length hi (by omega)]
  rw [zbZ _ _ _ (by simp only [List.length_singleton];omega)]
  rfl) (fun out=>by simp only [zgV,zz];rfl),ze5]
 rfl
theorem zjL (l:List zb) (h:TabS l):za5 l=some l:=by
 unfold za5 zaK
 have hl:=h.1
 rw [zgG l (fun x=>[x]) (by omega) (fun _=>Nat.le_refl _) (fun i x out hm hx hi ho=>by
  have hn:=(h.2 x hm).1
  simp only [za8,zdK,zw _ hi,cond_true,hx,Option.bind_some,zeP x.name (by omega)]
  simp only [zq,zS,zcc i l.length hi (by omega)]
  rw [zbZ _ _ _ (by simp only [List.length_singleton];omega)]
  rfl) (fun out=>by simp only [za8,zz];rfl),ze5]
 rfl
def gtP (n:List ByteArray) (x:zb):Bool:=decide (0 < cmpN x.name n)
def insT (l:List zb) (k:Nat) (x:zb):List zb:=l.take k++x::l.drop k
def putL (l:List zb) (n:List ByteArray) (v:Int):List zb:=if l.any (entP n) then l.set (idxI (entP n) l).toNat ⟨n,v⟩ else insT l (l.findIdx (gtP n)) ⟨n,v⟩
def put (l:List zb) (n:List ByteArray) (v:Int):List zb×Bool:=bif vTab (putL l n v) then (putL l n v,true) else (l,false)
theorem zlC {α γ:Type} (q:α→Bool) (r:Nat→α→γ):∀ (l:List α) (i:Nat),(∃ h:l.findIdx q < l.length,scan (fun _ x=>q x) r i l=some (r (i+l.findIdx q) l[l.findIdx q]))∨(l.findIdx q=l.length∧scan (fun _ x=>q x) r i l=none)
 | [],i=>.inr ⟨rfl,rfl⟩
 | x::l,i=>by
  by_cases hq:q x=true
  ·left
   have e:(x::l).findIdx q=0:=by simp [List.findIdx_cons,hq]
   refine ⟨by rw [e];simp,?_⟩
   simp only [scan,hq,e]
   rfl
  ·have hq':q x=false:=by simpa using hq
   have e:(x::l).findIdx q=l.findIdx q+1:=by simp [List.findIdx_cons,hq']
   rcases zlC q r l (i+1) with ⟨h,hs⟩|⟨h,hs⟩
   ·left
    refine ⟨by rw [e];simpa using h,?_⟩
    simp only [scan,hq',e,hs,Bool.false_eq_true,if_false,List.getElem_cons_succ]
    rw [show i+1+l.findIdx q=i+(l.findIdx q+1) by omega]
   ·right
    refine ⟨by rw [e,h];rfl,?_⟩
    simp only [scan,hq',hs,Bool.false_eq_true,if_false]
theorem zjY {α:Type} {p q:α→Bool}:∀ l:List α,(∀ x ∈ l,p x=q x)→l.findIdx p=l.findIdx q
 | [],_=>rfl
 | x::l,h=>by
  rw [List.findIdx_cons,List.findIdx_cons,h x (by simp),zjY l fun y hy=>h y (by simp [hy])]
theorem zk8 {α:Type} (q:α→Bool) (l:List α):(idxI q l=((l.findIdx q:Nat):Int)∧l.findIdx q < l.length)∨(idxI q l=-1∧l.findIdx q=l.length):=by
 unfold idxI
 rcases zlC q (fun i _=>(i:Int)) l 0 with ⟨h,hs⟩|⟨h,hs⟩
 ·rw [hs]
  refine .inl ⟨?_,h⟩
  show ((0+l.findIdx q:Nat):Int)=_
  rw [Nat.zero_add]
 ·rw [hs];exact .inr ⟨rfl,h⟩
theorem TabS.set {l:List zb} (h:TabS l) {n:List ByteArray} (hn:NmS n) (v:Int) (j:Nat):TabS (l.set j ⟨n,v⟩):=⟨by rw [List.length_set];exact h.1,fun x hx=>by
 rcases List.mem_or_eq_of_mem_set hx with hx|rfl
 ·exact h.2 x hx
 ·exact hn⟩
theorem zw7 {l:List zb} {k:Nat} (hk:k≤l.length) (x:zb):(insT l k x).length=l.length+1:=by
 unfold insT
 simp only [List.length_append,List.length_take,List.length_cons,List.length_drop]
 omega
theorem ztj {l:List zb} (h:TabS l) {n:List ByteArray} (hn:NmS n) (v:Int) {k:Nat} (hk:k≤l.length):zfI (insT l k ⟨n,v⟩):=⟨by rw [zw7 hk];have:=h.1;omega,fun x hx=>by
 unfold insT at hx
 rcases List.mem_append.1 hx with hx|hx
 ·exact (h.2 x (List.mem_of_mem_take hx)).ok
 ·rcases List.mem_cons.1 hx with rfl|hx
  ·exact hn.ok
  ·exact (h.2 x (List.mem_of_mem_drop hx)).ok⟩
theorem ztA (n k:Nat) (h:k≤n):za.rsub 0 n none (some (k:Int))=some (0,k):=by
 show (match zak none 0,zak (some (k:Int)) n with
  | some a,some h=>if a≤h∧h≤n then some (0+a,h - a) else none
  | _,_=>none)=_
 simp only [zak]
 rw [if_pos (by omega),Int.toNat_natCast]
 simp only
 rw [if_pos ⟨Nat.zero_le _,h⟩]
 simp
theorem zoX (n k:Nat) (h:k≤n):za.rsub 0 n (some (k:Int)) none=some (k,n - k):=by
 show (match zak (some (k:Int)) 0,zak none n with
  | some a,some h=>if a≤h∧h≤n then some (0+a,h - a) else none
  | _,_=>none)=_
 simp only [zak]
 rw [if_pos (by omega),Int.toNat_natCast]
 simp only
 rw [if_pos ⟨h,Nat.le_refl _⟩]
 simp
theorem zrR {α:Type} (l:List α) (k:Nat) (h:k≤l.length):za3 l 0 k=some (l.take k):=by
 unfold za3
 rw [if_pos (by omega)]
 rfl
theorem zrS {α:Type} (l:List α) (k:Nat) (h:k≤l.length):zjB l 0 k k (l.length - k)=some (l.drop k):=by
 unfold zjB za3
 rw [if_pos (by omega),if_pos (by omega),List.take_of_length_le (by rw [List.length_drop];omega)]
theorem zyW {l:List zb} {n:List ByteArray} (h:l.any (entP n)=false):∀ x ∈ l,(!decide (cmpN x.name n < 0))=gtP n x:=by
 intro x hx
 rw [List.any_eq_false] at h
 have h1:¬ x.name=n:=by simpa [entP] using h x hx
 have h2:cmpN x.name n≠0:=fun e=>h1 ((zh2 _ _).1 e)
 unfold gtP
 by_cases h3:cmpN x.name n < 0
 ·rw [decide_eq_true h3,decide_eq_false (by omega)];rfl
 ·rw [decide_eq_false h3,decide_eq_true (by omega)];rfl
theorem zhy (l:List zb) (n:List ByteArray) (v:Int) (h:TabS l) (hn:NmS n):zaS l n v=some (put l n v):=by
 unfold zaS
 have hl:=h.1
 have hnl:=hn.1
 rw [zkr l h,Option.bind_some,zrN l n h.ok,Option.bind_some,zbE]
 unfold put putL
 rcases zbd (entP n) l with ⟨h1,h2⟩|⟨j,x,h1,h2,h3⟩
 ·rw [h1,h2,if_neg Bool.false_ne_true]
  rw [show decide ((0:Int)≤-1)=false from rfl,cond_false]
  rw [zu l (fun _ x=>!decide (cmpN x.name n < 0)) (fun i x=>((i:Int),i,x,cmpN x.name n)) Sum.inl (.inr (l.length:Int)) (by omega) (fun i hi=>by
   simp only [zfV,zw _ hi,cond_true,zaD _ hi,List.getElem?_eq_getElem hi,Option.bind_some,zhK _ _ (h.ok.2 _ (List.getElem_mem hi)).1,zy]
   cases decide (cmpN l[i].name n < 0)<;>rfl) (by simp only [zfV,zz];rfl)]
  rw [Option.bind_some]
  have hf:=zjY l (zyW h2)
  have hk:l.findIdx (gtP n)≤l.length:=List.findIdx_le_length
  have hv:=zgI _ (ztj h hn v hk)
  have hfit1:za.fits 0 (l.take (l.findIdx (gtP n))).length 32=true:=zcg _ _ (by rw [List.length_take];omega) (by decide)
  have hfit2:za.fits (l.take (l.findIdx (gtP n))).length 1 32=true:=zbZ _ _ _ (by rw [List.length_take];omega)
  have hfit3:za.fits (l.take (l.findIdx (gtP n))++[(⟨n,v⟩:zb)]).length (l.drop (l.findIdx (gtP n))).length 32=true:=zbZ _ _ _ (by rw [List.length_append,List.length_take,List.length_drop];simp only [List.length_singleton];omega)
  have ht:(l.take (l.findIdx (gtP n))++[(⟨n,v⟩:zb)])++l.drop (l.findIdx (gtP n))=insT l (l.findIdx (gtP n)) ⟨n,v⟩:=by
   unfold insT
   rw [List.append_assoc]
   rfl
  rcases zlC (fun x:zb=>!decide (cmpN x.name n < 0)) (fun i x=>((i:Int),i,x,cmpN x.name n)) l 0 with ⟨hlt,hs⟩|⟨hlt,hs⟩
  ·rw [hs]
   simp only [Nat.zero_add]
   rw [hf]
   simp only [zfM n (by omega),Option.bind_some,zq,ztA _ _ hk,zoX _ _ hk,zrR _ _ hk,zS,List.length_singleton,hfit1,hfit2,hfit3,cond_true,zrS _ _ hk,ht,hv,zp]
   cases vTab (insT l (l.findIdx (gtP n)) ⟨n,v⟩)<;>rfl
  ·rw [hs]
   rw [← hlt,hf]
   simp only [zfM n (by omega),Option.bind_some,zq,ztA _ _ hk,zoX _ _ hk,zrR _ _ hk,zS,List.length_singleton,hfit1,hfit2,hfit3,cond_true,zrS _ _ hk,ht,hv,zp]
   cases vTab (insT l (l.findIdx (gtP n)) ⟨n,v⟩)<;>rfl
 ·have hj:j < l.length:=(List.getElem?_eq_some_iff.1 h2).1
  have hx:x.name=n:=by simpa [entP] using h3
  have ha:l.any (entP n)=true:=List.any_eq_true.2 ⟨x,List.mem_of_getElem? h2,h3⟩
  rw [h1,ha]
  rw [decide_eq_true (show (0:Int)≤((j:Nat):Int) by omega),cond_true,zaD _ hj,Option.bind_some,h2,Option.bind_some,hx,zgI _ (h.set hn v j).ok,Option.bind_some,zp,Int.toNat_natCast]
  simp only [if_true]
  cases vTab (l.set j ⟨n,v⟩)<;>rfl
theorem zy4 (l:List zb) (n:List ByteArray) (h:TabS l):zah l n=some (idxI (gtP n) l):=by
 unfold zah
 have hl:=h.1
 rw [zu l (fun _ x=>gtP n x) (fun i _=>(i:Int)) .inr (.inl (l.length:Int)) (by omega) (fun j hj=>by
  simp only [zap,zew,zw _ hj,zt hj,cond_true,Option.bind_some,zhC _ _ (h.ok.2 _ (List.getElem_mem hj)).1,gtP,zdt]) (by simp only [zap,zz];rfl)]
 unfold idxI
 cases scan (fun _ x=>gtP n x) (fun i _=>(i:Int)) 0 l<;>rfl
theorem zti (l:List zb) (k:Nat) (x:zb) (hk:k≤l.length) (hl:l.length≤2 ^ 22):zaL l (k:Int) x=some (insT l k x):=by
 unfold zaL insO
 rw [if_pos ⟨by omega,by omega,by omega⟩,Int.toNat_natCast]
 rfl
theorem zjA (l:List zb) (n:List ByteArray) (v:Int) (h:TabS l) (hn:NmS n):zbS l n v=some (put l n v):=by
 unfold zbS
 have hl:=h.1
 have hnl:=hn.1
 rw [zjL l h,Option.bind_some,zkN l n h.ok,Option.bind_some,zbE]
 unfold put putL
 rcases zbd (entP n) l with ⟨h1,h2⟩|⟨j,x,h1,h2,h3⟩
 ·rw [h1,h2,if_neg Bool.false_ne_true]
  rw [show decide ((0:Int)≤-1)=false from rfl,cond_false,zy4 l n h,Option.bind_some]
  have hk:l.findIdx (gtP n)≤l.length:=List.findIdx_le_length
  have hv:=zgH _ (ztj h hn v hk)
  rcases zk8 (gtP n) l with ⟨e,hlt⟩|⟨e,hlt⟩
  ·rw [e]
   simp only [zy,decide_eq_false (show ¬ ((l.findIdx (gtP n):Nat):Int) < 0 by omega),cond_false,zeP n (by omega),Option.bind_some,zti _ _ _ hk hl,hv,zp]
   cases vTab (insT l (l.findIdx (gtP n)) ⟨n,v⟩)<;>rfl
  ·rw [e]
   rw [hlt] at hv hk
   simp only [hlt,zy,show decide ((-1:Int) < 0)=true from rfl,cond_true,zeP n (by omega),Option.bind_some,zV,zq,zti _ _ _ hk hl,hv,zp]
   cases vTab (insT l l.length ⟨n,v⟩)<;>rfl
 ·have hj:j < l.length:=(List.getElem?_eq_some_iff.1 h2).1
  have hx:x.name=n:=by simpa [entP] using h3
  have ha:l.any (entP n)=true:=List.any_eq_true.2 ⟨x,List.mem_of_getElem? h2,h3⟩
  rw [h1,ha]
  rw [decide_eq_true (show (0:Int)≤((j:Nat):Int) by omega),cond_true,zaD _ hj,Option.bind_some,h2,Option.bind_some,hx,zgH _ (h.set hn v j).ok,Option.bind_some,zp,Int.toNat_natCast]
  simp only [if_true]
  cases vTab (l.set j ⟨n,v⟩)<;>rfl
def Good (l:List zb):Prop:=l.length≤20∧∀ x ∈ l,zdr x.name=true
theorem zlI {l:List zb} (h:vTab l=true):Good l:=by
 unfold vTab at h
 cases hs:scan (badT l) (fun _ _=>false) 0 l with
 | some b =>
  rw [hs] at h
  obtain ⟨_,_,_,_,hb⟩:=zbs _ _ l 0 b hs
  subst hb
  cases h
 | none =>
  rw [hs] at h
  refine ⟨by have:=of_decide_eq_true h;omega,fun x hx=>?_⟩
  obtain ⟨j,hj⟩:=List.getElem?_of_mem hx
  have:=ze1 _ _ l 0 hs j x hj
  unfold badT at this
  rw [Bool.or_eq_false_iff] at this
  simpa using this.1
theorem Good.tab {l:List zb} (h:Good l):TabS l:=⟨by have:=h.1;omega,fun x hx=>by
 obtain ⟨h1,h2⟩:=zjS (h.2 x hx)
 exact ⟨by omega,fun s hs=>by have:=h2 s hs;omega⟩⟩
theorem zrW {l:List zb} (h:Good l) (n:List ByteArray) (v:Int):Good (put l n v).1:=by
 unfold put
 cases hv:vTab (putL l n v)
 ·exact h
 ·exact zlI hv
theorem zoW {l:List zb} (h:TabS l) (n:List ByteArray) (v:Int):TabS (put l n v).1:=by
 unfold put
 cases hv:vTab (putL l n v)
 ·exact h
 ·exact (zlI hv).tab
theorem zki {α σ:Type} (f:Nat→α→σ→σ) (P:σ→Prop) (h:∀ i x s,P s→P (f i x s)):∀ (l:List α) (i:Nat) (s:σ),P s→P (gath f i l s)
 | [],_,_,hs=>hs
 | x::l,i,s,hs=>zki f P h l (i+1) _ (h i x s hs)
end
end Go.Proofs.YtifkepnfaggkiaaGreatDoor
namespace Go.Proofs.YtifkepnfaggkiaaGreatDoor
open Go.RowKit
set_option linter.unusedVariables false
set_option linter.unusedSimpArgs false
noncomputable section
theorem PubOk.take {l:List zh} (h:PubOk l) (i:Nat):PubOk (l.take i):=⟨by rw [List.length_take];have:=h.1;omega,fun x hx=>h.2 x (List.mem_of_mem_take hx)⟩
theorem zpN {α:Type} {l:List α} {i:Nat} (hi:i < l.length):subI l none (some (i:Int))=some (l.take i):=by
 have e:zak (some (i:Int)) l.length=some i:=by simp [zak]
 have e0:zak none 0=some 0:=rfl
 unfold subI
 rw [e,e0]
 simp only
 rw [if_pos ⟨by omega,by omega⟩]
 rfl
structure MemOk (m:zc):Prop where
 name:zhZ m.name
 vec:zfI m.vector
 pub:PubOk m.publications
def badP (m:zc) (i:Nat) (x:zh):Bool:=!decide (1≤x.seq∧x.seq≤seqV m.vector x.publisher) || (decide (60 < (x.content.length:Int)) || decide (0≤idxI (pubP x.publisher x.seq) (m.publications.take i)))
def vMem (m:zc):Bool:=zdr m.name && (!decide ((m.name.length:Int)=0) && (vVec m.vector && (!decide (16 < (m.publications.length:Int)) && (decide ((m.publications.length:Int)=sumV 0 m.vector) && (match scan (badP m) (fun _ _=>false) 0 m.publications with|some b=>b|none=>true)))))
theorem zh6 (m:zc) (h:MemOk m):zbM m=some (vMem m):=by
 unfold zbM vMem
 have hl:=h.pub.1
 rw [zfN _ h.name,zlw _ h.vec,zi3 _ h.vec.1]
 rw [zu m.publications (badP m) (fun _ _=>false) .inr (.inl (m.publications.length:Int)) (by omega) (fun i hi=>by
  have hlt:za.cmp .lss (i:Int) (m.publications.length:Int)=true:=decide_eq_true (by omega)
  simp only [zeC,hlt,zt hi,cond_true,Option.bind_some,zeq _ _ h.vec,zgT,zp,zdt,zbE,zV,zq,zpN hi,zlq _ _ _ (h.pub.take i),badP]
  cases decide (1≤m.publications[i].seq∧m.publications[i].seq≤seqV m.vector m.publications[i].publisher)<;>cases decide (60 < (m.publications[i].content.length:Int))<;>cases decide (0≤idxI (pubP m.publications[i].publisher m.publications[i].seq) (m.publications.take i))<;>rfl) (by simp only [zeC,zz];rfl)]
 simp only [Option.bind_some,zp,za6,zav,zdt,zV,zq]
 cases zdr m.name<;>cases decide ((m.name.length:Int)=0)<;>cases vVec m.vector<;>cases decide (16 < (m.publications.length:Int))<;>cases decide ((m.publications.length:Int)=sumV 0 m.vector)<;>first|rfl|skip
 cases scan (badP m) (fun _ _=>false) 0 m.publications<;>rfl
theorem zf6 (m:zc) (h:MemOk m):zaG m=some (vMem m):=by
 unfold zaG vMem
 have hl:=h.pub.1
 have hf:∀ b,scan (badP m) (fun _ _=>false) 0 m.publications=some b→b=false:=by
  intro b hb
  obtain ⟨j,x,_,_,h3⟩:=zbs _ _ _ _ _ hb
  exact h3
 rw [zi0 _ h.name,zlo _ h.vec,znh _ h.vec.1]
 rw [zu m.publications (badP m) (fun _ _=>false) .inr (.inl (m.publications.length:Int)) (by omega) (fun i hi=>by
  have hlt:za.cmp .lss (i:Int) (m.publications.length:Int)=true:=decide_eq_true (by omega)
  simp only [zex,hlt,zt hi,cond_true,Option.bind_some,zds _ _ h.vec,zcm,zp,zdt,zbE,zV,zq,zpN hi,zig _ _ _ (h.pub.take i),badP]
  cases decide (1≤m.publications[i].seq∧m.publications[i].seq≤seqV m.vector m.publications[i].publisher)<;>cases decide (60 < (m.publications[i].content.length:Int))<;>cases decide (0≤idxI (pubP m.publications[i].publisher m.publications[i].seq) (m.publications.take i))<;>rfl) (by simp only [zex,zz];rfl)]
 have es:decide (sumV 0 m.vector=(m.publications.length:Int))=decide ((m.publications.length:Int)=sumV 0 m.vector):=decide_eq_decide.2 eq_comm
 simp only [Option.bind_some,zp,za6,zav,zdt,zV,zq]
 cases hc:scan (badP m) (fun _ _=>false) 0 m.publications with
 | none =>
  simp only [Option.bind_some,es]
  cases zdr m.name<;>cases decide ((m.name.length:Int)=0)<;>cases vVec m.vector<;>cases decide (16 < (m.publications.length:Int))<;>cases decide ((m.publications.length:Int)=sumV 0 m.vector)<;>rfl
 | some b =>
  rw [hf b hc]
  cases zdr m.name<;>cases decide ((m.name.length:Int)=0)<;>cases vVec m.vector<;>cases decide (16 < (m.publications.length:Int))<;>cases decide ((m.publications.length:Int)=sumV 0 m.vector)<;>rfl
def zgw (k:Int):List ByteArray:=[bs [109],bs (Go.Lib.itoa k)]
theorem zpJ (k:Int) (h:I64 k):zcZ k=some (zgw k):=by
 unfold zcZ
 simp only [znj k h,Option.bind_some]
 rfl
theorem zls (k:Int) (h:I64 k):zbg k=some (zgw k):=by
 unfold zbg
 simp only [znb k h,Option.bind_some]
 rfl
structure GrpOk (g:zd):Prop where
 links:g.topology.links.length≤2 ^ 40
 len:g.members.length≤2 ^ 40
 mem:∀ m ∈ g.members,MemOk m
def badM (i:Nat) (m:zc):Bool:=!vMem m || !decide (m.name=zgw i)
def vGrp (g:zd):Bool:=zaq g.topology && (decide ((g.members.length:Int)=g.topology.size) && (match scan badM (fun _ _=>false) 0 g.members with|some b=>b|none=>true))
theorem zfj (g:zd) (h:GrpOk g):zaz g=some (vGrp g):=by
 unfold zaz vGrp
 have hl:=h.len
 rw [zfO _ h.links]
 rw [zu g.members badM (fun _ _=>false) .inr (.inl (g.members.length:Int)) (by omega) (fun i hi=>by
  have hm:=h.mem _ (List.getElem_mem hi)
  simp only [zc6,zw _ hi,zt hi,cond_true,Option.bind_some,zh6 _ hm,zpJ (i:Int) (zlX (by omega)),zfd _ _ hm.name.1,zp,badM]
  cases vMem g.members[i]<;>cases decide (g.members[i].name=zgw i)<;>rfl) (by simp only [zc6,zz];rfl)]
 simp only [Option.bind_some,zp,zav,zV,zq]
 cases zaq g.topology<;>cases decide ((g.members.length:Int)=g.topology.size)<;>first|rfl|skip
 cases scan badM (fun _ _=>false) 0 g.members<;>rfl
theorem zfh (g:zd) (h:GrpOk g):zao g=some (vGrp g):=by
 unfold zao vGrp
 have hl:=h.len
 rw [zfL _ h.links]
 rw [zu g.members badM (fun _ _=>false) .inr (.inl (g.members.length:Int)) (by omega) (fun i hi=>by
  have hm:=h.mem _ (List.getElem_mem hi)
  simp only [zc4,zw _ hi,zt hi,cond_true,Option.bind_some,zf6 _ hm,zls (i:Int) (zlX (by omega)),zfc _ _ hm.name.1,zp,badM]
  cases vMem g.members[i]<;>cases decide (g.members[i].name=zgw i)<;>rfl) (by simp only [zc4,zz];rfl)]
 simp only [Option.bind_some,zp,zav,zV,zq]
 cases zaq g.topology<;>cases decide ((g.members.length:Int)=g.topology.size)<;>first|rfl|skip
 cases scan badM (fun _ _=>false) 0 g.members<;>rfl
def PubS (l:List zh):Prop:=l.length≤2 ^ 22∧∀ x ∈ l,NmS x.publisher∧x.content.length≤2 ^ 22
structure MemS (m:zc):Prop where
 name:NmS m.name
 vec:TabS m.vector
 pub:PubS m.publications
theorem PubS.ok {l:List zh} (h:PubS l):PubOk l:=⟨by have:=h.1;omega,fun x hx=>⟨by have:=(h.2 x hx).1.1;omega,by have:=(h.2 x hx).2;omega⟩⟩
theorem MemS.ok {m:zc} (h:MemS m):MemOk m:=⟨h.name.ok,h.vec.ok,h.pub.ok⟩
theorem zlp (m:zc) (h:MemS m):zbr m=some m:=by
 unfold zbr
 have hl:=h.pub.1
 have hn:=h.name.1
 rw [zfM m.name (by omega),Option.bind_some,zkr _ h.vec,Option.bind_some,zgG m.publications (fun x=>[x]) (by omega) (fun _=>Nat.le_refl _) (fun i x out hm hx hi ho=>by
  have h1:=(h.pub.2 x hm).1.1
  have h2:=(h.pub.2 x hm).2
  simp only [zgf,zw _ hi,cond_true,hx,Option.bind_some,zfM x.publisher (by omega)]
  simp only [zq,zS,zcc i m.publications.length hi (by omega),zcg x.content.length 1 (by omega) (by decide),cond_true]
  rw [zbZ _ _ _ (by simp only [List.length_singleton];omega)]
  rfl) (fun out=>by simp only [zgf,zz];rfl),ze5]
 rfl
theorem ziY (l:List UInt8) (h:l.length≤2 ^ 30):zal l=some l:=by
 unfold zal
 rw [zS,zcg _ _ h (by decide)]
 rfl
theorem ziZ (m:zc) (h:MemS m):zaC m=some m:=by
 unfold zaC
 have hl:=h.pub.1
 have hn:=h.name.1
 rw [zeP m.name (by omega),Option.bind_some,zjL _ h.vec,Option.bind_some,zgG m.publications (fun x=>[x]) (by omega) (fun _=>Nat.le_refl _) (fun i x out hm hx hi ho=>by
  have h1:=(h.pub.2 x hm).1.1
  have h2:=(h.pub.2 x hm).2
  simp only [zeT,zw _ hi,cond_true,hx,Option.bind_some,zeP x.publisher (by omega),ziY x.content (by omega)]
  simp only [zq,zS,zcc i m.publications.length hi (by omega)]
  rw [zbZ _ _ _ (by simp only [List.length_singleton];omega)]
  rfl) (fun out=>by simp only [zeT,zz];rfl),ze5]
 rfl
def accM (m:zc) (x:zh):zc:=⟨m.name,(put m.vector x.publisher x.seq).1,m.publications++[x]⟩
def acc (m:zc) (x:zh):zc×Bool:=bif decide (x.seq=za.arith .add .i64 (seqV m.vector x.publisher) 1) && ((put m.vector x.publisher x.seq).2 && vMem (accM m x)) then (accM m x,true) else (m,false)
theorem zs2 {m:zc} (h:MemS m) {x:zh} (hn:NmS x.publisher) (hc:x.content.length≤2 ^ 22):MemOk (accM m x):=⟨h.name.ok,(zoW h.vec _ _).ok,by
 have hl:=h.pub.1
 refine ⟨by show (m.publications++[x]).length≤_;rw [List.length_append,List.length_singleton];omega,fun y hy=>?_⟩
 rcases List.mem_append.1 hy with hy|hy
 ·exact h.pub.ok.2 y hy
 ·rw [List.mem_singleton] at hy
  subst hy
  exact ⟨by have:=hn.1;omega,by omega⟩⟩
theorem zih (m:zc) (x:zh) (h:MemS m) (hn:NmS x.publisher) (hc:x.content.length≤2 ^ 22):zaN m x=some (acc m x):=by
 unfold zaN acc
 have hl:=h.pub.1
 have h1:=hn.1
 rw [zlp m h,Option.bind_some,zeq _ _ h.vec.ok,Option.bind_some,zav]
 have hv:=zh6 _ (zs2 h hn hc)
 cases decide (x.seq=za.arith .add .i64 (seqV m.vector x.publisher) 1) with
 | false=>rfl
 | true =>
  simp only [Bool.not_true,cond_false,Bool.true_and]
  rw [zhy _ _ _ h.vec hn,Option.bind_some]
  simp only [zfM x.publisher (by omega),Option.bind_some,zS,zq,List.length_singleton,zcg x.content.length 1 (by omega) (by decide),cond_true,zbZ m.publications.length 1 56 (by omega),zp]
  have hv':zbM ⟨m.name,(put m.vector x.publisher x.seq).1,m.publications++[⟨x.publisher,x.seq,x.content⟩]⟩=some (vMem (accM m x)):=hv
  rw [hv']
  cases (put m.vector x.publisher x.seq).2
  ·rfl
  ·cases vMem (accM m x)<;>rfl
theorem zkM (m:zc) (x:zh) (h:MemS m) (hn:NmS x.publisher) (hc:x.content.length≤2 ^ 22):zaM m x=some (acc m x):=by
 unfold zaM acc
 have hl:=h.pub.1
 have h1:=hn.1
 rw [ziZ m h,Option.bind_some,zds _ _ h.vec.ok,Option.bind_some,zav]
 have hv:=zf6 _ (zs2 h hn hc)
 cases decide (x.seq=za.arith .add .i64 (seqV m.vector x.publisher) 1) with
 | false=>rfl
 | true =>
  simp only [Bool.not_true,cond_false,Bool.true_and]
  simp only [zeP x.publisher (by omega),ziY x.content (by omega),Option.bind_some,zS,zq,List.length_singleton,zbZ m.publications.length 1 56 (by omega),cond_true]
  rw [zjA _ _ _ h.vec hn,Option.bind_some]
  simp only [zp]
  have hv':zaG ⟨m.name,(put m.vector x.publisher x.seq).1,m.publications++[⟨x.publisher,x.seq,x.content⟩]⟩=some (vMem (accM m x)):=hv
  rw [hv']
  cases (put m.vector x.publisher x.seq).2
  ·rfl
  ·cases vMem (accM m x)<;>rfl
def GroS (g:zd):Prop:=g.topology.links.length≤2 ^ 22∧g.members.length≤2 ^ 22∧∀ m ∈ g.members,MemS m
theorem zlr (g:zd) (h:GroS g):zcx g=some g:=by
 unfold zcx
 have hl:=h.2.1
 have ht:=h.1
 rw [zS,zcg _ _ (by omega) (by decide),cond_true,zgG g.members (fun x=>[x]) (by omega) (fun _=>Nat.le_refl _) (fun i x out hm hx hi ho=>by
  simp only [zgi,zw _ hi,cond_true,hx,Option.bind_some,zlp x (h.2.2 x hm)]
  simp only [zq,zS,zcc i g.members.length hi (by omega)]
  rw [zbZ _ _ _ (by simp only [List.length_singleton];omega)]
  rfl) (fun out=>by simp only [zgi,zz];rfl),ze5]
 rfl
theorem zoS (t:zi) (h:t.links.length≤2 ^ 22):zaF t=some t:=by
 unfold zaF zcB
 rw [zS,zcg _ _ (by omega) (by decide)]
 rfl
theorem zjK (g:zd) (h:GroS g):zbl g=some g:=by
 unfold zbl
 have hl:=h.2.1
 have ht:=h.1
 rw [zoS _ ht,Option.bind_some,zgG g.members (fun x=>[x]) (by omega) (fun _=>Nat.le_refl _) (fun i x out hm hx hi ho=>by
  simp only [zfp,zw _ hi,cond_true,hx,Option.bind_some,ziZ x (h.2.2 x hm)]
  simp only [zq,zS,zcc i g.members.length hi (by omega)]
  rw [zbZ _ _ _ (by simp only [List.length_singleton];omega)]
  rfl) (fun out=>by simp only [zfp,zz];rfl),ze5]
 rfl
end
end Go.Proofs.YtifkepnfaggkiaaGreatDoor
namespace Go.Proofs.YtifkepnfaggkiaaGreatDoor
open Go.RowKit
set_option linter.unusedVariables false
set_option linter.unusedSimpArgs false
noncomputable section
theorem zhA {α:Type} (f:α→Nat) (c:Nat):∀ l:List α,(∀ x ∈ l,f x≤c)→szL f l≤l.length*(c+1)
 | [],_=>Nat.zero_le _
 | x::l,h=>by
  have ih:=zhA f c l fun y hy=>h y (by simp [hy])
  have:=h x (by simp)
  simp only [szL,List.length_cons,Nat.succ_mul]
  omega
theorem ztg {l:List zb} (h:Good l):szL zbH l≤1400:=by
 have h1:=zhA zbH 60 l fun x hx=>by
  obtain ⟨h1,h2⟩:=zjS (h.2 x hx)
  have h3:=zhA ByteArray.size 8 x.name h2
  have e:zbH x=szL ByteArray.size x.name:=rfl
  omega
 have:=h.1
 omega
theorem zwF {l:List zb} (h:szL zbH l≤2 ^ 22):TabS l:=⟨by have:=ziM zbH l;omega,fun x hx=>by
 have h1:=zj5 zbH hx
 have e:zbH x=szL ByteArray.size x.name:=rfl
 have h2:=ziM ByteArray.size x.name
 exact ⟨by omega,fun s hs=>by have:=zj5 ByteArray.size hs;omega⟩⟩
theorem zo3:∀ l:List UInt8,szL (fun _=>0) l=l.length
 | []=>rfl
 | x::l=>by simp only [szL,zo3 l,List.length_cons];omega
theorem szM (m:zc):zcK m=szL ByteArray.size m.name+szL zbH m.vector+szL zcj m.publications:=rfl
theorem szG (g:zd):zmK g=szL (fun _=>0) g.topology.links+szL zcK g.members:=rfl
theorem zv4 {n:List ByteArray} (h:szL ByteArray.size n≤2 ^ 22):NmS n:=⟨by have:=ziM ByteArray.size n;omega,fun s hs=>by have:=zj5 ByteArray.size hs;omega⟩
theorem zto {m:zc} (h:zcK m≤2 ^ 22):MemS m:=by
 have e:=szM m
 refine ⟨zv4 (by omega),zwF (by omega),by have:=ziM zcj m.publications;omega,fun x hx=>?_⟩
 have h1:=zj5 zcj hx
 have e2:zcj x=szL ByteArray.size x.publisher+szL (fun _=>0) x.content:=rfl
 have:=zo3 x.content
 exact ⟨zv4 (by omega),by omega⟩
theorem zyx {g:zd} (h:zmK g≤2 ^ 22):GroS g:=by
 have e:=szG g
 refine ⟨by have:=ziM (fun _=>0) g.topology.links;omega,by have:=ziM zcK g.members;omega,fun m hm=>zto ?_⟩
 have:=zj5 zcK hm
 omega
theorem zfY {α σ τ δ:Type} {step:Int×τ→Option ((Int×τ) ⊕ δ)} (enc:σ→τ) (l:List α) (f:Nat→α→σ→σ) (fin:σ→δ) (Inv:Nat→σ→Prop) (s:σ) (hl:l.length < 2 ^ 61) (h0:Inv 0 s)
  (hs:∀ (i:Nat) (s:σ) (hi:i < l.length),Inv i s→step ((i:Int),enc s)=some (.inl (za.arith .add .i64 i 1,enc (f i l[i] s)))∧Inv (i+1) (f i l[i] s))
  (he:∀ s,Inv l.length s→step ((l.length:Int),enc s)=some (.inr (fin s))) :
  ze step fuel (0,enc s)=some (fin (gath f 0 l s))∧Inv l.length (gath f 0 l s):=by
 have hI:∀ (m i:Nat) (s:σ),i+m=l.length→Inv i s→Inv l.length (gath f i (l.drop i) s):=by
  intro m
  induction m with
  | zero =>
   intro i s hi h
   have:i=l.length:=by omega
   subst this
   rw [List.drop_length]
   exact h
  | succ m ih =>
   intro i s hi h
   have hlt:i < l.length:=by omega
   rw [List.drop_eq_getElem_cons hlt]
   exact ih (i+1) _ (by omega) (hs i s hlt h).2
 refine ⟨zfb l (fun i s=>((i:Int),enc s)) (fun i rest s=>fin (gath f i rest s)) Inv s (by unfold fuel;omega) h0 he fun i x rest s hd hi hx hI=>?_,by have:=hI l.length 0 s (by omega) h0;rwa [List.drop_zero] at this⟩
 have hx':l[i]=x:=by
  have:l[i]?=some x:=by rw [← hx];simp [nthI]
  rw [List.getElem?_eq_getElem hi] at this
  injection this
 obtain ⟨h1,h2⟩:=hs i s hi hI
 rw [hx'] at h1 h2
 refine .inl ⟨f i x s,?_,h2,rfl⟩
 rw [h1,show za.arith .add .i64 (i:Int) 1=((i+1:Nat):Int) by
  show IntKind.i64.wrap ((i:Int)+1)=_
  rw [IntKind.wrap_i64]
  omega]
def zfZ (n:List ByteArray) (top:Int):Nat→Int→List zb→List zb
 | 0,_,out=>out
 | m+1,k,out=>bif decide (k < top) && decide ((out.length:Int) < 20) then zfZ n top m (za.arith .add .i64 k 1) (out++[⟨n,za.arith .add .i64 k 1⟩]) else out
def NewS (out:List zb):Prop:=out.length≤20∧∀ y ∈ out,NmS y.name
theorem NewS.tab {out:List zb} (h:NewS out):TabS out:=⟨by have:=h.1;omega,h.2⟩
theorem zmV {n:List ByteArray} (hn:NmS n) (top:Int):∀ (m:Nat) (k:Int) (out:List zb),NewS out→NewS (zfZ n top m k out)
 | 0,_,out,h=>h
 | m+1,k,out,h=>by
  unfold zfZ
  cases hc:decide (k < top) && decide ((out.length:Int) < 20)
  ·exact h
  ·refine zmV hn top m _ _ ⟨?_,fun y hy=>?_⟩
   ·rw [Bool.and_eq_true,decide_eq_true_eq,decide_eq_true_eq] at hc
    rw [List.length_append,List.length_singleton]
    omega
   ·rcases List.mem_append.1 hy with hy|hy
    ·exact h.2 y hy
    ·rw [List.mem_singleton] at hy
     subst hy
     exact hn
theorem zpp (x:zb) (top:Int) (hn:NmS x.name):∀ (m f:Nat) (k:Int) (out:List zb),out.length≤20→21≤out.length+m→m+1≤f→∃ g,ze (zbm x top) f (k,out)=some g∧(match g with|.inl (_,o)=>o|.inr (_,o)=>o)=zfZ x.name top m k out
 | 0,f,k,out,h1,h2,h3=>by omega
 | m+1,f,k,out,h1,h2,h3=>by
  obtain ⟨f,rfl⟩:∃ f',f=f'+1:=⟨f - 1,by omega⟩
  have hnl:=hn.1
  unfold zfZ
  by_cases hk:k < top
  ·by_cases ho:(out.length:Int) < 20
   ·have hst:zbm x top (k,out)=some (.inl (za.arith .add .i64 k 1,out++[⟨x.name,za.arith .add .i64 k 1⟩])):=by
     simp only [zbm,zy,decide_eq_true hk,cond_true,zV,zq,decide_eq_true ho,zfM x.name (by omega),Option.bind_some,zS,List.length_singleton,zbZ out.length 1 32 (by omega)]
    rw [ze2 hst,decide_eq_true hk,decide_eq_true ho]
    exact zpp x top hn m f _ _ (by rw [List.length_append,List.length_singleton];omega) (by rw [List.length_append,List.length_singleton];omega) (by omega)
   ·have hst:zbm x top (k,out)=some (.inr (.inl (k,out))):=by
     simp only [zbm,zy,decide_eq_true hk,cond_true,zV,zq,decide_eq_false ho,cond_false]
    refine ⟨_,zaU hst,?_⟩
    rw [decide_eq_true hk,decide_eq_false ho]
    rfl
  ·have hst:zbm x top (k,out)=some (.inr (.inr (k,out))):=by
    simp only [zbm,zy,decide_eq_false hk,cond_false]
   refine ⟨_,zaU hst,?_⟩
   rw [decide_eq_false hk]
   rfl
theorem zpo (a:List zb) (ha:TabS a) (x:zb) (hn:NmS x.name):∀ (m f:Nat) (k:Int) (out:List zb),out.length≤20→21≤out.length+m→m+1≤f→∃ g,ze (zbk a x) f (k,out)=some g∧(match g with|.inl (_,o,_)=>o|.inr (_,o,_)=>o)=zfZ x.name (seqV a x.name) m k out
 | 0,f,k,out,h1,h2,h3=>by omega
 | m+1,f,k,out,h1,h2,h3=>by
  obtain ⟨f,rfl⟩:∃ f',f=f'+1:=⟨f - 1,by omega⟩
  have hnl:=hn.1
  unfold zfZ
  by_cases hk:k < seqV a x.name
  ·by_cases ho:(out.length:Int) < 20
   ·have hst:zbk a x (k,out)=some (.inl (za.arith .add .i64 k 1,out++[⟨x.name,za.arith .add .i64 k 1⟩])):=by
     simp only [zbk,zds _ _ ha.ok,zy,decide_eq_true hk,cond_true,zV,zq,decide_eq_true ho,zeP x.name (by omega),Option.bind_some,zS,List.length_singleton,zbZ out.length 1 32 (by omega)]
    rw [ze2 hst,decide_eq_true hk,decide_eq_true ho]
    exact zpo a ha x hn m f _ _ (by rw [List.length_append,List.length_singleton];omega) (by rw [List.length_append,List.length_singleton];omega) (by omega)
   ·have hst:zbk a x (k,out)=some (.inr (.inl (k,out,seqV a x.name))):=by
     simp only [zbk,zds _ _ ha.ok,Option.bind_some,zy,decide_eq_true hk,cond_true,zV,zq,decide_eq_false ho,cond_false]
    refine ⟨_,zaU hst,?_⟩
    rw [decide_eq_true hk,decide_eq_false ho]
    rfl
  ·have hst:zbk a x (k,out)=some (.inr (.inr (k,out,seqV a x.name))):=by
    simp only [zbk,zds _ _ ha.ok,Option.bind_some,zy,decide_eq_false hk,cond_false]
   refine ⟨_,zaU hst,?_⟩
   rw [decide_eq_false hk]
   rfl
def newF (a b:List zb) (_:Nat) (x:zb) (out:List zb):List zb:=zfZ x.name (seqV a x.name) 21 (seqV b x.name) out
def zci (a b:List zb):List zb:=gath (newF a b) 0 a []
theorem zry:NewS []:=⟨Nat.zero_le _,fun y hy=>by simp at hy⟩
theorem zi1 (a b:List zb) (ha:TabS a) (hb:TabS b):zed a b=some (zci a b)∧NewS (zci a b):=by
 unfold zed
 have hl:=ha.1
 have W:=zfY (step:=zel a b) (fun s:List zb=>s) a (newF a b) (fun s=>((a.length:Int),s)) (fun _ s=>NewS s) [] (by omega) zry (fun i s hi hs=>by
  have hn:=ha.2 _ (List.getElem_mem hi)
  refine ⟨?_,zmV hn _ _ _ _ hs⟩
  obtain ⟨g,h1,h2⟩:=zpp a[i] (seqV a a[i].name) hn 21 fuel (seqV b a[i].name) s hs.1 (by omega) (by unfold fuel;omega)
  simp only [zel,zw _ hi,zt hi,cond_true,Option.bind_some,zeq _ _ ha.ok,zeq _ _ hb.ok,h1]
  unfold newF
  rw [← h2]
  rcases g with ⟨_,o⟩|⟨_,o⟩<;>rfl) (fun s _=>by simp only [zel,zz];rfl)
 rw [W.1]
 exact ⟨rfl,W.2⟩
theorem zne (a b:List zb) (ha:TabS a) (hb:TabS b):zd6 a b=some (zci a b):=by
 unfold zd6
 have hl:=ha.1
 have W:=zfY (step:=zei a b) (fun s:List zb=>s) a (newF a b) (fun s=>((a.length:Int),s)) (fun _ s=>NewS s) [] (by omega) zry (fun i s hi hs=>by
  have hn:=ha.2 _ (List.getElem_mem hi)
  refine ⟨?_,zmV hn _ _ _ _ hs⟩
  obtain ⟨g,h1,h2⟩:=zpo a ha a[i] hn 21 fuel (seqV b a[i].name) s hs.1 (by omega) (by unfold fuel;omega)
  simp only [zei,zw _ hi,zt hi,cond_true,Option.bind_some,zds _ _ hb.ok,h1]
  unfold newF
  rw [← h2]
  rcases g with ⟨_,o,_⟩|⟨_,o,_⟩<;>rfl) (fun s _=>by simp only [zei,zz];rfl)
 rw [W.1]
 rfl
def zgZ (m:zc) (n:List ByteArray) (i:Int):List UInt8×Bool:=match nthI m.publications (idxI (pubP n i) m.publications) with
 | some x=>(x.content,true)
 | none=>([],false)
theorem zmB (m:zc) (h:MemS m) (n:List ByteArray) (i:Int):zY m n i=some (zgZ m n i)∧(zgZ m n i).1.length≤2 ^ 22:=by
 unfold zY zgZ
 rw [zlq _ _ _ h.pub.ok,Option.bind_some]
 rcases zbd (pubP n i) m.publications with ⟨h1,h2⟩|⟨j,x,h1,h2,h3⟩
 ·rw [h1]
  exact ⟨rfl,Nat.zero_le _⟩
 ·have hn:¬ ((j:Nat):Int) < 0:=by omega
  have hc:=(h.pub.2 x (List.mem_of_getElem? h2)).2
  simp only [h1,zy,decide_eq_false hn,cond_false,zbD,h2,Option.bind_some,zS,zcg x.content.length 1 (by omega) (by decide),cond_true]
  exact ⟨trivial,hc⟩
theorem zsO (m:zc) (h:MemS m) (n:List ByteArray) (i:Int):zX m n i=some (zgZ m n i):=by
 unfold zX zgZ
 rw [zig _ _ _ h.pub.ok,Option.bind_some]
 rcases zbd (pubP n i) m.publications with ⟨h1,h2⟩|⟨j,x,h1,h2,h3⟩
 ·rw [h1]
  rfl
 ·have hn:¬ ((j:Nat):Int) < 0:=by omega
  have hc:=(h.pub.2 x (List.mem_of_getElem? h2)).2
  simp only [h1,zy,decide_eq_false hn,cond_false,zbD,h2,Option.bind_some,ziY x.content (by omega)]
theorem znt {m:zc} (h:vMem m=true):m.publications.length≤16:=by
 unfold vMem at h
 simp only [Bool.and_eq_true,Bool.not_eq_true',decide_eq_false_iff_not] at h
 omega
theorem zlN {m:zc} (h:MemS m) {x:zh} (hn:NmS x.publisher) (hc:x.content.length≤2 ^ 22):MemS (acc m x).1:=by
 unfold acc
 cases hv:(decide (x.seq=za.arith .add .i64 (seqV m.vector x.publisher) 1) && ((put m.vector x.publisher x.seq).2 && vMem (accM m x)))
 ·exact h
 ·rw [Bool.and_eq_true,Bool.and_eq_true] at hv
  have hl:=znt hv.2.2
  refine ⟨h.name,zoW h.vec _ _,by show (accM m x).publications.length≤_;omega,fun y hy=>?_⟩
  rcases List.mem_append.1 hy with hy|hy
  ·exact h.pub.2 y hy
  ·rw [List.mem_singleton] at hy
   subst hy
   exact ⟨hn,hc⟩
theorem zx2 {m:zc} (h:vMem m=true) (x:zh):vMem (acc m x).1=true:=by
 unfold acc
 cases hv:(decide (x.seq=za.arith .add .i64 (seqV m.vector x.publisher) 1) && ((put m.vector x.publisher x.seq).2 && vMem (accM m x)))
 ·exact h
 ·rw [Bool.and_eq_true,Bool.and_eq_true] at hv
  exact hv.2.2
def catF (fr:zc) (_:Nat) (x:zb) (s:zc):zc:=bif (zgZ fr x.name x.value).2 then (acc s ⟨x.name,x.value,(zgZ fr x.name x.value).1⟩).1 else s
def zW (m fr:zc):zc:=gath (catF fr) 0 (zci fr.vector m.vector) m
def tri (m:zc):List ByteArray×List zb×List zh:=(m.name,m.vector,m.publications)
theorem zfi (m fr:zc) (h:MemS m) (hf:MemS fr):zcu m fr=some (zW m fr)∧MemS (zW m fr):=by
 unfold zcu zdM
 obtain ⟨hN,hS⟩:=zi1 fr.vector m.vector hf.vec h.vec
 have hl:=hS.1
 have W:=zfY (step:=zft fr (zci fr.vector m.vector)) tri (zci fr.vector m.vector) (catF fr) (fun s=>(((zci fr.vector m.vector).length:Int),tri s)) (fun _ s=>MemS s) m (by omega) h (fun i s hi hs=>by
  have hn:=hS.2 _ (List.getElem_mem hi)
  obtain ⟨hF,hFl⟩:=zmB fr hf (zci fr.vector m.vector)[i].name (zci fr.vector m.vector)[i].value
  unfold catF tri
  simp only [zft,zw _ hi,zaD _ hi,List.getElem?_eq_getElem hi,cond_true,Option.bind_some,hF]
  cases hb:(zgZ fr (zci fr.vector m.vector)[i].name (zci fr.vector m.vector)[i].value).2
  ·exact ⟨rfl,hs⟩
  ·refine ⟨?_,zlN hs hn hFl⟩
   rw [cond_true,zih s _ hs hn hFl]
   rfl) (fun s _=>by
  have e:za.cmp .lss ((zci fr.vector m.vector).length:Int) (za.int (za.len (List.map zf (zci fr.vector m.vector))))=false:=zz _ _
  simp only [zft,tri,e]
  rfl)
 rw [zlp m h,Option.bind_some,hN,Option.bind_some,Option.bind_some]
 have W1:=W.1
 unfold tri at W1
 rw [W1]
 exact ⟨rfl,W.2⟩
theorem zj2 (m fr:zc) (h:MemS m) (hf:MemS fr):zeR m fr=some (zW m fr):=by
 unfold zeR zdI
 obtain ⟨_,hS⟩:=zi1 fr.vector m.vector hf.vec h.vec
 have hN:=zne fr.vector m.vector hf.vec h.vec
 have hl:=hS.1
 have W:=zfY (step:=zfm fr (zci fr.vector m.vector)) tri (zci fr.vector m.vector) (catF fr) (fun s=>(((zci fr.vector m.vector).length:Int),tri s)) (fun _ s=>MemS s) m (by omega) h (fun i s hi hs=>by
  have hn:=hS.2 _ (List.getElem_mem hi)
  have hF:=zsO fr hf (zci fr.vector m.vector)[i].name (zci fr.vector m.vector)[i].value
  have hFl:=(zmB fr hf (zci fr.vector m.vector)[i].name (zci fr.vector m.vector)[i].value).2
  unfold catF tri
  simp only [zfm,zw _ hi,zaD _ hi,List.getElem?_eq_getElem hi,cond_true,Option.bind_some,hF]
  cases hb:(zgZ fr (zci fr.vector m.vector)[i].name (zci fr.vector m.vector)[i].value).2
  ·exact ⟨rfl,hs⟩
  ·refine ⟨?_,zlN hs hn hFl⟩
   rw [cond_true,zkM s _ hs hn hFl]
   rfl) (fun s _=>by
  have e:za.cmp .lss ((zci fr.vector m.vector).length:Int) (za.int (za.len (List.map zf (zci fr.vector m.vector))))=false:=zz _ _
  simp only [zfm,tri,e]
  rfl)
 rw [ziZ m h,Option.bind_some,hN,Option.bind_some,Option.bind_some]
 have W1:=W.1
 unfold tri at W1
 rw [W1]
 rfl
theorem zk0 {m:zc} (h:vMem m=true) (fr:zc):vMem (zW m fr)=true:=zki (catF fr) (fun s=>vMem s=true) (fun i x s hs=>by
 unfold catF
 cases (zgZ fr x.name x.value).2
 ·exact hs
 ·exact zx2 hs _) _ 0 m h
end
end Go.Proofs.YtifkepnfaggkiaaGreatDoor
namespace Go.Proofs.YtifkepnfaggkiaaGreatDoor
open Go.RowKit
set_option linter.unusedVariables false
set_option linter.unusedSimpArgs false
noncomputable section
def hasD (l:List Int) (i:Int):Bool:=l.any fun x=>decide (x=i)
theorem zxv (l:List Int) (i:Int) (hl:l.length≤1048576):zbu l i=some (hasD l i):=by
 unfold zbu hasD
 rw [zu l (fun _ x=>decide (x=i)) (fun _ _=>true) .inr (.inl (l.length:Int)) (by omega) (fun j hj=>by
  simp only [ze9,zw _ hj,zt hj,cond_true,Option.bind_some,za6]) (by simp only [ze9,zz];rfl),zcI]
 cases h:l.any fun x=>decide (x=i)<;>simp
theorem zhx (l:List Int) (i:Int) (hl:l.length≤1048576):zQ l i=some (hasD l i):=by
 unfold zQ zdm hasD
 rw [zu l (fun _ x=>decide (x=i)) (fun i _=>(i:Int)) .inr (.inl (l.length:Int)) (by omega) (fun j hj=>by
  have e:decide (i=l[j])=decide (l[j]=i):=decide_eq_decide.2 eq_comm
  simp only [zc9,zw _ hj,zt hj,cond_true,Option.bind_some,za6,e]) (by simp only [zc9,zz];rfl)]
 have e:=ze6 (fun x=>decide (x=i)) l
 unfold idxI at e
 rw [← e]
 cases scan (fun _ x=>decide (x=i)) (fun i _=>(i:Int)) 0 l<;>rfl
def zcJ (dead:List Int) (i:Nat) (x:zl) (s:List zc):List zc:=bif hasD dead i then s else match s[x.a.toNat]?,s[x.b.toNat]? with
 | some m,some n=>match (s.set x.a.toNat (zW m n))[x.b.toNat]? with
  | some k=>(s.set x.a.toNat (zW m n)).set x.b.toNat (zW k (zW m n))
  | none=>s
 | _,_=>s
def zd0 (g:zd) (dead:List Int):zd:=bif vGrp g then ⟨g.topology,gath (zcJ dead) 0 g.topology.links g.members⟩ else g
def LInv (n:Nat) (s:List zc):Prop:=s.length=n∧∀ m ∈ s,vMem m=true∧MemS m
theorem LInv.set {n:Nat} {s:List zc} (h:LInv n s) {m:zc} (hv:vMem m=true) (hm:MemS m) (j:Nat):LInv n (s.set j m):=⟨by rw [List.length_set];exact h.1,fun x hx=>by
 rcases List.mem_or_eq_of_mem_set hx with hx|rfl
 ·exact h.2 x hx
 ·exact ⟨hv,hm⟩⟩
theorem zpP {dead:List Int} {i:Nat} {x:zl} {s:List zc} {n:Nat} (h:LInv n s) (ha:x.a.toNat < n) (hb:x.b.toNat < n) (hd:hasD dead i=false):∃ p q k,s[x.a.toNat]?=some p∧s[x.b.toNat]?=some q∧(s.set x.a.toNat (zW p q))[x.b.toNat]?=some k∧(s.set x.a.toNat (zW p q))[x.a.toNat]?=some (zW p q)∧MemS p∧MemS q∧MemS k∧MemS (zW p q)∧zcJ dead i x s=(s.set x.a.toNat (zW p q)).set x.b.toNat (zW k (zW p q))∧LInv n (zcJ dead i x s):=by
 have hl:=h.1
 have e1:s[x.a.toNat]?=some (s[x.a.toNat]'(by omega)):=List.getElem?_eq_getElem (by omega)
 have e2:s[x.b.toNat]?=some (s[x.b.toNat]'(by omega)):=List.getElem?_eq_getElem (by omega)
 generalize s[x.a.toNat]'(by omega)=p at e1
 generalize s[x.b.toNat]'(by omega)=q at e2
 obtain ⟨pv,pm⟩:=h.2 p (List.mem_of_getElem? e1)
 obtain ⟨qv,qm⟩:=h.2 q (List.mem_of_getElem? e2)
 have cm:=(zfi p q pm qm).2
 have h1:=h.set (zk0 pv q) cm x.a.toNat
 have hl1:=h1.1
 have e3:(s.set x.a.toNat (zW p q))[x.b.toNat]?=some ((s.set x.a.toNat (zW p q))[x.b.toNat]'(by omega)):=List.getElem?_eq_getElem (by omega)
 generalize (s.set x.a.toNat (zW p q))[x.b.toNat]'(by omega)=k at e3
 obtain ⟨kv,km⟩:=h1.2 k (List.mem_of_getElem? e3)
 have e4:(s.set x.a.toNat (zW p q))[x.a.toNat]?=some (zW p q):=List.getElem?_set_self (by omega)
 have e5:zcJ dead i x s=(s.set x.a.toNat (zW p q)).set x.b.toNat (zW k (zW p q)):=by
  unfold zcJ
  rw [hd,e1,e2]
  simp only [cond_false,e3]
 refine ⟨p,q,k,e1,e2,e3,e4,pm,qm,km,cm,e5,?_⟩
 rw [e5]
 exact h1.set (zk0 kv _) (zfi k _ km cm).2 _
theorem zkG {g:zd} (h:vGrp g=true):zaq g.topology=true∧((g.members.length:Nat):Int)=g.topology.size∧∀ m ∈ g.members,vMem m=true:=by
 unfold vGrp at h
 rw [Bool.and_eq_true,Bool.and_eq_true,decide_eq_true_eq] at h
 refine ⟨h.1,h.2.1,fun m hm=>?_⟩
 have h2:=h.2.2
 cases hc:scan badM (fun _ _=>false) 0 g.members with
 | some b =>
  rw [hc] at h2
  obtain ⟨j,x,_,_,h3⟩:=zbs _ _ _ _ _ hc
  simp only at h2
  rw [h3] at h2
  cases h2
 | none =>
  obtain ⟨j,hj⟩:=List.getElem?_of_mem hm
  have:=ze1 _ _ _ 0 hc j m hj
  unfold badM at this
  rw [Bool.or_eq_false_iff] at this
  simpa using this.1
theorem zpR {g:zd} (h:vGrp g=true) {i:Nat} (hi:i < g.topology.links.length):0≤g.topology.links[i].a∧g.topology.links[i].a.toNat < g.members.length∧0≤g.topology.links[i].b∧g.topology.links[i].b.toNat < g.members.length:=by
 obtain ⟨h1,h2,_⟩:=zkG h
 obtain ⟨s1,s2⟩:=zbN h1
 unfold zaq at h1
 cases hc:scan (badS g.topology) (fun _ _=>false) 0 g.topology.links with
 | some b =>
  rw [hc] at h1
  obtain ⟨j,x,_,_,h3⟩:=zbs _ _ _ _ _ hc
  simp only at h1
  rw [h3] at h1
  cases h1
 | none =>
  have h3:=ze1 _ _ _ 0 hc i g.topology.links[i] (List.getElem?_eq_getElem hi)
  unfold badS at h3
  rw [Bool.or_eq_false_iff,Bool.or_eq_false_iff,zes _ _ (by omega) (by omega)] at h3
  have h4:=h3.1
  have h5:=h3.2.1
  simp only [Bool.not_eq_false',decide_eq_true_eq] at h4 h5
  omega
theorem zj6 {m:zc} (h:vMem m=true):zcK m≤4000:=by
 have hl:=znt h
 unfold vMem at h
 simp only [Bool.and_eq_true] at h
 obtain ⟨h1,_,h3,_,_,h6⟩:=h
 have hg:Good m.vector:=by
  unfold vVec at h3
  rw [Bool.and_eq_true] at h3
  exact zlI h3.2
 have hname:∀ n:List ByteArray,zdr n=true→szL ByteArray.size n≤54:=fun n hn=>by
  obtain ⟨g1,g2⟩:=zjS hn
  have:=zhA ByteArray.size 8 n g2
  omega
 have hv:=ztg hg
 have hn:=hname _ h1
 have hp:szL zcj m.publications≤m.publications.length*(114+1):=zhA zcj 114 _ fun x hx=>by
  cases hc:scan (badP m) (fun _ _=>false) 0 m.publications with
  | some b =>
   rw [hc] at h6
   obtain ⟨j,y,_,_,h7⟩:=zbs _ _ _ _ _ hc
   simp only at h6
   rw [h7] at h6
   cases h6
  | none =>
   obtain ⟨j,hj⟩:=List.getElem?_of_mem hx
   have h7:=ze1 _ _ _ 0 hc j x hj
   unfold badP at h7
   rw [Bool.or_eq_false_iff,Bool.or_eq_false_iff] at h7
   obtain ⟨h8,h9,_⟩:=h7
   simp only [Bool.not_eq_false',decide_eq_true_eq,decide_eq_false_iff_not] at h8 h9
   have hpn:zdr x.publisher=true:=by
    unfold seqV at h8
    rcases zbd (entP x.publisher) m.vector with ⟨g1,_⟩|⟨q,y,g1,g2,g3⟩
    ·rw [g1] at h8
     have:nthI m.vector (-1)=none:=zf4 _ _ (by omega)
     rw [this] at h8
     simp only at h8
     omega
    ·have e:y.name=x.publisher:=by simpa [entP] using g3
     rw [← e]
     exact hg.2 y (List.mem_of_getElem? g2)
   have e2:zcj x=szL ByteArray.size x.publisher+szL (fun _=>0) x.content:=rfl
   have:=hname _ hpn
   have:=zo3 x.content
   omega
 have e:=szM m
 omega
def RInv (g:zd):Prop:=szL (fun _=>0) g.topology.links≤1048576∧szL zcK g.members≤1048576
theorem RInv.gro {g:zd} (h:RInv g):GroS g:=zyx (by have:=szG g;have:=h.1;have:=h.2;omega)
theorem GroS.grp {g:zd} (h:GroS g):GrpOk g:=⟨by have:=h.1;omega,by have:=h.2.1;omega,fun m hm=>(h.2.2 m hm).ok⟩
theorem zer (g:zd) (dead:List Int) (h:RInv g) (hd:dead.length≤1048576):zaE g dead=some (zd0 g dead)∧RInv (zd0 g dead):=by
 unfold zaE zd0
 have hG:=h.gro
 have hl:=hG.1
 rw [zlr g hG,Option.bind_some]
 cases hv:vGrp g with
 | false =>
  have hst:∃ r,zcw g dead (0,g.members)=some (.inr r)∧(r=.inl (0,g.members)∨r=.inr (0,g.members)):=by
   simp only [zcw,zfj g hG.grp,hv,Option.bind_some,cond_false]
   cases za.cmp .lss (0:Int) (za.int (za.len (List.map zP g.topology.links)))
   ·exact ⟨_,rfl,.inr rfl⟩
   ·exact ⟨_,rfl,.inl rfl⟩
  obtain ⟨r,h1,h2⟩:=hst
  obtain ⟨f,hf⟩:∃ f,fuel=f+1:=⟨fuel - 1,by unfold fuel;omega⟩
  rw [hf,zaU h1]
  rcases h2 with rfl|rfl<;>exact ⟨rfl,h⟩
 | true =>
  obtain ⟨h1,h2,h3⟩:=zkG hv
  obtain ⟨s1,s2⟩:=zbN h1
  have W:=zfY (step:=zcw g dead) (fun s:List zc=>s) g.topology.links (zcJ dead) (fun s=>.inr ((g.topology.links.length:Int),s)) (fun _ s=>LInv g.members.length s) g.members (by omega) ⟨rfl,fun m hm=>⟨h3 m hm,hG.2.2 m hm⟩⟩ (fun i s hi hs=>by
   obtain ⟨a0,a1,b0,b1⟩:=zpR hv hi
   have hsl:=hs.1
   simp only [zcw,zw _ hi,cond_true,zfj g hG.grp,hv,Option.bind_some,zxv dead (i:Int) hd]
   cases hq:hasD dead (i:Int) with
   | true =>
    rw [cond_true]
    have e:zcJ dead i g.topology.links[i] s=s:=by unfold zcJ;rw [hq];rfl
    rw [e]
    exact ⟨rfl,hs⟩
   | false =>
    obtain ⟨p,q,k,e1,e2,e3,e4,pm,qm,km,cm,e5,e6⟩:=zpP hs a1 b1 hq
    refine ⟨?_,e6⟩
    have r1:∀ l:List zc,l.length=s.length→za.ridx 0 (za.len (List.map zx l)) g.topology.links[i].a=some g.topology.links[i].a.toNat:=fun l hll=>by
     have:=zaD zx (l:=l) (i:=g.topology.links[i].a.toNat) (by omega)
     rwa [Int.toNat_of_nonneg a0] at this
    have r2:∀ l:List zc,l.length=s.length→za.ridx 0 (za.len (List.map zx l)) g.topology.links[i].b=some g.topology.links[i].b.toNat:=fun l hll=>by
     have:=zaD zx (l:=l) (i:=g.topology.links[i].b.toNat) (by omega)
     rwa [Int.toNat_of_nonneg b0] at this
    simp only [cond_false,zt hi,Option.bind_some,r1 s rfl,r2 s rfl,e1,e2,(zfi p q pm qm).1,r2 (s.set g.topology.links[i].a.toNat (zW p q)) (List.length_set ..),e3,(zfi k _ km cm).1,e5]) (fun s _=>by simp only [zcw,zz];rfl)
  rw [W.1]
  refine ⟨rfl,h.1,?_⟩
  have hI:=W.2
  have hz:=zhA zcK 4000 _ fun m hm=>zj6 (hI.2 m hm).1
  have hlen:=hI.1
  show szL zcK (gath (zcJ dead) 0 g.topology.links g.members)≤_
  rw [hlen] at hz
  omega
theorem zg7 (g:zd) (dead:List Int) (h:RInv g) (hd:dead.length≤1048576):za4 g dead=some (zd0 g dead):=by
 unfold za4 zd0
 have hG:=h.gro
 have hl:=hG.1
 rw [zjK g hG,Option.bind_some,zfh g hG.grp,Option.bind_some,zp]
 cases hv:vGrp g with
 | false=>rfl
 | true =>
  obtain ⟨h1,h2,h3⟩:=zkG hv
  have W:=zfY (step:=zej g dead) (fun s:List zc=>s) g.topology.links (zcJ dead) (fun s=>((g.topology.links.length:Int),s)) (fun _ s=>LInv g.members.length s) g.members (by omega) ⟨rfl,fun m hm=>⟨h3 m hm,hG.2.2 m hm⟩⟩ (fun i s hi hs=>by
   obtain ⟨a0,a1,b0,b1⟩:=zpR hv hi
   have hsl:=hs.1
   simp only [zej,zw _ hi,cond_true,zt hi,Option.bind_some,zhx dead (i:Int) hd,zp]
   cases hq:hasD dead (i:Int) with
   | true =>
    have e:zcJ dead i g.topology.links[i] s=s:=by unfold zcJ;rw [hq];rfl
    rw [e]
    exact ⟨rfl,hs⟩
   | false =>
    obtain ⟨p,q,k,e1,e2,e3,e4,pm,qm,km,cm,e5,e6⟩:=zpP hs a1 b1 hq
    refine ⟨?_,e6⟩
    have r1:∀ l:List zc,l.length=s.length→za.ridx 0 (za.len (List.map zx l)) g.topology.links[i].a=some g.topology.links[i].a.toNat:=fun l hll=>by
     have:=zaD zx (l:=l) (i:=g.topology.links[i].a.toNat) (by omega)
     rwa [Int.toNat_of_nonneg a0] at this
    have r2:∀ l:List zc,l.length=s.length→za.ridx 0 (za.len (List.map zx l)) g.topology.links[i].b=some g.topology.links[i].b.toNat:=fun l hll=>by
     have:=zaD zx (l:=l) (i:=g.topology.links[i].b.toNat) (by omega)
     rwa [Int.toNat_of_nonneg b0] at this
    simp only [Bool.not_false,cond_true,Option.bind_some,r1 s rfl,r2 s rfl,e1,e2,zj2 p q pm qm,r1 (s.set g.topology.links[i].a.toNat (zW p q)) (List.length_set ..),r2 (s.set g.topology.links[i].a.toNat (zW p q)) (List.length_set ..),e3,e4,zj2 k _ km cm,e5]) (fun s _=>by simp only [zej,zz];rfl)
  rw [Bool.not_true,cond_false,W.1]
  rfl
end
end Go.Proofs.YtifkepnfaggkiaaGreatDoor
namespace Go.Proofs.YtifkepnfaggkiaaGreatDoor
open Go.RowKit
set_option linter.unusedVariables false
set_option linter.unusedSimpArgs false
noncomputable section
def zhu (_:Nat) (x:zb) (s:List zb):List zb:=bif decide (seqV s x.name < x.value) then (put s x.name x.value).1 else s
def zkl (a b:List zb):List zb:=gath zhu 0 b a
theorem zpx {s:List zb} (h:TabS s) (i:Nat) (x:zb):TabS (zhu i x s):=by
 unfold zhu
 cases decide (seqV s x.name < x.value)
 ·exact h
 ·exact zoW h _ _
theorem zlu (a b:List zb) (ha:TabS a) (hb:TabS b):zcV a b=some (zkl a b):=by
 unfold zcV
 have hl:=hb.1
 rw [zkr a ha,Option.bind_some,zck b zhu (fun s=>((b.length:Int),s)) (fun _ s=>TabS s) a (by omega) ha (fun i s hi hs=>by
  refine ⟨?_,zpx hs _ _⟩
  have hn:=hb.2 _ (List.getElem_mem hi)
  simp only [zeA,zw _ hi,zt hi,cond_true,Option.bind_some,zeq _ _ hs.ok,zhy _ _ _ hs hn,zdt,zhu]
  cases decide (seqV s b[i].name < b[i].value)<;>rfl) (fun s _=>by simp only [zeA,zz];rfl)]
 rfl
theorem zll (a b:List zb) (ha:TabS a) (hb:TabS b):zcQ a b=some (zkl a b):=by
 unfold zcQ
 have hl:=hb.1
 rw [zjL a ha,Option.bind_some,zck b zhu (fun s=>((b.length:Int),s)) (fun _ s=>TabS s) a (by omega) ha (fun i s hi hs=>by
  refine ⟨?_,zpx hs _ _⟩
  have hn:=hb.2 _ (List.getElem_mem hi)
  simp only [zeu,zw _ hi,zt hi,cond_true,Option.bind_some,zds _ _ hs.ok,zjA _ _ _ hs hn,zdt,zhu]
  cases decide (seqV s b[i].name < b[i].value)<;>rfl) (fun s _=>by simp only [zeu,zz];rfl)]
 rfl
theorem zun {a:List zb} (h:Good a) (b:List zb):Good (zkl a b):=zki zhu Good (fun i x s hs=>by
 unfold zhu
 cases decide (seqV s x.name < x.value)
 ·exact hs
 ·exact zrW hs _ _) b 0 a h
def zgq (g:zd) (_:Nat) (k:Int) (s:List zb):List zb:=bif decide (0≤k∧k≤((g.members.length:Nat):Int) - 1) then (match nthI g.members k with|some m=>zkl s m.vector|none=>s) else s
def comb (g:zd) (l:List Int):List zb:=gath (zgq g) 0 l []
def GrpS (g:zd):Prop:=g.members.length≤2 ^ 21∧∀ m ∈ g.members,TabS m.vector
theorem zkd (g:zd) (i:Nat) (k:Int) {s:List zb} (h:Good s):Good (zgq g i k s):=by
 unfold zgq
 cases decide (0≤k∧k≤((g.members.length:Nat):Int) - 1)
 ·exact h
 ·show Good (match nthI g.members k with|some m=>zkl s m.vector|none=>s)
  cases nthI g.members k with
  | none=>exact h
  | some m=>exact zun h _
theorem Good.nil:Good []:=⟨Nat.zero_le _,fun x hx=>by simp at hx⟩
theorem zvw (g:zd) (l:List Int):Good (comb g l):=zki (zgq g) Good (fun i x s hs=>zkd g i x hs) l 0 [] Good.nil
theorem zv6 {α:Type} (l:List α) (k:Int) (h:0≤k∧k≤((l.length:Nat):Int) - 1):∃ m,m ∈ l∧nthI l k=some m:=by
 have hk:k.toNat < l.length:=by omega
 refine ⟨l[k.toNat],List.getElem_mem hk,?_⟩
 have:nthI l ((k.toNat:Nat):Int)=some l[k.toNat]:=zt hk
 rwa [Int.toNat_of_nonneg h.1] at this
theorem zj3 (g:zd) (l:List Int) (hg:GrpS g) (hl:l.length≤1048576):zbF g l=some (comb g l):=by
 unfold zbF
 have hm:=hg.1
 rw [zck l (zgq g) (fun s=>((l.length:Int),s)) (fun _ s=>Good s) [] (by omega) Good.nil (fun i s hi hs=>by
  refine ⟨?_,zkd g _ _ hs⟩
  simp only [zc5,zw _ hi,zt hi,cond_true,Option.bind_some,zgT]
  simp only [zV,zq,zes _ _ (show -9223372036854775808≤((g.members.length:Nat):Int) - 1 by omega) (by omega),zgq]
  by_cases hk:0≤l[i]∧l[i]≤((g.members.length:Nat):Int) - 1
  ·obtain ⟨m,hmm,he⟩:=zv6 _ _ hk
   rw [decide_eq_true hk]
   simp only [cond_true,he,Option.bind_some,zlu _ _ hs.tab (hg.2 m hmm)]
  ·rw [decide_eq_false hk]
   rfl) (fun s _=>by simp only [zc5,zz];rfl)]
 rfl
theorem zhk (g:zd) (l:List Int) (hg:GrpS g) (hl:l.length≤1048576):zbe g l=some (comb g l):=by
 unfold zbe
 have hm:=hg.1
 rw [zck l (zgq g) (fun s=>((l.length:Int),s)) (fun _ s=>Good s) [] (by omega) Good.nil (fun i s hi hs=>by
  refine ⟨?_,zkd g _ _ hs⟩
  simp only [zc3,zw _ hi,zt hi,cond_true,Option.bind_some,zcm]
  simp only [zV,zq,zes _ _ (show -9223372036854775808≤((g.members.length:Nat):Int) - 1 by omega) (by omega),zgq]
  by_cases hk:0≤l[i]∧l[i]≤((g.members.length:Nat):Int) - 1
  ·obtain ⟨m,hmm,he⟩:=zv6 _ _ hk
   rw [decide_eq_true hk]
   simp only [cond_true,he,Option.bind_some,zll _ _ hs.tab (hg.2 m hmm)]
  ·rw [decide_eq_false hk]
   rfl) (fun s _=>by simp only [zc3,zz];rfl)]
 rfl
def ofM (m:zc) (b:List UInt8):zh:=⟨m.name,za.arith .add .i64 (seqV m.vector m.name) 1,b⟩
def ziB (g:zd) (k:Int) (b:List UInt8):zd×Bool:=bif decide (0≤k∧k≤((g.members.length:Nat):Int) - 1) then (match nthI g.members k with|some m=>(⟨g.topology,g.members.set k.toNat (acc m (ofM m b)).1⟩,(acc m (ofM m b)).2)|none=>(g,false)) else (g,false)
theorem zi2 (g:zd) (k:Int) (b:List UInt8) (h:GroS g) (hb:b.length≤2 ^ 22):zbL g k b=some (ziB g k b):=by
 unfold zbL ziB
 have hm:=h.2.1
 rw [zlr g h,Option.bind_some,zgT,Option.bind_some]
 simp only [zV,zq,zes _ _ (show -9223372036854775808≤((g.members.length:Nat):Int) - 1 by omega) (by omega),zp]
 by_cases hk:0≤k∧k≤((g.members.length:Nat):Int) - 1
 ·obtain ⟨j,rfl⟩:∃ j:Nat,k=j:=⟨k.toNat,by omega⟩
  have hj:j < g.members.length:=by omega
  have hM:=h.2.2 _ (List.getElem_mem hj)
  have hp:zb8 g.members[j] b=some (acc g.members[j] (ofM g.members[j] b)):=by
   unfold zb8
   rw [zeq _ _ hM.vec.ok,Option.bind_some,zih _ _ hM hM.name hb]
   rfl
  rw [decide_eq_true hk]
  simp only [Bool.not_true,cond_false,cond_true,zt hj,Option.bind_some,hp,ziK,if_pos hj,List.getElem?_eq_getElem hj,Int.toNat_natCast]
 ·rw [decide_eq_false hk]
  rfl
theorem zzt {m:zc} {x:zh} (h:(acc m x).2=false):(acc m x).1=m:=by
 unfold acc at h ⊢
 cases hc:(decide (x.seq=za.arith .add .i64 (seqV m.vector x.publisher) 1) && ((put m.vector x.publisher x.seq).2 && vMem (accM m x)))
 ·rfl
 ·rw [hc] at h;cases h
theorem znf (g:zd) (k:Int) (b:List UInt8) (h:GroS g) (hb:b.length≤2 ^ 22):zd7 g k b=some (ziB g k b):=by
 unfold zd7 ziB
 have hm:=h.2.1
 rw [zjK g h,Option.bind_some,zcm,Option.bind_some]
 simp only [zV,zq,zes _ _ (show -9223372036854775808≤((g.members.length:Nat):Int) - 1 by omega) (by omega),zp]
 by_cases hk:0≤k∧k≤((g.members.length:Nat):Int) - 1
 ·obtain ⟨j,rfl⟩:∃ j:Nat,k=j:=⟨k.toNat,by omega⟩
  have hj:j < g.members.length:=by omega
  have hM:=h.2.2 _ (List.getElem_mem hj)
  have hp:zfD g.members[j] b=some (acc g.members[j] (ofM g.members[j] b)):=by
   unfold zfD
   rw [zds _ _ hM.vec.ok,Option.bind_some,zkM _ _ hM hM.name hb]
   rfl
  rw [decide_eq_true hk]
  simp only [Bool.not_true,cond_false,cond_true,zt hj,Option.bind_some,hp,ziK,if_pos hj,List.getElem?_eq_getElem hj,Int.toNat_natCast]
  cases ha:(acc g.members[j] (ofM g.members[j] b)).2 with
  | false =>
   rw [zzt ha,List.set_getElem_self]
   rfl
  | true=>rfl
 ·rw [decide_eq_false hk]
  rfl
def zeI (dead:List Int):Nat→zd→zd
 | 0,g=>g
 | m+1,g=>zeI dead m (zd0 g dead)
def rndR (g:zd) (dead:List Int) (n:Int):zd:=bif decide (0≤n∧n≤20) then zeI dead n.toNat g else g
theorem zq9 {dead:List Int} (hd:dead.length≤1048576):∀ (m:Nat) (g:zd),RInv g→RInv (zeI dead m g)
 | 0,g,h=>h
 | m+1,g,h=>zq9 hd m _ (zer g dead h hd).2
theorem zty {dead:List Int} (hd:dead.length≤1048576) (g:zd) (n:Int) (h:RInv g):RInv (rndR g dead n):=by
 unfold rndR
 cases decide (0≤n∧n≤20)
 ·exact h
 ·exact zq9 hd _ g h
theorem zr5 {dead:List Int} (hd:dead.length≤1048576) (n:Nat) (hn:n≤20):∀ (m i f:Nat) (g:zd),i+m=n→m < f→RInv g→ze (zaH dead (n:Int)) f ((i:Int),g.topology.size,g.topology.links,g.members)=some (.inr ((n:Int),(zeI dead m g).topology.size,(zeI dead m g).topology.links,(zeI dead m g).members))
 | 0,i,f,g,hi,hf,h=>by
  obtain ⟨f,rfl⟩:∃ f',f=f'+1:=⟨f - 1,by omega⟩
  have hst:zaH dead (n:Int) ((i:Int),g.topology.size,g.topology.links,g.members)=some (.inr (.inr ((i:Int),g.topology.size,g.topology.links,g.members))):=by
   simp only [zaH,zy,decide_eq_false (show ¬ ((i:Nat):Int) < (n:Int) by omega),cond_false]
  rw [zaU hst]
  have:i=n:=by omega
  subst this
  rfl
 | m+1,i,f,g,hi,hf,h=>by
  obtain ⟨f,rfl⟩:∃ f',f=f'+1:=⟨f - 1,by omega⟩
  obtain ⟨hs,hI⟩:=zer g dead h hd
  have hs':zaE (⟨(⟨g.topology.size,g.topology.links⟩:zi),g.members⟩:zd) dead=some (zd0 g dead):=hs
  have hst:zaH dead (n:Int) ((i:Int),g.topology.size,g.topology.links,g.members)=some (.inl (((i+1:Nat):Int),(zd0 g dead).topology.size,(zd0 g dead).topology.links,(zd0 g dead).members)):=by
   simp only [zaH,zy,zdS,decide_eq_true (show ((i:Nat):Int) < (n:Int) by omega),decide_eq_true (show ((n:Nat):Int)≤20 by omega),cond_true,hs',Option.bind_some,zcc i n (by omega) (by omega)]
  rw [ze2 hst]
  exact zr5 hd n hn m (i+1) f _ (by omega) (by omega) hI
theorem zr4 {dead:List Int} (hd:dead.length≤1048576) (n:Nat) (hn:n≤20):∀ (m i f:Nat) (g:zd),i+m=n→m < f→RInv g→ze (zb3 dead (n:Int)) f ((i:Int),g.topology.size,g.topology.links,g.members)=some ((n:Int),(zeI dead m g).topology.size,(zeI dead m g).topology.links,(zeI dead m g).members)
 | 0,i,f,g,hi,hf,h=>by
  obtain ⟨f,rfl⟩:∃ f',f=f'+1:=⟨f - 1,by omega⟩
  have hst:zb3 dead (n:Int) ((i:Int),g.topology.size,g.topology.links,g.members)=some (.inr ((i:Int),g.topology.size,g.topology.links,g.members)):=by
   simp only [zb3,zy,decide_eq_false (show ¬ ((i:Nat):Int) < (n:Int) by omega),cond_false]
  rw [zaU hst]
  have:i=n:=by omega
  subst this
  rfl
 | m+1,i,f,g,hi,hf,h=>by
  obtain ⟨f,rfl⟩:∃ f',f=f'+1:=⟨f - 1,by omega⟩
  have hI:=(zer g dead h hd).2
  have hs':za4 (⟨(⟨g.topology.size,g.topology.links⟩:zi),g.members⟩:zd) dead=some (zd0 g dead):=zg7 g dead h hd
  have hst:zb3 dead (n:Int) ((i:Int),g.topology.size,g.topology.links,g.members)=some (.inl (((i+1:Nat):Int),(zd0 g dead).topology.size,(zd0 g dead).topology.links,(zd0 g dead).members)):=by
   simp only [zb3,zy,decide_eq_true (show ((i:Nat):Int) < (n:Int) by omega),cond_true,hs',Option.bind_some,zcc i n (by omega) (by omega)]
  rw [ze2 hst]
  exact zr4 hd n hn m (i+1) f _ (by omega) (by omega) hI
theorem zin (g:zd) (dead:List Int) (n:Int) (h:RInv g) (hd:dead.length≤1048576):zbh g dead n=some (rndR g dead n):=by
 unfold zbh rndR
 rw [zlr g h.gro,Option.bind_some]
 by_cases hn:0≤n∧n≤20
 ·obtain ⟨k,rfl⟩:∃ k:Nat,n=k:=⟨n.toNat,by omega⟩
  rw [decide_eq_true hn]
  have W:=zr5 hd k (by omega) k 0 fuel g (by omega) (by unfold fuel;omega) h
  rw [show (((0:Nat):Int))=0 from rfl] at W
  rw [W]
  rfl
 ·rw [decide_eq_false hn]
  obtain ⟨f,hf⟩:∃ f,fuel=f+1:=⟨fuel - 1,by unfold fuel;omega⟩
  by_cases h0:(0:Int) < n
  ·have hst:zaH dead n (0,g.topology.size,g.topology.links,g.members)=some (.inr (.inl (0,g.topology.size,g.topology.links,g.members))):=by
    simp only [zaH,zy,zdS,decide_eq_true h0,decide_eq_false (show ¬ n≤20 by omega),cond_true,cond_false]
   rw [hf,zaU hst]
   rfl
  ·have hst:zaH dead n (0,g.topology.size,g.topology.links,g.members)=some (.inr (.inr (0,g.topology.size,g.topology.links,g.members))):=by
    simp only [zaH,zy,decide_eq_false h0,cond_false]
   rw [hf,zaU hst]
   rfl
theorem zim (g:zd) (dead:List Int) (n:Int) (h:RInv g) (hd:dead.length≤1048576):zcD g dead n=some (rndR g dead n):=by
 unfold zcD rndR
 rw [zjK g h.gro,Option.bind_some,zcm,Option.bind_some]
 by_cases hn:0≤n∧n≤20
 ·obtain ⟨k,rfl⟩:∃ k:Nat,n=k:=⟨n.toNat,by omega⟩
  rw [decide_eq_true hn]
  have W:=zr4 hd k (by omega) k 0 fuel g (by omega) (by unfold fuel;omega) h
  rw [show (((0:Nat):Int))=0 from rfl] at W
  rw [cond_true,W]
  rfl
 ·rw [decide_eq_false hn]
  rfl
def memT (k:Int):zc:=⟨zgw k,[],[]⟩
theorem znl (k:Int):zaj (zgw k)=some (memT k):=by
 unfold zaj
 rw [zfM _ (by simp [zgw])]
 rfl
theorem znd (k:Int):zd5 (zgw k)=some (memT k):=by
 unfold zd5
 rw [zeP _ (by simp [zgw])]
 rfl
def zeO (n:Nat):List zc:=(List.range n).map fun i:Nat=>memT (i:Int)
noncomputable def grpT (g:zi):zd:=if zaq g then ⟨g,zeO g.size.toNat⟩ else ⟨⟨0,[]⟩,[]⟩
theorem zn6 (i:Nat):zeO (i+1)=zeO i++[memT (i:Int)]:=by simp [zeO,List.range_succ]
theorem zlf (n:Nat):(zeO n).length=n:=by simp [zeO]
theorem zhD (g:zi) (h:g.links.length≤2 ^ 20):zaQ g=some (grpT g):=by
 unfold zaQ grpT
 rw [zfO g (by omega)]
 cases hv:zaq g
 ·rfl
 ·have hs:=zbN hv
  have H:=zpT (step:=zcM g) (fun i=>((i:Int),zeO i)) (g.size,zeO g.size.toNat) g.size.toNat (by omega) (fun i hi=>by
   have h1:(i:Int) < g.size:=by omega
   have h2:za.fits (zeO i).length 1 72=true:=zbZ _ _ _ (by rw [zlf];omega)
   simp only [zcM,zy,decide_eq_true h1,cond_true,zpJ (i:Int) (zlX (by omega)),Option.bind_some,znl,zq,zS,List.length_cons,List.length_nil,Nat.zero_add,h2,zn6,zcc i g.size.toNat hi (by omega)]) (by
   have h1:¬ (g.size < g.size):=by omega
   have h2:(g.size.toNat:Int)=g.size:=by omega
   simp only [zcM,zy,h2,decide_eq_false h1,cond_false])
  have e0:((0:Int),([]:List zc))=(((0:Nat):Int),zeO 0):=rfl
  simp only [Option.bind_some,zp,Bool.not_true,cond_false,zS,zcg _ _ (show g.links.length≤2 ^ 30 by omega) (show 16≤2 ^ 10 by decide),cond_true,e0,H,if_true]
theorem zkR (g:zi) (h:g.links.length≤2 ^ 20):zcq g=some (grpT g):=by
 unfold zcq grpT
 rw [zfL g (by omega)]
 cases hv:zaq g
 ·rfl
 ·have hs:=zbN hv
  have H:=zpT (step:=zcL g) (fun i=>((i:Int),zeO i)) (g.size,zeO g.size.toNat) g.size.toNat (by omega) (fun i hi=>by
   have h1:(i:Int) < g.size:=by omega
   have h2:za.fits (zeO i).length 1 72=true:=zbZ _ _ _ (by rw [zlf];omega)
   simp only [zcL,zy,decide_eq_true h1,cond_true,zls (i:Int) (zlX (by omega)),Option.bind_some,znd,zq,zS,List.length_cons,List.length_nil,Nat.zero_add,h2,zn6,zcc i g.size.toNat hi (by omega)]) (by
   have h1:¬ (g.size < g.size):=by omega
   have h2:(g.size.toNat:Int)=g.size:=by omega
   simp only [zcL,zy,h2,decide_eq_false h1,cond_false])
  have e0:((0:Int),([]:List zc))=(((0:Nat):Int),zeO 0):=rfl
  unfold zaF zcB
  simp only [Option.bind_some,zp,Bool.not_true,cond_false,zS,zcg _ _ (show g.links.length≤2 ^ 30 by omega) (show 16≤2 ^ 10 by decide),cond_true,e0,H,if_true]
end
end Go.Proofs.YtifkepnfaggkiaaGreatDoor
namespace Go.Proofs.YtifkepnfaggkiaaGreatDoor
open Go.RowKit
set_option linter.unusedVariables false
set_option linter.unusedSimpArgs false
noncomputable section
def appL (n:List ByteArray) (s:ByteArray):List ByteArray:=if zdr (n++[s]) then n++[s] else n
theorem zmg (n:List ByteArray) (s:ByteArray) (hn:n.length≤2 ^ 30) (h:zhZ (n++[s])):zcH n s=some (appL n s,zdr (n++[s])):=by
 unfold zcH appL
 simp only [zS,zq,zcg _ _ hn (show 16≤2 ^ 10 by decide),cond_true,zbZ n.length [s].length 16 (by simp only [List.length_cons,List.length_nil];omega),zfN _ h,Option.bind_some,zp,zfM n hn]
 cases zdr (n++[s])<;>rfl
def Gets {α:Type} (o:Option α) (Q:α→Prop):Prop:=∃ x,o=some x∧Q x
theorem zj {α:Type} {x:α} {Q:α→Prop} (h:Q x):Gets (some x) Q:=⟨x,rfl,h⟩
theorem Gets.bind {α β:Type} {o:Option α} {f:α→Option β} {Q:α→Prop} {R:β→Prop} (h:Gets o Q) (k:∀ x,Q x→Gets (f x) R):Gets (o.bind f) R:=by
 obtain ⟨x,rfl,hx⟩:=h
 exact k x hx
theorem Gets.bif {α:Type} {c:Bool} {a b:Option α} {Q:α→Prop} (h:c=true→Gets a Q) (k:c=false→Gets b Q):Gets (bif c then a else b) Q:=by
 cases c
 ·exact k rfl
 ·exact h rfl
theorem Gets.fits {α:Type} {a b c:Nat} {x:Option α} {Q:α→Prop} (h:(a+b)*c≤2 ^ 46) (k:Gets x Q):Gets (bif za.fits a b c then x else none) Q:=by
 rw [zbZ a b c h]
 exact k
theorem Gets.mono {α:Type} {o:Option α} {Q R:α→Prop} (h:Gets o Q) (k:∀ x,Q x→R x):Gets o R:=by
 obtain ⟨x,hx,hq⟩:=h
 exact ⟨x,hx,k x hq⟩
theorem zch {ι γ:Type} {step:ι→Option (ι ⊕ γ)} (I:ι→Prop) (μ:ι→Nat) {Q:γ→Prop} (h:∀ x,I x→Gets (step x) fun s=>match s with|.inl y=>I y∧μ y < μ x|.inr g=>Q g) {x:ι} (hx:I x) (hm:μ x < 2 ^ 61):Gets (ze step fuel x) Q:=by
 refine ze3 I μ Q (fun x hx=>?_) fuel x hx (by unfold fuel;omega)
 obtain ⟨s,hs,hq⟩:=h x hx
 cases s with
 | inl y=>exact .inl ⟨y,hs,hq⟩
 | inr g=>exact .inr ⟨g,hs,hq⟩
theorem zf2 (i:Nat) (h:i < 2 ^ 60):za.arith .add .i64 (i:Int) 1=((i+1:Nat):Int):=zcc i (i+1) (by omega) (by omega)
def zD (c:zk):Prop:=c.b.length≤2 ^ 40∧0≤c.i∧c.i≤c.b.length
theorem zvg (y:Int):0≤za.arith .and .i64 y 255∧za.arith .and .i64 y 255 < 256:=by
 have h:(BitVec.ofInt IntKind.i64.bits y &&& BitVec.ofInt IntKind.i64.bits 255).toNat≤255:=by
  rw [BitVec.toNat_and]
  refine Nat.le_trans Nat.and_le_right ?_
  show (BitVec.ofInt 64 255).toNat≤255
  decide
 show 0≤IntKind.i64.wrap ((BitVec.ofInt IntKind.i64.bits y &&& BitVec.ofInt IntKind.i64.bits 255).toNat:Int)∧IntKind.i64.wrap ((BitVec.ofInt IntKind.i64.bits y &&& BitVec.ofInt IntKind.i64.bits 255).toNat:Int) < 256
 rw [IntKind.wrap_i64]
 omega
theorem zjW (c:zk) (hc:zD c):Gets (zdP c) fun r=>zD r.1∧0≤r.2∧r.2 < 256:=by
 obtain ⟨h1,h2,h3⟩:=hc
 unfold zdP
 rw [show za.cmp .leq 0 33=true from rfl,show za.cmp .leq 0 47=true from rfl,cond_true,cond_true]
 refine Gets.bif (fun h=>?_) fun h=>zj ⟨⟨h1,h2,h3⟩,zvg _⟩
 rw [zy,zV,zq,decide_eq_true_eq] at h
 obtain ⟨n,hn⟩:∃ n:Nat,c.i=n:=⟨c.i.toNat,by omega⟩
 have hn':n < c.b.length:=by omega
 rw [hn,zt hn']
 refine zj ⟨⟨h1,?_,?_⟩,zvg _⟩
 ·show 0≤za.arith .add .i64 (n:Int) 1
  rw [zf2 n (by omega)]
  omega
 ·show za.arith .add .i64 (n:Int) 1≤_
  rw [zf2 n (by omega)]
  show ((n+1:Nat):Int)≤(c.b.length:Int)
  omega
theorem zwm (x n:Int) (hx:0≤x) (hn:0 < n):0≤za.arith .rem .i64 x n∧za.arith .rem .i64 x n < n :=
 ⟨Int.tmod_nonneg n hx,Int.tmod_lt_of_pos x hn⟩
theorem ztt (a b:Int) (h:-9223372036854775808≤a*b) (h':a*b≤9223372036854775807):za.arith .mul .i64 a b=a*b:=by
 show IntKind.i64.wrap (a*b)=_
 rw [IntKind.wrap_i64]
 omega
theorem zcz (c:zk) (n:Int) (hc:zD c):Gets (zm c n) fun r=>zD r.1∧0≤r.2∧(0 < n→r.2 < n)∧(n≤0→r.2=0):=by
 unfold zm
 refine Gets.bif (fun h=>?_) fun h=>?_
 ·rw [zdS,decide_eq_true_eq] at h
  exact zj ⟨hc,Int.le_refl 0,fun h'=>by omega,fun _=>rfl⟩
 ·rw [zdS,decide_eq_false_iff_not] at h
  have hn:0 < n:=by omega
  have he:za.cmp .eql n 0=false:=by rw [za6,decide_eq_false_iff_not];omega
  refine Gets.bif (fun _=>?_) fun _=>?_
  ·refine (zjW c hc).bind fun ⟨c1,x⟩ ⟨k1,k2,k3⟩=>?_
   dsimp only
   rw [he]
   obtain ⟨m1,m2⟩:=zwm x n k2 hn
   exact zj ⟨k1,m1,fun _=>m2,fun h'=>by omega⟩
  ·refine (zjW c hc).bind fun ⟨c1,x⟩ ⟨k1,k2,k3⟩=>?_
   refine (zjW c1 k1).bind fun ⟨c2,y⟩ ⟨l1,l2,l3⟩=>?_
   refine (zjW c2 l1).bind fun ⟨c3,z⟩ ⟨q1,q2,q3⟩=>?_
   dsimp only at k2 k3 l2 l3 q2 q3 ⊢
   rw [he,cond_false,ztt x 65536 (by omega) (by omega),ztt y 256 (by omega) (by omega),zf8 (x*65536) (y*256) (by omega) (by omega),zf8 (x*65536+y*256) z (by omega) (by omega)]
   obtain ⟨m1,m2⟩:=zwm (x*65536+y*256+z) n (by omega) hn
   exact zj ⟨q1,m1,fun _=>m2,fun h'=>by omega⟩
theorem zts {α:Type} (e:α→List DT) (c:zk) (l:List α) (hc:zD c) (hl:0 < l.length) {β:Type} {f:zk×Int→α→Option β} {R:β→Prop} (k:∀ (c':zk) (i:Int) (x:α),zD c'→x ∈ l→Gets (f (c',i) x) R):Gets ((zm c (za.int (za.len (List.map e l)))).bind fun r=>(nthI l r.2).bind fun x=>f r x) R:=by
 refine (zcz c _ hc).bind fun ⟨c1,i⟩ ⟨k1,k2,k3,_⟩=>?_
 dsimp only at k2 k3 ⊢
 rw [zV,zq] at k3
 have k4:=k3 (by omega)
 obtain ⟨n,hn⟩:∃ n:Nat,i=n:=⟨i.toNat,by omega⟩
 subst hn
 have hn':n < l.length:=by omega
 rw [zt hn']
 exact k c1 n _ k1 (List.getElem_mem hn')
theorem zsc (c:zk) (l:List ByteArray) (hc:zD c) (hl:0 < l.length):Gets (zeK c l) fun r=>zD r.1∧r.2 ∈ l :=
 zts eS c l hc hl (f:=fun r x=>some (r.1,x)) fun c' i x h1 h2=>zj ⟨h1,h2⟩
theorem znZ (c:zk) (l:List Int) (hc:zD c) (hl:0 < l.length):Gets (zcN c l) fun r=>zD r.1∧r.2 ∈ l :=
 zts eI c l hc hl (f:=fun r x=>some (r.1,x)) fun c' i x h1 h2=>zj ⟨h1,h2⟩
theorem ziJ (c:zk) (n:Int) (hc:zD c):Gets (zbv c n) fun r=>zD r.1 :=
 (zcz c n hc).bind fun ⟨c1,i⟩ h=>zj h.1
theorem zrz (a:List UInt8) (ha:a.length≤2 ^ 40):Gets (zcO a) zD:=by
 unfold zcO
 have h0:∀ w:Int,zD ⟨a,0,w⟩:=fun w=>⟨ha,Int.le_refl 0,by show (0:Int)≤(a.length:Int);omega⟩
 refine Gets.bind (Q:=fun _=>True) (zch (fun x:Int×Int=>∃ i:Nat,x.2=(i:Int)∧i≤a.length) (fun x=>a.length - x.2.toNat) (fun ⟨v1,v2⟩ hv=>?_) ⟨0,rfl,Nat.zero_le _⟩ (by dsimp only;omega)) fun g _=>?_
 ·obtain ⟨i,hi,hl⟩:=hv
  have hi':v2=(i:Int):=hi
  subst hi'
  show Gets (bif _ then _ else _) _
  refine Gets.bif (fun h=>Gets.bif (fun _=>?_) fun _=>zj trivial) fun _=>zj trivial
  rw [zy,zV,zq,decide_eq_true_eq] at h
  have hil:i < a.length:=by omega
  rw [zt hil]
  refine zj ⟨⟨i+1,zf2 i (by omega),hil⟩,?_⟩
  show a.length - (za.arith .add .i64 (i:Int) 1).toNat < a.length - (i:Int).toNat
  rw [zf2 i (by omega),Int.toNat_natCast,Int.toNat_natCast]
  omega
 ·rcases g with ⟨x,y⟩|⟨x,y⟩
  ·exact zj (h0 x)
  ·exact zj (h0 x)
theorem zq0 (s:ByteArray) (a b:Nat):(s.extract a b).size≤s.size:=by
 rw [ByteArray.size_extract]
 omega
theorem zzn (s:ByteArray) (a b:Nat) (h:a≤b) (hb:b≤s.size):za.ssub s (some (a:Int)) (some (b:Int))=some (s.extract a b):=by
 show (match zak (some (a:Int)) 0,zak (some (b:Int)) s.size with
  | some l,some h=>if l≤h∧h≤s.size then some (s.extract l h) else none
  | _,_=>none)=_
 have e1:∀ n d:Nat,zak (some (n:Int)) d=some n:=fun n d=>by
  unfold zak
  simp
 rw [e1,e1]
 dsimp only
 rw [if_pos ⟨h,hb⟩]
theorem zxP (s:ByteArray) (c:Int) (hs:s.size≤1000):Gets (zfH s c) fun l=>1≤l.length∧l.length≤s.size+1∧∀ p ∈ l,p.size≤s.size:=by
 unfold zfH
 refine Gets.bind (Q:=fun g=>1≤g.2.2.length∧g.2.2.length≤s.size+1∧∀ p ∈ g.2.2,p.size≤s.size) (zch (fun x:Int×Int×List ByteArray=>∃ a b:Nat,x.1=(a:Int)∧x.2.1=(b:Int)∧a≤b∧b≤s.size+1∧x.2.2.length≤b∧(b=s.size+1→1≤x.2.2.length)∧∀ p ∈ x.2.2,p.size≤s.size) (fun x=>s.size+1 - x.2.1.toNat) (fun ⟨v1,v2,v3⟩ hv=>?_) ⟨0,0,rfl,rfl,Nat.le_refl _,Nat.zero_le _,Nat.zero_le _,fun h=>by omega,fun p hp=>by cases hp⟩ (by dsimp only;omega)) fun ⟨w1,w2,w3⟩ h=>zj h
 obtain ⟨a,b,ha,hb,hab,hbl,hl,h1,hp⟩:=hv
 dsimp only at ha hb hl h1 hp
 subst ha;subst hb
 show Gets (bif _ then _ else _) _
 have add:∀ (l:List ByteArray) (x:ByteArray),l.length≤b→(∀ p ∈ l,p.size≤s.size)→x.size≤s.size→(l++[x]).length≤b+1∧1≤(l++[x]).length∧∀ p ∈ l++[x],p.size≤s.size:=fun l x h1 h2 h3=>by
  refine ⟨by simp only [List.length_append,List.length_cons,List.length_nil];omega,by simp,fun p hp=>?_⟩
  rcases List.mem_append.1 hp with hp|hp
  ·exact h2 p hp
  ·rw [List.mem_singleton] at hp;rw [hp];exact h3
 have meas:∀ b:Nat,b≤s.size→s.size+1 - (((b+1:Nat):Int)).toNat < s.size+1 - ((b:Nat):Int).toNat:=fun b hb=>by
  rw [Int.toNat_natCast,Int.toNat_natCast];omega
 refine Gets.bif (fun hc=>?_) fun hc=>?_
 ·rw [zdS,zg8,decide_eq_true_eq] at hc
  have hbs:b≤s.size:=by omega
  have cut:Gets ((za.ssub s (some (a:Int)) (some (b:Int))).bind fun x6=>bif za.fits (za.len (List.map eS v3)) (za.rlen (za.opn (List.map eS [x6]))) 16 then (some (Sum.inl (β:=Int×Int×List ByteArray) (za.arith .add .i64 (b:Int) 1,za.arith .add .i64 (b:Int) 1,v3++[x6]))) else none) (fun s2=>match s2 with
    | .inl y=>(∃ a b:Nat,y.1=(a:Int)∧y.2.1=(b:Int)∧a≤b∧b≤s.size+1∧y.2.2.length≤b∧(b=s.size+1→1≤y.2.2.length)∧∀ p ∈ y.2.2,p.size≤s.size)∧s.size+1 - y.2.1.toNat < s.size+1 - (b:Int).toNat
    | .inr g=>1≤g.2.2.length∧g.2.2.length≤s.size+1∧∀ p ∈ g.2.2,p.size≤s.size):=by
   rw [zzn s a b hab hbs,Option.bind_some]
   refine Gets.fits (by rw [zq,zS];simp only [List.length_cons,List.length_nil];omega) (zj ?_)
   obtain ⟨k1,k2,k3⟩:=add v3 (s.extract a b) hl hp (zq0 s a b)
   rw [zf2 b (by omega)]
   exact ⟨⟨b+1,b+1,rfl,rfl,Nat.le_refl _,by omega,k1,fun _=>k2,k3⟩,meas b hbs⟩
  refine Gets.bif (fun _=>cut.mono fun s2 h=>by cases s2<;>exact h) fun hne=>?_
  rw [za6,zg8,decide_eq_false_iff_not] at hne
  have hbl2:b < (bl s).length:=by show b < s.size;omega
  rw [zr9 hbl2,Option.bind_some]
  refine Gets.bif (fun _=>cut.mono fun s2 h=>by cases s2<;>exact h) fun _=>zj ?_
  rw [zf2 b (by omega)]
  exact ⟨⟨a,b+1,rfl,rfl,by omega,by omega,by dsimp only;omega,fun h=>by omega,hp⟩,meas b hbs⟩
 ·rw [zdS,zg8,decide_eq_false_iff_not] at hc
  have hb2:b=s.size+1:=by omega
  exact zj ⟨h1 hb2,by dsimp only;omega,hp⟩
def NmOk (m:Nat) (n:List ByteArray):Prop:=n.length≤m∧∀ p ∈ n,p.size≤1000
theorem NmOk.ok {m:Nat} {n:List ByteArray} (h:NmOk m n) (hm:m≤2 ^ 30):zhZ n:=⟨by have:=h.1;omega,fun s hs=>by have:=h.2 s hs;omega⟩
theorem NmOk.mono {m m':Nat} {n:List ByteArray} (h:NmOk m n) (hm:m≤m'):NmOk m' n:=⟨Nat.le_trans h.1 hm,h.2⟩
theorem NmOk.snoc {m:Nat} {n:List ByteArray} (h:NmOk m n) {s:ByteArray} (hs:s.size≤1000):NmOk (m+1) (n++[s]):=by
 refine ⟨by have:=h.1;simp only [List.length_append,List.length_cons,List.length_nil];omega,fun p hp=>?_⟩
 rcases List.mem_append.1 hp with hp|hp
 ·exact h.2 p hp
 ·rw [List.mem_singleton] at hp;rw [hp];exact hs
theorem zlg (m:Nat):NmOk m []:=⟨Nat.zero_le _,fun p hp=>by cases hp⟩
theorem zsf {m:Nat} {n:List ByteArray} (h:NmOk m n) (hm:m≤2 ^ 30):Gets (zay n) fun _=>True:=⟨_,zfN n (h.ok hm),trivial⟩
theorem zxz (s:ByteArray) (hs:s.size≤1000):Gets (zee s) fun r=>NmOk 1001 r.1:=by
 unfold zee
 refine Gets.bif (fun _=>zj (zlg _)) fun _=>?_
 refine (zxP s 47 hs).bind fun l ⟨h1,h2,h3⟩=>?_
 have e1:za.rsub 0 (za.len (List.map eS l)) (some 1) none=some (1,l.length - 1):=by
  rw [zq]
  show (match zak (some 1) 0,zak none l.length with
   | some a,some h=>if a≤h∧h≤l.length then some (0+a,h - a) else none
   | _,_=>none)=_
  have b1:zak (some 1) 0=some 1:=rfl
  have b2:zak none l.length=some l.length:=rfl
  rw [b1,b2]
  dsimp only
  rw [if_pos ⟨h1,Nat.le_refl _⟩]
 rw [e1,Option.bind_some]
 refine Gets.bif (fun _=>zj (zlg _)) fun _=>?_
 have e2:za.ridx 0 (za.len (List.map eS l)) 0=some 0:=zaD eS (i:=0) h1
 rw [e2,Option.bind_some,List.getElem?_eq_getElem h1,Option.bind_some]
 refine Gets.bif (fun _=>zj (zlg _)) fun _=>?_
 have e3:za3 l 1 (l.length - 1)=some ((l.drop 1).take (l.length - 1)):=by
  unfold za3
  rw [if_pos (by omega)]
 have hn:NmOk 1001 ((l.drop 1).take (l.length - 1)):=⟨by simp only [List.length_take,List.length_drop];omega,fun p hp=>by have:=h3 p (List.mem_of_mem_drop (List.mem_of_mem_take hp));omega⟩
 show Gets ((za3 l 1 (l.length - 1)).bind _) _
 rw [e3,Option.bind_some]
 refine (zsf hn (by decide)).bind fun b _=>Gets.bif (fun _=>zj (zlg _)) fun _=>zj hn
theorem zyO (s:ByteArray) (hs:s.size≤1000):Gets (zbA s) fun r=>NmOk 1001 r :=
 (zxz s hs).bind fun ⟨n,b⟩ h=>zj h
theorem zvh {m:Nat} (n:List ByteArray) (s:ByteArray) (h:NmOk m n) (hm:m≤2 ^ 20) (hs:s.size≤1000):Gets (zcH n s) fun r=>NmOk (m+1) r.1:=by
 refine ⟨_,zmg n s (by have:=h.1;omega) ((h.snoc hs).ok (by omega)),?_⟩
 show NmOk (m+1) (appL n s)
 unfold appL
 split
 ·exact h.snoc hs
 ·exact h.mono (by omega)
theorem zoK (l:List ByteArray) (h:l.all (fun s=>decide (s.size≤1000))=true) {s:ByteArray} (hs:s ∈ l):s.size≤1000:=by
 rw [List.all_eq_true] at h
 simpa using h s hs
theorem zk1 (j:Nat) (h:0 < j) (hj:j < 2 ^ 40):za.arith .sub .i64 (j:Int) 1=((j - 1:Nat):Int):=by
 rw [zes _ _ (by omega) (by omega)]
 omega
theorem zj1 (j:Nat) (h:za.cmp .gtr (j:Int) 0=true):0 < j:=by
 rw [zdt,decide_eq_true_eq] at h
 omega
theorem zbC (c:zk) (n:Nat) (hc:zD c) (hn:0 < n) {β:Type} {f:zk×Int→Option β} {R:β→Prop} (k:∀ (c':zk) (j:Nat),zD c'→j < n→Gets (f (c',(j:Int))) R):Gets ((zm c (n:Int)).bind f) R:=by
 refine (zcz c n hc).bind fun ⟨c1,i⟩ ⟨k1,k2,k3,_⟩=>?_
 dsimp only at k2 k3
 have k4:=k3 (by omega)
 obtain ⟨j,hj⟩:∃ j:Nat,i=j:=⟨i.toNat,by omega⟩
 subst hj
 exact k c1 j k1 (by omega)
theorem zyU (c:zk) (hc:zD c):Gets (zgj c) fun r=>zD r.1∧NmOk 7 r.2:=by
 unfold zgj
 refine zbC c 4 hc (by decide) fun c1 j0 h1 hj0=>?_
 refine Gets.bind (Q:=fun g=>zD ⟨g.2.1,g.2.2.1,g.2.2.2.1⟩∧NmOk 7 g.2.2.2.2) (zch (fun x:Int×List UInt8×Int×Int×List ByteArray=>∃ j:Nat,x.1=(j:Int)∧j≤3∧zD ⟨x.2.1,x.2.2.1,x.2.2.2.1⟩∧NmOk (7 - j) x.2.2.2.2) (fun x=>x.1.toNat) (fun ⟨v1,v2,v3,v4,v5⟩ hv=>?_) ⟨j0,rfl,by omega,h1,zlg _⟩ (by dsimp only;rw [Int.toNat_natCast];omega)) fun ⟨w1,w2,w3,w4,w5⟩ hw=>zj hw
 obtain ⟨j,hj,hl,hcur,hn⟩:=hv
 dsimp only at hj hcur hn
 subst hj
 show Gets (bif _ then _ else _) _
 refine Gets.bif (fun hg=>?_) fun hg=>zj ⟨hcur,hn.mono (by omega)⟩
 have hp:=zj1 j hg
 refine (zsc _ _ hcur (by simp)).bind fun ⟨c2,s⟩ ⟨h2,hs⟩=>?_
 refine (zvh v5 s hn (by omega) (zoK _ (by decide) hs)).bind fun ⟨n2,b⟩ h3=>zj ?_
 rw [zk1 j hp (by omega)]
 exact ⟨⟨j - 1,rfl,by omega,h2,h3.mono (by omega)⟩,by dsimp only;rw [Int.toNat_natCast,Int.toNat_natCast];omega⟩
theorem zs3 (c:zk) (hc:zD c):Gets (zeL c) fun r=>zD r.1∧NmOk 20 r.2:=by
 unfold zeL
 refine (zyU c hc).bind fun ⟨c1,n⟩ ⟨h1,hn⟩=>zbC c1 8 h1 (by decide) fun c2 j h2 hj=>?_
 refine Gets.bif (fun _=>?_) fun _=>Gets.bif (fun _=>?_) fun _=>zj ⟨h2,hn.mono (by decide)⟩
 ·refine (zsc _ _ h2 (by simp)).bind fun ⟨c3,s⟩ ⟨h3,hs⟩=>?_
  have hl:=hn.1
  dsimp only at hl
  refine Gets.fits (by rw [zq,zS];simp only [List.length_cons,List.length_nil];omega) (zj ⟨h3,(hn.snoc (zoK _ (by decide) hs)).mono (by decide)⟩)
 ·refine Gets.bind (Q:=fun g=>zD g.2.1∧NmOk 7 g.1) (zch (fun x:List UInt8×Int×Int×List ByteArray=>zD ⟨x.1,x.2.1,x.2.2.1⟩∧NmOk 7 x.2.2.2) (fun x=>7 - x.2.2.2.length) (fun ⟨v1,v2,v3,v4⟩ hv=>?_) ⟨h2,hn⟩ (by dsimp only;omega)) fun ⟨w1,w2,w3⟩ hw=>zj ⟨hw.1,hw.2.mono (by decide)⟩
  obtain ⟨hcur,hn⟩:=hv
  dsimp only at hcur hn
  refine zbC _ 3 hcur (by decide) fun c3 i h3 hi=>?_
  refine Gets.bif (fun hg=>?_) fun _=>zj ⟨h3,hn⟩
  rw [zf8 5 (i:Int) (by omega) (by omega),zy,zV,zq,decide_eq_true_eq] at hg
  have hlen:v4.length < 7:=by omega
  refine Gets.fits (by rw [zq,zS];simp only [List.length_cons,List.length_nil];omega) (zj ⟨⟨h3,?_⟩,by simp only [List.length_append,List.length_cons,List.length_nil];omega⟩)
  exact ⟨by simp only [List.length_append,List.length_cons,List.length_nil];omega,(hn.snoc (s:=ByteArray.mk (Array.mk [109])) (by decide)).2⟩
end
end Go.Proofs.YtifkepnfaggkiaaGreatDoor
