import Derived.Test.YtflhdodikmmdcaaGreatEngMono
import Derived.Orders
import Derived.OrdersHeld
namespace Go.Proofs.YtflhdodikmmdcaaGreat
open Go.RowKit
set_option linter.unusedVariables false
set_option linter.unusedSimpArgs false
set_option linter.unusedSectionVars false
theorem zqq (ms:List Nat) (j:Nat):∀ (l:List Edge) (s:Nat),Nat.testBit (l.foldl (fun s e=>if Region.binds .any e then s ||| 2 ^ e.on ||| ms.getD e.on 0 else s) s) j=true→Nat.testBit s j=true∨∃ e ∈ l,Region.binds .any e=true∧(j=e.on∨Nat.testBit (ms.getD e.on 0) j=true)
 | [],s,h=>.inl h
 | e::l,s,h=>by
  rw [List.foldl_cons] at h
  rcases zqq ms j l _ h with h|⟨e',he',hb⟩
  ·split at h
   ·rename_i hb
    rw [Nat.testBit_or,Nat.testBit_or,ya3,ya3,Nat.testBit_two_pow] at h
    rcases h with (h|h)|h
    ·exact .inl h
    ·exact .inr ⟨e,by simp,hb,.inl (yaN h).symm⟩
    ·exact .inr ⟨e,by simp,hb,.inr h⟩
   ·exact .inl h
  ·exact .inr ⟨e',by simp [he'],hb⟩
theorem zAz {ms:List Nat} {o:Oper} {j:Nat} (h:Nat.testBit (zk7 ms o) j=true):∃ e ∈ o.after,Region.binds .any e=true∧(j=e.on∨Nat.testBit (ms.getD e.on 0) j=true):=by
 rcases zqq ms j _ _ h with h|⟨e,he,hb⟩
 ·simp at h
 ·exact ⟨e,by simpa using he,hb⟩
theorem zsG:∀ (l:List Oper) (ms:List Nat),∃ r,zel l ms=ms++r
 | [],ms=>⟨[],by simp [zel]⟩
 | o::l,ms=>by
  obtain ⟨r,hr⟩:=zsG l (ms++[zk7 ms o])
  exact ⟨zk7 ms o::r,by rw [zel,hr];simp⟩
theorem zsF:∀ (l:List Oper) (ms:List Nat) (i:Nat) (o:Oper),l[i]?=some o→(zel l ms).getD (ms.length+i) 0=zk7 ((zel l ms).take (ms.length+i)) o
 | [],ms,i,o,h=>by simp at h
 | p::l,ms,0,o,h=>by
  simp only [yD,yd] at h
  subst h
  obtain ⟨r,hr⟩:=zsG l (ms++[zk7 ms p])
  rw [zel,hr]
  simp
 | p::l,ms,i+1,o,h=>by
  have:=zsF l (ms++[zk7 ms p]) i o (by simpa using h)
  simp only [yO,yac,ybp] at this
  rw [zel]
  rw [show ms.length+(i+1)=ms.length+(0+1)+i by omega]
  exact this
section
variable {ops:Array Oper}
abbrev zes (ops:Array Oper) (i:Nat):Nat:=(zel ops.toList []).getD i 0
theorem zxE {i j:Nat} {o:Oper} (ho:ops[i]?=some o) (h:Nat.testBit (zes ops i) j=true):∃ e ∈ o.after,Region.binds .any e=true∧(j=e.on∨(e.on < i∧Nat.testBit (zes ops e.on) j=true)):=by
 have h1:=zsF ops.toList [] i o (by simpa using ho)
 simp only [ybp,yaq] at h1
 unfold zes at h
 rw [h1] at h
 obtain ⟨e,he,hb,hj⟩:=zAz h
 refine ⟨e,he,hb,hj.imp id fun hj=>?_⟩
 by_cases hlt:e.on < i
 ·refine ⟨hlt,?_⟩
  rw [yar,yai hlt,← yar] at hj
  exact hj
 ·rw [yar,List.getElem?_take_eq_none (by omega)] at hj
  simp at hj
def DC (ops:Array Oper) (S:Nat→Bool):Prop:=∀ k o,ops[k]?=some o→S k=true→∀ e ∈ o.after,Region.binds .any e=true→S e.on=true
theorem zhy {S:Nat→Bool} (hS:DC ops S):∀ (i:Nat) (o:Oper),ops[i]?=some o→(∀ e ∈ o.after,Region.binds .any e=true→S e.on=true)→∀ j,Nat.testBit (zes ops i) j=true→S j=true:=by
 intro i
 induction i using Nat.strongRecOn with
 | _ i ih =>
  intro o ho he j hj
  obtain ⟨e,hm,hb,hj⟩:=zxE ho hj
  have hSe:=he e hm hb
  rcases hj with rfl|⟨hlt,hj⟩
  ·exact hSe
  ·cases hp:ops[e.on]? with
   | none =>
    exfalso
    have hn:(zel ops.toList []).length≤e.on:=by
     have:∀ (l:List Oper) (ms:List Nat),(zel l ms).length=ms.length+l.length:=by
      intro l
      induction l with
      | nil=>intro ms;simp [zel]
      | cons o l ih=>intro ms;rw [zel,ih];simp;omega
     rw [this]
     simpa using hp
    unfold zes at hj
    rw [yar,ya7 hn] at hj
    simp at hj
   | some p=>exact ih e.on hlt p hp (hS e.on p hp hSe) j hj
def zqy (ops:Array Oper) (q:Nat):Array Bool:=(Array.range ops.size).map fun j=>decide (j < zx ops ops.toList∧j≠q)
def zxx (ops:Array Oper) (q:Nat):Bool:=Region.noSelect ops && Region.free .any ops (zqy ops q) q && match ops[q]? with
 | some o=>zkF o
 | none=>false
def twoB (ops:Array Oper):Bool:=Nat.blt 1 ((List.range (zx ops ops.toList)).filter fun q=>zxx ops q && (List.range ops.size).any (fun i=>Nat.ble (zx ops ops.toList) i && !Nat.testBit ((zel ops.toList []).getD i 0) q)).length
def erlD (ops:Array Oper) (q:Nat):Bool:=bif zxB ops then zjD ops 4 q else bif twoB ops then zjD ops 4 q else false
def zlw (ops:Array Oper):Option Nat:=(List.range (zx ops ops.toList)).find? fun q=>!erlD ops q && (List.range ops.size).any (fun i=>decide (zx ops ops.toList≤i) && !Nat.testBit ((zel ops.toList []).getD i 0) q) && zxx ops q
def frT (ops:Array Oper) (i:Nat):Bool:=match ops[i]? with
 | some o=>tOp o && (Region.noSelect ops && Region.free .any ops (zlp ops o) i)
 | none=>false
def zrC (ops:Array Oper):Bool :=
 let M:=zel ops.toList []
 let f:=zx ops ops.toList
 ops.toList.zipIdx.all fun (o,i) =>
  (o.after.all fun e=>!Region.binds .any e || decide (e.on < i)) &&
  (match zdd ops o with|some d=>cons ops d == some i && (decide (d < i) && (Nat.testBit (M.getD i 0) d && o.guard.isNone))|none=>true) &&
  (decide (i < f) || (List.range i).all fun j=>Nat.testBit (M.getD i 0) j || (zlw ops == some j || (decide (i=f∧(zmh ops M).1≤j∧zlw ops=none) || (erlD ops j || (decide (f≤j) && frT ops j))))) &&
  (!erlD ops i || decide (i < (zmh ops M).1∧i < f)) &&
  (decide (i≤(zmh ops M).1) || decide (f≤i) || Nat.testBit (M.getD i 0) (i - 1)) &&
  ops.toList.zipIdx.all fun (p,j)=>match p.dst with
   | none=>true
   | some t=>!((o.looksAt ops).contains t || o.dst == some t) || j == i || Nat.testBit (M.getD i 0) j || Nat.testBit (M.getD j 0) i
abbrev zmm (ops:Array Oper):Nat:=(zmh ops (zel ops.toList [])).1
structure zgC (ops:Array Oper):Prop where
 eat:∀ i o d,ops[i]?=some o→zdd ops o=some d→cons ops d=some i∧d < i∧Nat.testBit (zes ops i) d=true∧o.guard=none
 edge:∀ i o,ops[i]?=some o→∀ e ∈ o.after,Region.binds .any e=true→e.on < i
 tail:∀ i o,ops[i]?=some o→zx ops ops.toList≤i→∀ j,j < i→Nat.testBit (zes ops i) j=true∨zlw ops=some j∨(i=zx ops ops.toList∧zmm ops≤j∧zlw ops=none)∨erlD ops j=true∨(zx ops ops.toList≤j∧frT ops j=true)
 earl:∀ i o,ops[i]?=some o→erlD ops i=true→i < zmm ops∧i < zx ops ops.toList
 chain:∀ i o,ops[i]?=some o→zmm ops < i→i < zx ops ops.toList→Nat.testBit (zes ops i) (i - 1)=true
 tmps:∀ i o j p t,ops[i]?=some o→ops[j]?=some p→p.dst=some t→(t ∈ o.looksAt ops∨o.dst=some t)→j=i∨Nat.testBit (zes ops i) j=true∨Nat.testBit (zes ops j) i=true
theorem zvC (h:zrC ops=true):zgC ops:=by
 unfold zrC at h
 simp only [yR] at h
 have hm:∀ i o,ops[i]?=some o→(o,i) ∈ ops.toList.zipIdx:=fun i o ho=>by
  rw [yb4]
  simpa using ho
 refine ⟨fun i o d ho he=>?_,fun i o ho e he hb=>?_,fun i o ho hf j hj=>?_,fun i o ho he=>?_,fun i o ho hf1 hf2=>?_,fun i o j p t ho hp ht hl=>?_⟩
 ·have:=h _ (hm i o ho)
  simp only [yM] at this
  have h2:=this.1.1.1.1.2
  rw [he] at h2
  simp only [yM,ybF,ye,yaM] at h2
  exact ⟨h2.1,h2.2.1,h2.2.2.1,h2.2.2.2⟩
 ·have:=h _ (hm i o ho)
  simp only [yM,ybQ,ya3,ybd,ye] at this
  exact (this.1.1.1.1.1 e he).resolve_left (by simp [hb])
 ·have:=h _ (hm i o ho)
  simp only [yM,ya3,ye,yR,ycq,ybF] at this
  exact (this.1.1.1.2.resolve_left (by omega)) j hj
 ·have:=h _ (hm i o ho)
  simp only [yM,ya3,ybd,ye] at this
  exact this.1.1.2.resolve_left (by simp [he])
 ·have:=h _ (hm i o ho)
  simp only [yM,ya3,ye] at this
  have:=this.1.2
  rcases this with (h1|h1)|h1
  ·exact absurd hf1 (by unfold zmm;omega)
  ·omega
  ·exact h1
 ·have:=h _ (hm i o ho)
  simp only [yM,yR] at this
  have:=this.2 _ (hm j p hp)
  simp only [ht,ya3,ybd,ybF] at this
  rcases this with ((h1|h1)|h1)|h1
  ·exfalso
   rw [Bool.or_eq_false_iff] at h1
   rcases hl with hl|hl
   ·have:=h1.1
    simp [ya6] at this
    exact this hl
   ·simp [hl] at h1
  ·exact .inl h1
  ·exact .inr (.inl h1)
  ·exact .inr (.inr h1)
theorem zqe {d:Nat}:∀ (l:List Oper) (j i:Nat),ztw ops d l j=some i→∃ o,j≤i∧l[i - j]?=some o∧zdd ops o=some d
 | [],j,i,h=>by cases h
 | o::l,j,i,h=>by
  unfold ztw at h
  split at h
  ·rename_i he
   injection h with h
   subst h
   exact ⟨o,yz _,by simp,he⟩
  ·obtain ⟨p,h1,h2,h3⟩:=zqe l (j+1) i h
   refine ⟨p,by omega,?_,h3⟩
   rw [show i - j=i - (j+1)+1 by omega]
   simpa using h2
theorem zsq {d i:Nat} (h:cons ops d=some i):∃ o,ops[i]?=some o∧zdd ops o=some d:=by
 obtain ⟨o,_,h2,h3⟩:=zqe _ _ _ h
 exact ⟨o,by simpa using h2,h3⟩
def ziv (ops:Array Oper) (S:Nat→Bool) (d:Nat):Bool:=match cons ops d with
 | some j=>S j
 | none=>false
def zkI (ops:Array Oper) (S:Nat→Bool) (t:Nat):Nat→Option Nat
 | 0=>none
 | n+1=>if S n=true∧(ops[n]?).bind (·.dst)=some t then some n else zkI ops S t n
theorem zkh {S S':Nat→Bool} {t:Nat}:∀ {n:Nat},(∀ j,j < n→(ops[j]?).bind (·.dst)=some t→S j=S' j)→zkI ops S t n=zkI ops S' t n
 | 0,_=>rfl
 | n+1,h=>by
  unfold zkI
  rw [zkh (n:=n) fun j hj=>h j (by omega)]
  by_cases hd:(ops[n]?).bind (·.dst)=some t
  ·rw [h n (by omega) hd]
  ·simp [hd]
def ins (S:Nat→Bool) (i:Nat) (j:Nat):Bool:=if j=i then true else S j
theorem zsC {S:Nat→Bool} {t i:Nat} (hd:(ops[i]?).bind (·.dst)=some t):∀ {n:Nat},i < n→(∀ j,j < n→S j=true→(ops[j]?).bind (·.dst)=some t→j < i)→zkI ops (ins S i) t n=some i
 | 0,h,_=>by omega
 | n+1,h,hall=>by
  unfold zkI
  by_cases hn:n=i
  ·subst hn
   rw [if_pos ⟨by simp [ins],hd⟩]
  ·rw [if_neg,zsC hd (by omega) fun j hj=>hall j (by omega)]
   rintro ⟨h1,h2⟩
   simp only [ins,if_neg hn] at h1
   have:=hall n (by omega) h1 h2
   omega
abbrev Res:=PV×List (Nm×Bk)
def tmAt (T:TT) (ops:Array Oper) (σ0:St) (r:Nat→Res) (S:Nat→Bool) (t:Nat):Option PV :=
 match zkI ops S t ops.size with
 | some j=>(σ0.tm[t]?).map fun _=>norm T (((ops[j]?).map (·.type)).getD 0) (r j).1
 | none=>σ0.tm[t]?
def lkAt (ops:Array Oper) (σ0:St) (r:Nat→Res) (S:Nat→Bool) (n:Nm):Option Bk:=if n.1=σ0.cnt then (if S n.2.1=true∧ziv ops S n.2.1=false then look (r n.2.1).2 n else none) else look σ0.hp n
structure Inv (T:TT) (ops:Array Oper) (σ0:St) (r:Nat→Res) (S:Nat→Bool) (σ:St):Prop where
 cnt:σ.cnt=σ0.cnt
 len:σ.tm.length=σ0.tm.length
 tm:∀ t,σ.tm[t]?=tmAt T ops σ0 r S t
 lk:∀ n,look σ.hp n=lkAt ops σ0 r S n
theorem zoO {n:Nm}:∀ (a b:List (Nm×Bk)),look (a++b) n=(look a n).or (look b n)
 | [],b=>rfl
 | (m,x)::a,b=>by
  simp only [yaX,look]
  split
  ·rfl
  ·exact zoO a b
theorem zsH {c i:Nat} {nb:List (Nm×Bk)} (h:okNm c i nb=true) {n:Nm} (hn:¬ (n.1=c∧n.2.1=i)):look nb n=none:=by
 cases hl:look nb n with
 | none=>rfl
 | some b =>
  have hm:=zmo hl
  unfold okNm at h
  rw [yR] at h
  have:=h _ hm
  simp only [ye] at this
  exact absurd this hn
variable {T:TT} {σ0:St} {r:Nat→Res} {S:Nat→Bool} {σ:St}
theorem zzf (hp:List (Nm×Bk)) (i n:Nm):look (del hp i) n=if n=i then none else look hp n:=by
 induction hp with
 | nil=>simp [del,look]
 | cons x l ih =>
  obtain ⟨m,b⟩:=x
  unfold del
  by_cases hm:m=i
  ·rw [if_pos hm,ih]
   by_cases hn:n=i
   ·rw [if_pos hn,if_pos hn]
   ·rw [if_neg hn,if_neg hn]
    conv=>rhs;unfold look
    rw [if_neg (fun h=>hn (by first|exact h.trans hm|exact h.symm.trans hm|exact (h ▸ hm)))]
  ·rw [if_neg hm]
   unfold look
   rw [ih]
   by_cases hn:n=i
   ·subst hn
    simp [hm,fun h:n=m=>hm h.symm]
   ·simp [hn]
theorem Inv.step (I:Inv T ops σ0 r S σ) {i:Nat} {o:Oper} (ho:ops[i]?=some o) (hS:S i=false) (hok:okNm σ0.cnt i (r i).2=true) (hw:∀ t j,o.dst=some t→S j=true→(ops[j]?).bind (·.dst)=some t→j < i)
  (hce:∀ j,cons ops i=some j→j≠i∧S j=false) (hea:∀ d,zdd ops o=some d→d≠i∧cons ops d=some i∧∀ n:Nm,n.1=σ0.cnt→n.2.1=d→n≠(σ0.cnt,d,0)→look (r d).2 n=none):Inv T ops σ0 r (ins S i) (zgd T ops σ o (r i).1 (r i).2):=by
 have hi:i < ops.size:=(yn.1 ho).1
 have hdt:(delE ops σ o).tm=σ.tm:=by unfold delE;split<;>rfl
 have hdc:(delE ops σ o).cnt=σ.cnt:=by unfold delE;split<;>rfl
 have hdl:∀ n,look (delE ops σ o).hp n=match zdd ops o with|some d=>if n=(σ0.cnt,d,0) then none else look σ.hp n|none=>look σ.hp n:=by
  intro n
  unfold delE
  cases zdd ops o with
  | none=>rfl
  | some d=>show look (del σ.hp (σ.cnt,d,0)) n=_;rw [zzf,I.cnt]
 have hcons:∀ d j,cons ops d=some j→j=i→zdd ops o=some d:=by
  intro d j hc hj
  obtain ⟨p,hp,he⟩:=zsq hc
  rw [hj,ho] at hp
  injection hp with hp
  rw [hp];exact he
 have hlk:∀ n,look ((r i).2++(delE ops σ o).hp) n=lkAt ops σ0 r (ins S i) n:=by
  intro n
  rw [zoO,hdl]
  by_cases hc:n.1=σ0.cnt
  ·by_cases hn:n.2.1=i
   ·have h1:look σ.hp n=none:=by
     rw [I.lk]
     unfold lkAt
     rw [if_pos hc,hn,hS]
     simp
    have h2:ziv ops (ins S i) i=false:=by
     unfold ziv
     cases hcc:cons ops i with
     | none=>rfl
     | some j =>
      obtain ⟨h3,h4⟩:=hce j hcc
      simp [ins,h3,h4]
    have h3:(match zdd ops o with|some d=>if n=(σ0.cnt,d,0) then none else look σ.hp n|none=>look σ.hp n)=none:=by
     split
     ·split
      ·rfl
      ·exact h1
     ·exact h1
    rw [h3]
    unfold lkAt
    rw [if_pos hc,hn,if_pos ⟨by simp [ins],h2⟩]
    simp
   ·rw [zsH hok (fun h=>hn h.2),Option.none_or]
    have hins:ins S i n.2.1=S n.2.1:=by simp [ins,hn]
    by_cases hd:zdd ops o=some n.2.1
    ·obtain ⟨h1,h2,h3⟩:=hea _ hd
     have h4:ziv ops (ins S i) n.2.1=true:=by unfold ziv;rw [h2];simp [ins]
     rw [hd]
     unfold lkAt
     rw [if_pos hc,if_neg (fun h=>by rw [h4] at h;cases h.2)]
     show (if n=(σ0.cnt,n.2.1,0) then none else look σ.hp n)=none
     split
     ·rfl
     ·rename_i hne
      rw [I.lk]
      unfold lkAt
      rw [if_pos hc]
      split
      ·exact h3 n hc rfl hne
      ·rfl
    ·have h4:ziv ops (ins S i) n.2.1=ziv ops S n.2.1:=by
      unfold ziv
      cases hcc:cons ops n.2.1 with
      | none=>rfl
      | some j =>
       have:j≠i:=fun hj=>hd (hcons _ _ hcc hj)
       simp [ins,this]
     have h5:(match zdd ops o with|some d=>if n=(σ0.cnt,d,0) then none else look σ.hp n|none=>look σ.hp n)=look σ.hp n:=by
      split
      ·rename_i d he
       rw [if_neg]
       intro hne
       apply hd
       rw [he,hne]
      ·rfl
     rw [h5,I.lk]
     unfold lkAt
     rw [if_pos hc,if_pos hc,hins,h4]
  ·rw [zsH hok (fun h=>hc h.1),Option.none_or]
   have h5:(match zdd ops o with|some d=>if n=(σ0.cnt,d,0) then none else look σ.hp n|none=>look σ.hp n)=look σ.hp n:=by
    split
    ·rw [if_neg]
     intro hne
     exact hc (by rw [hne])
    ·rfl
   rw [h5,I.lk]
   unfold lkAt
   rw [if_neg hc,if_neg hc]
 have hty:((ops[i]?).map (·.type)).getD 0=o.type:=by rw [ho];rfl
 unfold zgd aput
 split
 ·rename_i d hd
  have hbd:(ops[i]?).bind (·.dst)=some d:=by rw [ho];exact hd
  refine ⟨hdc.trans I.cnt,by simp [hdt,I.len],fun t=>?_,hlk⟩
  show ((delE ops σ o).tm.set d _)[t]?=_
  rw [hdt]
  by_cases ht:t=d
  ·subst ht
   unfold tmAt
   rw [zsC hbd hi (fun j _ h1 h2=>hw t j hd h1 h2)]
   simp only [hty]
   by_cases hl:t < σ.tm.length
   ·rw [ya4 hl,yb (by rw [← I.len];exact hl)]
    rfl
   ·rw [ya7 (by simp;omega),ya7 (by rw [← I.len];omega)]
    rfl
  ·rw [yaZ (Ne.symm ht),I.tm]
   unfold tmAt
   rw [zkh (S:=S) (S':=ins S i)]
   intro j _ hj
   have:j≠i:=fun h=>by subst h;rw [hbd] at hj;injection hj with hj;exact ht hj.symm
   simp [ins,this]
 ·rename_i hd
  refine ⟨hdc.trans I.cnt,by rw [hdt];exact I.len,fun t=>?_,hlk⟩
  show (delE ops σ o).tm[t]?=_
  rw [hdt,I.tm]
  unfold tmAt
  rw [zkh (S:=S) (S':=ins S i)]
  intro j _ hj
  have:j≠i:=fun h=>by subst h;rw [ho] at hj;simp [hd] at hj
  simp [ins,this]
theorem Inv.same (I:Inv T ops σ0 r S σ) {σ':St} (I':Inv T ops σ0 r S σ'):σ.tm=σ'.tm∧(∀ n,look σ.hp n=look σ'.hp n)∧σ.cnt=σ'.cnt :=
 ⟨List.ext_getElem? fun t=>by rw [I.tm,I'.tm],fun n=>by rw [I.lk,I'.lk],by rw [I.cnt,I'.cnt]⟩
end
theorem zqJ {c i:Nat} {lit:Bool} {x:Option Res} {r:Res} (h:ztB c i lit x=some r):x=some r∧okNm c i r.2=true∧(lit=true→litB r.2=true):=by
 unfold ztB at h
 split at h
 ·rename_i p nb
  split at h
  ·rename_i hk
   injection h with h
   subst h
   simp only [yM,ya3,ybd] at hk
   exact ⟨rfl,hk.1,fun hl=>hk.2.resolve_left (by simp [hl])⟩
  ·cases h
 ·cases h
theorem zxh {ops:Array Oper} {o:Oper} {d:Nat} (h:zdd ops o=some d):∃ as ts,o.op=.call { callee:=.builtin .append,args:=as,argTypes:=ts }∧o.guard=none:=by
 unfold zdd at h
 split at h
 ·rename_i as ts ho
  split at h
  ·rename_i hg
   exact ⟨as,ts,ho,hg⟩
  ·cases h
 ·cases h
theorem zsh {T:TT} {σ:St} {i m d:Nat} {o:Oper} {r:Res} (h:aeat za T σ i m d o=some r):(∃ as ts s x t t',o.op=.call { callee:=.builtin .append,args:=as,argTypes:=ts }∧as.toList=[s,x]∧ts.toList=[t,t'] ∧
  ∀ (σ':St),σ'.cnt=σ.cnt→(∀ y ∈ o.op.operands,σ.get y=σ'.get y)→(∀ b,zod σ.cnt m (look σ.hp) (σ.cnt,d,0)=some b→look σ'.hp (σ.cnt,d,0)=some b)→zjl za T σ' (σ'.cnt,i,0) o t t' (σ'.get s) (norm T t' (σ'.get x))=some (aput T ⟨σ'.tm,del σ'.hp (σ.cnt,d,0),σ'.cnt⟩ o r.1 r.2))∧okNm σ.cnt i r.2=true∧(∀ n:Nm,n.1=σ.cnt→n.2.1=d→n≠(σ.cnt,d,0)→look σ.hp n=none):=by
 unfold aeat at h
 split at h
 rotate_left
 ·cases h
 rename_i as ts ho
 split at h
 rotate_left
 ·cases h
 rename_i s x t t' has hts
 split at h
 rotate_left
 ·cases h
 rename_i e k by_ u1 u2 hTt
 split at h
 rotate_left
 ·cases h
 rename_i kx v1 v2 te hTt' hTe
 split at h
 rotate_left
 ·cases h
 rename_i hk
 split at h
 rotate_left
 ·cases h
 rename_i s' e'' k'' l'' hx
 split at h
 rotate_left
 ·cases h
 rename_i hkk
 split at h
 rotate_left
 ·cases h
 rename_i l hl
 split at h
 rotate_left
 ·cases h
 rename_i i' e' k' off n' hs
 split at h
 rotate_left
 ·cases h
 rename_i b hb
 split at h
 rotate_left
 ·cases h
 rename_i hbb
 split at h
 rotate_left
 ·cases h
 rename_i hii
 injection h with h
 subst h
 obtain ⟨rfl,hall⟩:=hii
 refine ⟨⟨as,ts,s,x,t,t',ho,has,hts,fun σ' hc hg hL=>?_⟩,?_,fun n h1 h2 h3=>?_⟩
 ·have ms:s ∈ as.toList:=by rw [has];simp
  have mx:x ∈ as.toList:=by rw [has];simp
  have gs:σ.get s=σ'.get s:=hg s (by rw [ho];simpa [Op.operands,Call.operands] using ms)
  have gx:σ.get x=σ'.get x:=hg x (by rw [ho];simpa [Op.operands,Call.operands] using mx)
  unfold zjl
  rw [← gs,← gx,hx]
  simp only [hTt,hTt',hTe]
  rw [if_pos hk]
  simp only [asrc]
  rw [if_pos hkk,hl]
  simp only [yk]
  rw [hs]
  simp only
  rw [hL b hb]
  simp only
  rw [if_pos hbb,hc,zCm]
  rfl
 ·simp [okNm]
 ·cases hlk:look σ.hp n with
  | none=>rfl
  | some b' =>
   exfalso
   have hm:=zmo hlk
   rw [yR] at hall
   have:=hall _ hm
   simp only [h1,h2,and_self,yv,yT,ybM,ye] at this
   exact h3 this
theorem zsl {T:TT} {F:Fns} {ops:Array Oper} {σ σ':St} {i m:Nat} {o:Oper} {r:Res} (hc:σ'.cnt=σ.cnt) (hg:∀ x ∈ o.op.operands,σ.get x=σ'.get x) (hL:∀ n b,zoc ops σ.cnt m (look σ.hp) n=some b→look σ'.hp n=some b) (hLe:∀ d,zdd ops o=some d→∀ b,zod σ.cnt m (look σ.hp) (σ.cnt,d,0)=some b→look σ'.hp (σ.cnt,d,0)=some b) (h:ares za T F ops σ i m o=some r):ziZ za T F σ' i o=some (zgd T ops σ' o r.1 r.2)∧okNm σ.cnt i r.2=true:=by
 unfold ares at h
 cases he:zdd ops o with
 | some d =>
  rw [he] at h
  simp only at h
  obtain ⟨⟨as,ts,s,x,t,t',ho,has,hts,hap⟩,hok,_⟩:=zsh h
  refine ⟨?_,hok⟩
  have:=hap σ' hc hg (hLe d he)
  unfold ziZ
  rw [ho]
  simp only [has,hts]
  rw [this]
  unfold zgd delE
  rw [he]
  simp only [hc]
 | none =>
  rw [he] at h
  simp only at h
  have han:∀ p nb,zgd T ops σ' o p nb=aput T σ' o p nb:=fun p nb=>by unfold zgd delE;rw [he]
  rw [han]
  split at h
  ·rename_i f as ts ho
   have hgf:σ.get f=σ'.get f:=hg f (by rw [ho];simp [Op.operands,Call.operands])
   cases hmu:zmq (σ.get f) with
   | true=>rw [hmu,Bool.true_or] at h;cases h
   | false =>
   rw [hmu,ybM] at h
   cases hco:zmb (σ.get f) with
   | true=>rw [hco,Bool.true_or] at h;cases h
   | false =>
   rw [hco,ybM] at h
   cases hcu:zn8 (σ.get f) with
   | true=>rw [hcu] at h;cases h
   | false =>
   rw [hcu] at h
   simp only [yf] at h
   obtain ⟨h,hok,_⟩:=zqJ h
   refine ⟨?_,hok⟩
   have h1:=zwU hL h
   rw [zyp (get':=σ'.get) (fun x hx=>hg x (by rw [ho];exact hx)),zoe,← hc,← zoe] at h1
   unfold ziZ
   rw [ho]
   show (bif zmq (σ'.get f) then _ else bif zmb (σ'.get f) then _ else bif zn8 (σ'.get f) then _ else zn6 T σ' i o (zir za T F (look σ'.hp) (nmOf σ' i) σ'.get _))=_
   rw [← hgf,hmu,hco,hcu,yf,yf,yf,h1]
   simp only [zn6,hc,hok,yK]
  ·rename_i hno
   obtain ⟨h,hok,hlit⟩:=zqJ h
   refine ⟨?_,hok⟩
   have h1:=zw4 hL h
   rw [zyv (get':=σ'.get) hg,zoe,← hc,← zoe] at h1
   have h2:zn5 T σ' i o (zdc za T (look σ'.hp) (nmOf σ' i) σ'.get o)=some (aput T σ' o r.1 r.2):=by
    rw [h1]
    have hml:(mkOp o.op || litB r.2)=true:=by
     cases hm:mkOp o.op with
     | true=>rfl
     | false=>simp [hlit (by rw [hm];rfl)]
    simp only [zn5,hc,hok,hml,Bool.and_self,yK]
   have hst:∀ t a x,o.op≠.store t a x:=fun t a x he=>by
    rw [zdc] at h
    simp [he] at h
   have hap:∀ as ts,o.op≠.call { callee:=.builtin .append,args:=as,argTypes:=ts }:=fun as ts he=>by
    rw [zdc] at h
    simp [he] at h
   have hcp:∀ as ts,o.op≠.call { callee:=.builtin .copy,args:=as,argTypes:=ts }:=fun as ts he=>by
    rw [zdc] at h
    simp [he] at h
   unfold ziZ
   split
   ·rename_i t a x he;exact absurd he (hst t a x)
   ·rename_i as ts he;exact absurd he (hap as ts)
   ·rename_i as ts he;exact absurd he (hcp as ts)
   ·rename_i f as ts he;exact absurd he (hno f as ts)
   ·exact h2
section
variable {ops:Array Oper} {T:TT} {F:Fns}
def ziF (ops:Array Oper) (σ:St) (o:Oper):Option Bool :=
 match o.guard with
 | none=>some true
 | some (j,want)=>match zlt σ ((ops[j]?).bind (·.dst)) with
  | some (some b)=>some (b == want)
  | some none=>some false
  | none=>none
def OneOk (ops:Array Oper) (T:TT) (F:Fns) (σ:St) (i:Nat) (o:Oper) (r:Res):Prop :=
 (ziF ops σ o=some true∧ares za T F ops σ i (zes ops i) o=some r)∨(ziF ops σ o=some false∧r=(.c (.at undef),[]))
theorem OneOk.nm {σ:St} {i:Nat} {o:Oper} {r:Res} (h:OneOk ops T F σ i o r):okNm σ.cnt i r.2=true:=by
 rcases h with ⟨_,h⟩|⟨_,rfl⟩
 ·exact (zsl rfl (fun _ _=>rfl) (fun n b hb=>by unfold zoc at hb;split at hb;cases hb;exact hb) (fun d _ b hb=>by unfold zod at hb;split at hb;cases hb;exact hb) h).2
 ·rfl
theorem zxm {β:Type} {k:St→Option β} {y:β} {L:Nat×Nat} {i:Nat} {σ:St} {x:Option β} (h:zxl za T F ops L i σ k x=some y):x=some y∧(L.1≤i→areg za T F ops (zls ops L.2 i) i σ k=some y):=by
 unfold zxl at h
 cases hb:Nat.ble L.1 i with
 | false =>
  rw [hb] at h
  exact ⟨h,fun hle=>by rw [Nat.ble_eq_true_of_le hle] at hb;cases hb⟩
 | true =>
  rw [hb] at h
  have h':zka 0 x (areg za T F ops (zls ops L.2 i) i σ k)=some y:=h
  exact ⟨zp8 h',fun _=>zoF h'⟩
theorem zsk {β:Type} {k:St→Option β} {y:β} {L:Nat×Nat}:∀ (l:List Oper) (i:Nat) (σ:St),(∀ j,l[j]?=ops[i+j]?)→zkE za T F ops (zel ops.toList []) L l i σ k=some y →
  ∃ (r:Nat→Res) (τ:Nat→St),τ i=σ∧(∀ j,i≤j→j < i+zx ops l→∃ o,ops[j]?=some o∧OneOk ops T F (τ j) j o (r j)∧τ (j+1)=zgd T ops (τ j) o (r j).1 (r j).2)∧areg za T F ops (l.drop (zx ops l)) (i+zx ops l) (τ (i+zx ops l)) k=some y ∧
   ∀ j,i≤j→j < i+zx ops l→L.1≤j→areg za T F ops (zls ops L.2 j) j (τ j) k=some y
 | [],i,σ,hl,h=>⟨fun _=>(.c .dead,[]),fun _=>σ,rfl,fun j h1 h2=>by simp [zx] at h2;omega,by simpa [areg,zkE,zx] using h,fun j h1 h2=>by simp [zx] at h2;omega⟩
 | o::l,i,σ,hl,h=>by
  unfold zkE at h
  by_cases he:ztD ops o=true
  ·rw [if_pos he] at h
   exact ⟨fun _=>(.c .dead,[]),fun _=>σ,rfl,fun j h1 h2=>by simp [zx,he] at h2;omega,by simpa [zx,he] using h,fun j h1 h2=>by simp [zx,he] at h2;omega⟩
  ·rw [if_neg he] at h
   obtain ⟨h,hfk⟩:=zxm h
   have ho:ops[i]?=some o:=by have:=hl 0;simpa using this.symm
   have hgo:∀ x:Res,OneOk ops T F σ i o x→zkE za T F ops (zel ops.toList []) L l (i+1) (zgd T ops σ o x.1 x.2) k=some y→∃ (r:Nat→Res) (τ:Nat→St),τ i=σ∧(∀ j,i≤j→j < i+zx ops (o::l)→∃ o,ops[j]?=some o∧OneOk ops T F (τ j) j o (r j)∧τ (j+1)=zgd T ops (τ j) o (r j).1 (r j).2)∧areg za T F ops ((o::l).drop (zx ops (o::l))) (i+zx ops (o::l)) (τ (i+zx ops (o::l))) k=some y∧(∀ j,i≤j→j < i+zx ops (o::l)→L.1≤j→areg za T F ops (zls ops L.2 j) j (τ j) k=some y):=fun x hx hr=>by
    obtain ⟨r,τ,h0,h1,h2,h3⟩:=zsk l (i+1) _ (fun j=>by have:=hl (j+1);simpa [yaf,yaW 1 j] using this) hr
    refine ⟨fun j=>if j=i then x else r j,fun j=>if j=i then σ else τ j,by simp,fun j hj1 hj2=>?_,?_,fun j hj1 hj2 hj3=>?_⟩
    ·have hf:zx ops (o::l)=zx ops l+1:=by simp [zx,he]
     by_cases hji:j=i
     ·subst hji
      refine ⟨o,ho,by simpa using hx,?_⟩
      simp only [yK,if_neg (show ¬ j+1=j by omega)]
      exact h0
     ·obtain ⟨p,hp,h3,h4⟩:=h1 j (by omega) (by omega)
      refine ⟨p,hp,by simpa [hji] using h3,?_⟩
      simp only [if_neg hji,if_neg (show ¬ j+1=i by omega)]
      exact h4
    ·have hf:zx ops (o::l)=zx ops l+1:=by simp [zx,he]
     rw [hf,List.drop_succ_cons]
     simp only [if_neg (show ¬ i+(zx ops l+1)=i by omega)]
     rw [show i+(zx ops l+1)=i+1+zx ops l by omega]
     exact h2
    ·have hf:zx ops (o::l)=zx ops l+1:=by simp [zx,he]
     by_cases hji:j=i
     ·subst hji
      simp only [yK]
      exact hfk hj3
     ·simp only [if_neg hji]
      exact h3 j (by omega) (by omega) hj3
   split at h
   ·rename_i hg
    split at h
    ·rename_i p nb hr
     exact hgo (p,nb) (.inl ⟨by simp [ziF,hg],hr⟩) h
    ·cases h
   ·rename_i j want hg
    split at h
    ·rename_i b hb
     split at h
     ·rename_i hbw
      split at h
      ·rename_i p nb hr
       exact hgo (p,nb) (.inl ⟨by simp [ziF,hg,hb,hbw],hr⟩) h
      ·cases h
     ·rename_i hbw
      exact hgo (.c (.at undef),[]) (.inr ⟨by simp [ziF,hg,hb,hbw],rfl⟩) h
    ·rename_i hb
     exact hgo (.c (.at undef),[]) (.inr ⟨by simp [ziF,hg,hb],rfl⟩) h
    ·cases h
theorem zo4 {σ σ':St} {o:Oper} (h:∀ t,t ∈ o.looksAt ops→σ.tm[t]?=σ'.tm[t]?):ziF ops σ o=ziF ops σ' o:=by
 unfold ziF
 cases hg:o.guard with
 | none=>rfl
 | some gw =>
  obtain ⟨g,want⟩:=gw
  have:zlt σ ((ops[g]?).bind (·.dst))=zlt σ' ((ops[g]?).bind (·.dst)):=by
   unfold zlt
   cases ht:(ops[g]?).bind (·.dst) with
   | none=>rfl
   | some t=>simp only;rw [h t (by simp [Oper.looksAt,hg,ht])]
  simp only [this]
theorem zy4 {σ σ':St} {o:Oper} (h:∀ t,t ∈ o.looksAt ops→σ.tm[t]?=σ'.tm[t]?):∀ x ∈ o.op.operands,σ.get x=σ'.get x:=by
 intro x hx
 cases x with
 | tmp t =>
  have:=h t (yE _ (List.mem_filterMap.2 ⟨.tmp t,by simpa using hx,rfl⟩))
  simp only [St.get,yar,this]
 | _=>rfl
def left (S:Nat→Bool):Nat→Nat
 | 0=>0
 | n+1=>(if S n=true then 0 else 1)+left S n
theorem znp {S:Nat→Bool}:∀ {n:Nat},left S n=0→∀ j,j < n→S j=true
 | 0,_,j,hj=>by omega
 | n+1,h,j,hj=>by
  unfold left at h
  by_cases hn:S n=true
  ·by_cases hjn:j=n
   ·rw [hjn];exact hn
   ·exact znp (n:=n) (by simpa [hn] using h) j (by omega)
  ·simp [hn] at h
theorem zpl {S:Nat→Bool}:∀ {n:Nat},left S n≠0→∃ j,j < n∧S j=false∧∀ i,i < j→S i=true
 | 0,h=>by simp [left] at h
 | n+1,h=>by
  by_cases h0:left S n=0
  ·have hall:=znp h0
   refine ⟨n,by omega,?_,fun i hi=>hall i hi⟩
   unfold left at h
   by_cases hn:S n=true
   ·simp [hn,h0] at h
   ·simpa using hn
  ·obtain ⟨j,h1,h2⟩:=zpl h0
   exact ⟨j,by omega,h2⟩
theorem zuq {S:Nat→Bool} {i:Nat} (hi:S i=false):∀ {n:Nat},i < n→left S n=left (ins S i) n+1
 | 0,h=>by omega
 | n+1,h=>by
  unfold left
  by_cases hn:n=i
  ·subst hn
   have:left (ins S n) n=left S n:=by
    have:∀ m,m≤n→left (ins S n) m=left S m:=by
     intro m
     induction m with
     | zero=>intro _;rfl
     | succ m ih=>intro hm;unfold left;rw [ih (by omega)];simp [ins,show m≠n by omega]
    exact this n (yz n)
   rw [this]
   simp [ins,hi]
   omega
  ·rw [zuq hi (n:=n) (by omega)]
   simp only [ins,if_neg hn]
   omega
theorem zsD:∀ (n:Nat),left (fun _=>false) n=n
 | 0=>rfl
 | n+1=>by unfold left;rw [zsD n];simp;omega
theorem zqz {ops:Array Oper} {q:Nat} (h:zlw ops=some q):q < zx ops ops.toList∧Region.noSelect ops=true∧Region.free .any ops (zqy ops q) q=true∧∃ o,ops[q]?=some o∧zkF o=true:=by
 unfold zlw at h
 have h1:=List.find?_some h
 have h2:=yce h
 rw [ycq] at h2
 rw [yM,yM] at h1
 replace h1:=h1.2
 unfold zxx at h1
 simp only [yM] at h1
 refine ⟨h2,h1.1.1,h1.1.2,?_⟩
 have h3:=h1.2
 split at h3
 ·rename_i o ho
  exact ⟨o,ho,h3⟩
 ·cases h3
theorem zsr {P:Program} {o:Oper} (h:zkF o=true) {a:Act} {w:World} {K:Act→World→Prop} {Q:Exit→Act→World→Prop} (hw:o.wp P a w K Q):o.guard=none∧∃ v,(∀ w',(execOp a.eval o).run P w'=.ok (.value v) w')∧K (a.put o.dst v) w:=by
 unfold zkF at h
 simp only [yM,yaM] at h
 obtain ⟨h1,hg⟩:=h
 refine ⟨hg,?_⟩
 split at h1
 ·rename_i s hop
  have hr:∀ w',(execOp a.eval o).run P w'=.ok (.value (a.eval (.tmp s))) w':=fun w'=>by simp [execOp,hop]
  refine ⟨_,hr,?_⟩
  unfold Oper.wp at hw
  rw [hr w] at hw
  exact hw
 ·rename_i s n hop
  cases ht:a.eval (.tmp s) with
  | tuple vs =>
   cases hv:vs[n]? with
   | none =>
    exfalso
    unfold Oper.wp at hw
    simp [execOp,hop,ht,Instr.extract,hv,stuck,Oper.upon] at hw
   | some v =>
    have hr:∀ w',(execOp a.eval o).run P w'=.ok (.value v) w':=fun w'=>by simp [execOp,hop,ht,Instr.extract,hv]
    refine ⟨v,hr,?_⟩
    unfold Oper.wp at hw
    rw [hr w] at hw
    exact hw
  | _ =>
   exfalso
   unfold Oper.wp at hw
   simp [execOp,hop,ht,Instr.extract,stuck,Oper.upon] at hw
 ·cases h1
def Never {α:Type} (P:Program) (m:Sem α):Prop:=∀ w v w',m.run P w≠.ok v w'
def zah {α:Type} (P:Program) (m:Sem α):Prop:=(∃ v,∀ w,m.run P w=.ok v w)∨Never P m
theorem Never.bind {α β:Type} {P:Program} {m:Sem α} {f:α→Sem β} (h:∀ v,Never P (f v)):Never P (m >>= f):=fun w v w' he=>by
 rw [Sem.run_bind] at he
 cases hm:m.run P w with
 | ok a w1=>rw [hm,Result.andThen_ok] at he;exact h a _ _ _ he
 | _=>rw [hm] at he;cases he
theorem zah.pure {α:Type} {P:Program} (a:α):zah P (pure a:Sem α):=.inl ⟨a,fun w=>Sem.run_pure ..⟩
theorem zah.bind {α β:Type} {P:Program} {m:Sem α} {f:α→Sem β} (hm:zah P m) (h:∀ v,zah P (f v)):zah P (m >>= f):=by
 rcases hm with ⟨a,ha⟩|hn
 ·rcases h a with ⟨b,hb⟩|hb
  ·exact .inl ⟨b,fun w=>by rw [Sem.run_bind,ha w,Result.andThen_ok];exact hb w⟩
  ·exact .inr fun w v w' he=>by rw [Sem.run_bind,ha w,Result.andThen_ok] at he;exact hb _ _ _ he
 ·refine .inr fun w v w' he=>?_
  rw [Sem.run_bind] at he
  cases hr:m.run P w with
  | ok a w1=>exact hn _ _ _ hr
  | _=>rw [hr] at he;cases he
theorem zah.halt {α:Type} {P:Program} (x):zah P (.halt x:Sem α):=.inr fun w v w' h=>by cases h
theorem zah.prog {P:Program}:zah P program:=.inl ⟨P,fun w=>run_program ..⟩
theorem zsd {P:Program} (t:TypeId):zah P (typeInfo t):=zah.bind zah.prog fun p=>by
 split
 ·exact zah.pure _
 ·exact zah.halt _
theorem zjj {P:Program} (t:TypeId):zah P (underlying t):=zah.bind zah.prog fun p=>by
 split
 ·exact zah.pure _
 ·exact zah.halt _
theorem zlg {P:Program} (t:TypeId):zah P (sizeOf t):=zah.bind (zsd t) fun i=>zah.pure _
theorem ztr {P:Program} (x:Value):zah P (asIntOf x):=by
 unfold asIntOf
 split<;>first|exact zah.pure _|exact zah.halt _
theorem zuF {α:Type} {P:Program} (k:IntKind) (x y:Int) (c:BoundsCode):Never P (boundsPanic k x y c:Sem α):=by
 have hr:∀ e1 e2 e3 e4,Never P (runtimePanic (.bounds e1 e2 e3 e4):Sem α):=fun e1 e2 e3 e4 w v w' h=>by
  simp [runtimePanic,goPanic] at h
 unfold boundsPanic
 dsimp only
 split
 ·exact Never.bind fun s=>hr _ _ _ _
 ·exact Never.bind fun s=>hr _ _ _ _
theorem zpU {P:Program} (x:Value) (y:Nat) (c:BoundsCode):zah P (Instr.sliceBound x y c):=zah.bind (ztr x) fun ⟨k,i⟩=>by
 dsimp only
 split
 ·exact zah.pure _
 ·exact .inr (zuF _ _ _ _)
theorem zgW {P:Program} (b:Bool) (len cap:Nat) (lo hi mx:Option Value):zah P (Instr.sliceBounds b len cap lo hi mx):=by
 unfold Instr.sliceBounds
 repeat (first|exact zah.pure _|exact zah.halt _|exact zpU _ _ _|refine zah.bind ?_ fun _=>?_|split|dsimp only)
theorem zvg {P:Program} (x:Value):zah P (asAddr x):=by
 unfold asAddr
 split
 ·exact zah.pure _
 ·exact .inr fun w v w' h=>by simp [runtimePanic,goPanic] at h
 ·exact zah.halt _
theorem zv9 {P:Program} (t:TypeId) (x:Value) (lo hi mx:Option Value):zah P (Instr.slice t x lo hi mx):=by
 unfold Instr.slice
 refine zah.bind (zjj t) fun d=>?_
 split
 ·split
  ·exact zah.halt _
  ·exact zah.bind (zgW _ _ _ _ _ _) fun p=>zah.pure _
 ·exact zah.bind (zgW _ _ _ _ _ _) fun p=>zah.bind (zlg _) fun z=>zah.pure _
 ·refine zah.bind (zvg _) fun a=>zah.bind (zjj _) fun d=>?_
  split
  ·exact zah.bind (zgW _ _ _ _ _ _) fun p=>zah.bind (zlg _) fun z=>zah.pure _
  ·exact zah.halt _
 ·exact zah.halt _
theorem zts {P:Program} (t:TypeId) (x:Value) (lo hi mx:Option Value):zah P (Instr.sliceAt t x lo hi mx):=by
 unfold Instr.sliceAt
 refine zah.bind (zjj t) fun d=>?_
 split
 ·refine zah.bind ?_ fun a=>zah.bind (zgW _ _ _ _ _ _) fun p=>zah.bind (zlg _) fun z=>zah.pure _
  unfold Instr.sureAddr
  split
  ·exact zah.pure _
  ·exact zah.halt _
 ·exact zv9 _ _ _ _ _
theorem zwK {P:Program} {o:Oper} (h:tOp o=true) {a:Act} {w:World} {K:Act→World→Prop} {Q:Exit→Act→World→Prop} (hQp:∀ c a w,¬ Q (.panic c) a w) (hw:o.wp P a w K Q):∃ v,(∀ w',(execOp a.eval o).run P w'=.ok (.value v) w')∧K (a.put o.dst v) w:=by
 by_cases hc:zkF o=true
 ·exact (zsr hc hw).2
 unfold tOp at h
 simp only [yM,yaM] at h
 obtain ⟨h1,hg⟩:=h
 split at h1
 ·rename_i s hop
  exact absurd (by unfold zkF;simp [hop,hg]) hc
 ·rename_i s n hop
  exact absurd (by unfold zkF;simp [hop,hg]) hc
 ·rename_i t s lo hi hop
  rcases zts (P:=P) t (a.eval (.tmp s)) (lo.map a.eval) (hi.map a.eval) none with ⟨v,hv⟩|hn
  ·have hr:∀ w',(execOp a.eval o).run P w'=.ok (.value v) w':=fun w'=>by simp [execOp,hop,hv w']
   refine ⟨v,hr,?_⟩
   unfold Oper.wp at hw
   rw [hr w] at hw
   exact hw
  ·exfalso
   unfold Oper.wp at hw
   cases hr:(Instr.sliceAt t (a.eval (.tmp s)) (lo.map a.eval) (hi.map a.eval) none).run P w with
   | ok v w1=>exact hn _ _ _ hr
   | halt x w1 =>
    have e:(execOp a.eval o).run P w=.halt x w1:=by simp [execOp,hop,hr]
    rw [e] at hw
    cases x<;>first|exact hQp _ _ _ hw|exact hw
 ·cases h1
theorem znl {l:Array Bool} {i:Nat} {d:Bool} (h:i < l.size):l.getD i d=l[i]:=by
 rw [yJ,yS h];rfl
theorem zsw {ops:Array Oper} {L L':Array Bool} {i:Nat} (h:Region.free .any ops L i=true) (hm:∀ j,L.getD j true=true→L'.getD j true=true):Region.free .any ops L' i=true:=by
 unfold Region.free at h ⊢
 split at h
 ·cases h
 ·rename_i oi hi
  rw [yR] at h ⊢
  intro j hj
  have h1:=h j hj
  cases hL:L.getD j true with
  | true=>rw [hm j hL];simp
  | false =>
   rw [hL,Bool.or_false] at h1
   cases L'.getD j true
   ·rw [Bool.or_false];exact h1
   ·simp
theorem zo6 {P:Program} {Q:Exit→Act→World→Prop} (D:zgC ops) (hQp:∀ c a w,¬ Q (.panic c) a w) (hQo:¬ LetsOut Q):∀ (l:List Oper) (i:Nat) (listed:Array Bool) (a:Act) (w:World),(∀ j,l[j]?=ops[i+j]?)→zx ops ops.toList≤i→listed.size=ops.size→(∀ j,j < ops.size→listed.getD j false=decide (j < i))→wpList P ops Q l a w→wpAny P .any ops Q l.length listed a w:=by
 intro l
 induction l with
 | nil =>
  intro i listed a w hl hf hsz hS h
  have hn:ops.size≤i:=by have:=hl 0;simpa using this.symm
  refine ⟨?_,h⟩
  rw [ybu]
  intro j hj
  obtain ⟨h1,o,ho,_⟩:=mem_ready.1 hj
  have hlt:=(yn.1 ho).1
  have h2:=hS j hlt
  rw [yJ,yS (by omega)] at h1 h2
  simp only [yaB] at h1 h2
  rw [h1] at h2
  simp at h2
  omega
 | cons o l ih =>
  intro i listed a w hl hf hsz hS h
  have ho:ops[i]?=some o:=by have:=hl 0;simpa using this.symm
  have hlt:i < ops.size:=(yn.1 ho).1
  have hfl:∀ j,j < ops.size→listed.getD j true=listed.getD j false:=fun j hj=>by
   rw [yJ,yJ,yS (by omega)]
   rfl
  have hiR:i ∈ Region.ready .any ops listed:=by
   rw [mem_ready]
   refine ⟨by rw [hfl i hlt,hS i hlt];simp,o,ho,fun e he hb=>?_⟩
   have:=D.edge i o ho e he hb
   rw [hS _ (by omega)]
   simpa using this
  by_cases hfr:frT ops i=true
  ·unfold frT at hfr
   rw [ho] at hfr
   simp only [yM] at hfr
   obtain ⟨htp,hns,hfr⟩:=hfr
   have hg:o.guard=none:=by
    unfold tOp at htp
    simp only [yM,yaM] at htp
    exact htp.2
   have hwant:Region.wanted o (yielded ops a.tmps)=true:=by simp [Region.wanted,hg]
   have hfree:Region.free .any ops listed i=true:=zsw hfr fun j hj=>by
    by_cases hjs:j < ops.size
    ·rw [znl (by simpa [zlp] using hjs)] at hj
     simp only [zlp,ycb,yb2] at hj
     obtain ⟨e,he,hb⟩:=Array.any_eq_true'.1 hj
     simp only [yM,ybF] at hb
     have:=D.edge i o ho e he hb.1
     rw [hfl j hjs,hS j hjs,← hb.2]
     simpa using this
    ·rw [yJ,Array.getElem?_eq_none (by omega)]
     rfl
   unfold wpList at h
   rw [if_pos hwant] at h
   have hw:=h.resolve_right fun k=>hQo k.2
   obtain ⟨v,hrun,hK⟩:=zwK htp hQp hw
   rw [yac]
   refine wpAny_take ho hns hfree (ya6.2 hiR) (fun c a w hq=>absurd hq (hQp _ _ _)) (.inl ⟨hwant,hrun⟩) ?_
   exact ih (i+1) _ _ _ (fun k=>by have:=hl (k+1);simpa [yaf,yaW 1 k] using this) (by omega) (by simpa using hsz) (fun k hk=>by
    by_cases hkj:k=i
    ·subst hkj
     rw [yJ,yaD (by omega)]
     simp
    ·rw [getD_set_ne false (Ne.symm hkj),hS k hk]
     simp only [ybh]
     omega) hK
  have hDC:DC ops (fun j=>decide (j < i)):=fun k p hp hk e he hb=>by
   have:=D.edge k p hp e he hb
   simp only [ye] at hk ⊢
   omega
  have honly:∀ j ∈ Region.ready .any ops listed,j=i:=fun j hj=>by
   obtain ⟨h1,p,hp,h2⟩:=mem_ready.1 hj
   have hjlt:=(yn.1 hp).1
   rw [hfl j hjlt,hS j hjlt] at h1
   simp at h1
   rcases Nat.lt_or_ge i j with hij|hij
   ·exfalso
    have:=zhy hDC j p hp (fun e he hb=>by
     have h3:=h2 e he hb
     rw [hS _ (by have:=D.edge j p hp e he hb;omega)] at h3
     exact h3) i ((D.tail j p hp (by omega) i hij).resolve_right fun hh=>by
      rcases hh with hh|⟨hh,_⟩|hh|⟨_,hh⟩
      ·have:=(zqz hh).1
       omega
      ·omega
      ·have:=(D.earl i o ho hh).2
       omega
      ·exact hfr hh)
    simp at this
   ·omega
  unfold wpAny
  refine ⟨fun h0=>(by rw [h0] at hiR;cases hiR),fun j hj=>?_⟩
  have:=honly j hj
  subst this
  have hnext:∀ a' w',wpList P ops Q l a' w'→wpAny P .any ops Q l.length (listed.setIfInBounds j true) a' w':=fun a' w' h' =>
   ih (j+1) _ a' w' (fun k=>by have:=hl (k+1);simpa [yaf,yaW 1 k] using this) (by omega) (by simpa using hsz) (fun k hk=>by
    by_cases hkj:k=j
    ·subst hkj
     rw [yJ,yaD (by omega)]
     simp
    ·rw [getD_set_ne false (Ne.symm hkj),hS k hk]
     simp only [ybh]
     omega) h'
  unfold wpList at h
  unfold wpOp
  simp only [ho]
  split
  ·rename_i hw
   rw [if_pos hw] at h
   exact h.imp (Oper.wp_mono hnext) id
  ·rename_i hw
   rw [if_neg hw] at h
   exact hnext _ _ h
theorem zvm {P:Program} {Q:Exit→Act→World→Prop} (D:zgC ops) (hQp:∀ c a w,¬ Q (.panic c) a w) (hQo:¬ LetsOut Q) (hN:zlw ops=none) {f q0:Nat} (hf:f=zx ops ops.toList) (hfs:f < ops.size) (hfe:∀ o,ops[f]?=some o→∀ e ∈ o.after,Region.binds .any e=true→e.on < q0) (hp0:zmm ops≤q0):∀ (n q:Nat) (listed:Array Bool) (a:Act) (w:World),q+n=f→q0≤q→listed.size=ops.size→(∀ j,j < ops.size→listed.getD j false=decide (j < q∨j=f)) →
  wpList P ops Q ((ops.toList.drop q).take n++ops.toList.drop (f+1)) a w→wpAny P .any ops Q ((ops.toList.drop q).take n++ops.toList.drop (f+1)).length listed a w:=by
 intro n
 induction n with
 | zero =>
  intro q listed a w hq hp hsz hS h
  rw [ycr,yaI] at h ⊢
  exact zo6 D hQp hQo _ (f+1) listed a w (fun j=>by simp) (by omega) hsz (fun j hj=>by rw [hS j hj];simp only [ybh];omega) h
 | succ n ih =>
  intro q listed a w hq hp hsz hS h
  have hlt:q < ops.size:=by omega
  have ho:ops[q]?=some ops[q]:=yS hlt
  generalize ops[q]=o at ho
  have hd:ops.toList.drop q=o::ops.toList.drop (q+1):=by
   rw [yba (by simpa using hlt)]
   congr 1
   have:ops.toList[q]?=some o:=by simpa using ho
   rw [yb (by simpa using hlt)] at this
   exact ybU this
  rw [hd,ybm,yaX] at h ⊢
  rw [yac]
  have hfl:∀ j,j < ops.size→listed.getD j true=listed.getD j false:=fun j hj=>by
   rw [yJ,yJ,yS (by omega)]
   rfl
  have hqR:q ∈ Region.ready .any ops listed:=by
   rw [mem_ready]
   refine ⟨by rw [hfl q hlt,hS q hlt];simp;omega,o,ho,fun e he hb=>?_⟩
   have:=D.edge q o ho e he hb
   rw [hS _ (by omega)]
   simp [this]
  have hDC:DC ops (fun k=>decide (k < q∨k=f)):=fun k p hp' hk e he hb=>by
   simp only [ye] at hk ⊢
   rcases hk with hk|hk
   ·have:=D.edge k p hp' e he hb
    omega
   ·subst hk
    have:=hfe p hp' e he hb
    omega
  have honly:∀ j ∈ Region.ready .any ops listed,j=q:=fun j hj=>by
   obtain ⟨h1,p,hp',h2⟩:=mem_ready.1 hj
   have hjlt:=(yn.1 hp').1
   rw [hfl j hjlt,hS j hjlt] at h1
   simp at h1
   have hin:∀ k,Nat.testBit (zes ops j) k=true→k < q∨k=f:=fun k hk=>by
    have:=zhy hDC j p hp' (fun e he hb=>by
     have h3:=h2 e he hb
     rw [hS _ (by have:=D.edge j p hp' e he hb;omega)] at h3
     exact h3) k hk
    simpa using this
   rcases Nat.lt_or_ge q j with hij|hij
   ·exfalso
    by_cases hjf:j < f
    ·have:=hin _ (D.chain j p hp' (by omega) (by omega))
     omega
    ·rcases D.tail j p hp' (by omega) q (by omega) with h|h|⟨h,_⟩|h|⟨h,_⟩
     ·have:=hin _ h
      omega
     ·rw [hN] at h;cases h
     ·omega
     ·have:=(D.earl q o ho h).1
      omega
     ·omega
   ·omega
  unfold wpAny
  refine ⟨fun h0=>(by rw [h0] at hqR;cases hqR),fun j hj=>?_⟩
  have:=honly j hj
  subst this
  have hnext:∀ a' w',wpList P ops Q ((ops.toList.drop (j+1)).take n++ops.toList.drop (f+1)) a' w'→wpAny P .any ops Q ((ops.toList.drop (j+1)).take n++ops.toList.drop (f+1)).length (listed.setIfInBounds j true) a' w':=fun a' w' h' =>
   ih (j+1) _ a' w' (by omega) (by omega) (by simpa using hsz) (fun k hk=>by
    by_cases hkj:k=j
    ·subst hkj
     rw [yJ,yaD (by omega)]
     simp
    ·rw [getD_set_ne false (Ne.symm hkj),hS k hk]
     simp only [ybh]
     omega) h'
  unfold wpList at h
  unfold wpOp
  simp only [ho]
  split
  ·rename_i hw
   rw [if_pos hw] at h
   exact h.imp (Oper.wp_mono hnext) id
  ·rename_i hw
   rw [if_neg hw] at h
   exact hnext _ _ h
theorem zqB {j:Nat}:∀ (n:Nat),left (fun k=>decide (k < j)) n=n - j
 | 0=>by simp [left]
 | n+1=>by
  unfold left
  rw [zqB n]
  by_cases h:n < j<;>simp [h]<;>omega
theorem zBI (M:List Nat):(zmh ops M).2=zx ops ops.toList:=by
 unfold zmh zyZ zyY
 cases Nat.blt (zx ops ops.toList) ops.size<;>rfl
end
theorem zo5 {E:Env} {w0:Bs} {σ:St} {a:Act} {w:World} (R:Rel E w0 σ a w) {ops:Array Oper} {o:Oper} {b:Bool} (h:ziF ops σ o=some b):Region.wanted o (yielded ops a.tmps)=b:=by
 unfold ziF at h
 unfold Region.wanted
 cases hg:o.guard with
 | none=>simpa [hg] using h
 | some gw =>
  obtain ⟨g,want⟩:=gw
  simp only [hg] at h
  split at h
  ·rename_i b' hb
   show (yielded ops a.tmps g == some want)=b
   rw [zkf R hb]
   injection h with h
  ·rename_i hb
   show (yielded ops a.tmps g == some want)=b
   rw [zkf R hb]
   injection h with h
  ·cases h
theorem zCk {E:Env} {w0:Bs} {σ:St} {a:Act} {w w':World} (R:Rel E w0 σ a w) (h:Ext w w'):Rel E w0 σ a w' :=
 ⟨R.wf.ext h,R.dfr,R.siz,fun t p hp=>(R.tmp t p hp).grow R.wf (Grow.same h),fun i b hb=>(R.blk i b hb).grow R.wf (Grow.same h),R.kp.trans h,R.bs⟩
theorem zu8 {E:Env} {w0:Bs} {σ σ':St} {a:Act} {w:World} (R:Rel E w0 σ a w) (ht:σ.tm=σ'.tm) (hl:∀ n,look σ.hp n=look σ'.hp n):Rel E w0 σ' a w :=
 ⟨R.wf,R.dfr,by rw [R.siz,ht],fun t p hp=>R.tmp t p (by rw [ht];exact hp),fun i b hb=>R.blk i b (by rw [hl];exact hb),R.kp,R.bs⟩
section
variable {ops:Array Oper} {T:TT} {F:Fns} {P:Program} {Q:Exit→Act→World→Prop}
theorem zt3 (D:zgC ops) (i:Nat):DC ops (fun j=>decide (j < i)):=fun k p hp hk e he hb=>by
 have:=D.edge k p hp e he hb
 simp only [ye] at hk ⊢
 omega
theorem zrS (D:zgC ops) {i j:Nat} {o:Oper} (ho:ops[i]?=some o) (h:Nat.testBit (zes ops i) j=true):j < i:=by
 have:=zhy (zt3 D i) i o ho (fun e he hb=>by simpa using D.edge i o ho e he hb) j h
 simpa using this
structure Run (ops:Array Oper) (T:TT) (F:Fns) (σ0:St) (r:Nat→Res) (τ:Nat→St):Prop where
 zero:τ 0=σ0
 step:∀ j,j < zx ops ops.toList→∃ o,ops[j]?=some o∧OneOk ops T F (τ j) j o (r j)∧τ (j+1)=zgd T ops (τ j) o (r j).1 (r j).2
 fresh:∀ n,n.1=σ0.cnt→look σ0.hp n=none
variable {σ0:St} {r:Nat→Res} {τ:Nat→St}
theorem zgC.hce (D:zgC ops) {S:Nat→Bool} (hDC:DC ops S) {i:Nat} (hS:S i=false):∀ j,cons ops i=some j→j≠i∧S j=false:=by
 intro j hj
 obtain ⟨p,hp,he⟩:=zsq hj
 obtain ⟨_,h2,h3,_⟩:=D.eat j p i hp he
 refine ⟨by omega,?_⟩
 cases hSj:S j with
 | false=>rfl
 | true =>
  have:=zhy hDC j p hp (hDC j p hp hSj) i h3
  rw [hS] at this
  cases this
theorem zwC (D:zgC ops) {i:Nat} {o:Oper} (ho:ops[i]?=some o) {τi:St} (I:Inv T ops σ0 r (fun k=>decide (k < i)) τi) (h1:OneOk ops T F τi i o (r i)):∀ d,zdd ops o=some d→d≠i∧cons ops d=some i∧∀ n:Nm,n.1=σ0.cnt→n.2.1=d→n≠(σ0.cnt,d,0)→look (r d).2 n=none:=by
 intro d hd
 obtain ⟨h2,h3,_,h5⟩:=D.eat i o d ho hd
 refine ⟨by omega,h2,fun n hn1 hn2 hn3=>?_⟩
 rcases h1 with ⟨_,h1⟩|⟨h1,_⟩
 ·unfold ares at h1
  rw [hd] at h1
  have h6:=(zsh h1).2.2 n (by rw [I.cnt];exact hn1) hn2 (by rw [I.cnt];exact hn3)
  rw [I.lk] at h6
  unfold lkAt at h6
  rw [if_pos hn1,hn2,if_pos ⟨by simpa using h3,by unfold ziv;rw [h2];simp⟩] at h6
  exact h6
 ·simp [ziF,h5] at h1
theorem zw3 {σ:St} {o:Oper} {p:PV} {nb:List (Nm×Bk)} (h:zdd ops o=none):zgd T ops σ o p nb=aput T σ o p nb:=by unfold zgd delE;rw [h]
theorem Run.inv (D:zgC ops) (H:Run ops T F σ0 r τ):∀ j,j≤zx ops ops.toList→Inv T ops σ0 r (fun k=>decide (k < j)) (τ j)
 | 0,_=>by
  rw [H.zero]
  have hno:∀ t n,zkI ops (fun k=>decide (k < 0)) t n=none:=by
   intro t n
   induction n with
   | zero=>rfl
   | succ n ih=>unfold zkI;rw [ih];simp
  refine ⟨rfl,rfl,fun t=>?_,fun n=>?_⟩
  ·unfold tmAt
   rw [hno]
  ·unfold lkAt
   split
   ·rename_i hn
    simp [H.fresh n hn]
   ·rfl
 | j+1,hj=>by
  obtain ⟨o,ho,h1,h2⟩:=H.step j (by omega)
  have I:=Run.inv D H j (by omega)
  rw [h2]
  have hnm:=h1.nm
  rw [I.cnt] at hnm
  have:=I.step ho (by simp) hnm (fun t k _ hk _=>by simpa using hk) (D.hce (zt3 D j) (by simp)) (zwC D ho I h1)
  have he:ins (fun k=>decide (k < j)) j=fun k=>decide (k < j+1):=by
   funext k
   unfold ins
   split
   ·rename_i hk;simp [hk]
   ·simp only [ybh];omega
  rw [he] at this
  exact this
theorem zwg (D:zgC ops) (hT:∀ t ti,T t=some ti→ttOf P t=some ti) {w0:Bs} (hF:zay P F w0) (H:Run ops T F σ0 r τ)
  (hend:∀ E a w,Rel E w0 (τ (zx ops ops.toList)) a w→FreshI E σ0.cnt (zx ops ops.toList)→zz (τ (zx ops ops.toList)).hp→wpList P ops Q (ops.toList.drop (zx ops ops.toList)) a w)
  (hfork:∀ i E a w,zmm ops≤i→i < zx ops ops.toList→Rel E w0 (τ i) a w→FreshI E σ0.cnt i→zz (τ i).hp→wpList P ops Q (zls ops (zx ops ops.toList) i) a w) (hQp:∀ c a w,¬ Q (.panic c) a w) (hQo:¬ LetsOut Q) :
  ∀ (n:Nat) (listed:Array Bool) (S:Nat→Bool) (E:Env) (σ:St) (a:Act) (w:World),listed.size=ops.size→S=(fun j=>listed.getD j false)→left S (zx ops ops.toList)=n→(∀ j,zx ops ops.toList≤j→S j=false)→DC ops S→Inv T ops σ0 r S σ→Rel E w0 σ a w →
   (∀ m,E.φ m≠none→m.1 < σ0.cnt∨(m.1=σ0.cnt∧S m.2.1=true))→zz σ.hp→wpAny P .any ops Q (n+(ops.toList.drop (zx ops ops.toList)).length) listed a w:=by
 have hfs:∀ (l:List Oper),zx ops l≤l.length:=by
  intro l
  induction l with
  | nil=>simp [zx]
  | cons o l ih=>unfold zx;split<;>simp<;>omega
 have hfs:=hfs ops.toList
 simp only [yaz] at hfs
 intro n
 induction n with
 | zero =>
  intro listed S E σ a w hsz hSd hn hlate hDC I R hE hSi
  have hall:=znp hn
  have hS:S=fun j=>decide (j < zx ops ops.toList):=by
   funext j
   by_cases hj:j < zx ops ops.toList
   ·rw [hall j hj];simp [hj]
   ·rw [hlate j (by omega)];simp [hj]
  rw [hS] at I
  obtain ⟨h1,h2,h3⟩:=I.same (H.inv D _ (yz _))
  rw [yaq]
  refine zo6 D hQp hQo _ (zx ops ops.toList) listed a w (fun j=>by simp) (yz _) hsz (fun j hj=>by have:=congrFun hS j;rw [hSd] at this;exact this) ?_
  refine hend E a w (zu8 R h1 h2) (fun m hm=>(hE m hm).imp id fun h=>⟨h.1,?_⟩) (fun n b hb=>hSi n b (by rw [h2];exact hb))
  have:=h.2
  rw [hS] at this
  simpa using this
 | succ n ih =>
  intro listed S E σ a w hsz hSd hn hlate hDC I R hE hSi
  have hfl:∀ j,j < ops.size→listed.getD j true=S j:=fun j hj=>by
   rw [hSd]
   show _=listed.getD j false
   rw [yJ,yJ,yS (by omega)]
   rfl
  have hgf:∀ j,listed.getD j false=S j:=fun j=>by rw [hSd]
  rw [Nat.add_right_comm]
  have key:∀ i o,ops[i]?=some o→S i=false→(∀ e ∈ o.after,Region.binds .any e=true→S e.on=true)→i < zx ops ops.toList →
    (Region.wanted o (yielded ops a.tmps)=true∧o.wp P a w (wpAny P .any ops Q (n+(ops.toList.drop (zx ops ops.toList)).length) (listed.setIfInBounds i true)) Q) ∨
    (Region.wanted o (yielded ops a.tmps)=false∧wpAny P .any ops Q (n+(ops.toList.drop (zx ops ops.toList)).length) (listed.setIfInBounds i true) (a.put o.dst undef) w):=by
   intro i o ho h1 hpre' hif
   have hilt:=(yn.1 ho).1
   obtain ⟨o',ho',hone,_⟩:=H.step i hif
   rw [ho] at ho'
   injection ho' with ho'
   subst ho'
   have Iτ:=H.inv D i (by omega)
   have hsub:∀ j,Nat.testBit (zes ops i) j=true→S j=true:=zhy hDC i o ho hpre'
   have hwr:∀ t j p,ops[j]?=some p→p.dst=some t→(t ∈ o.looksAt ops∨o.dst=some t)→S j=decide (j < i):=by
    intro t j p hp ht hl
    rcases D.tmps i o j p t ho hp ht hl with rfl|hb|hb
    ·rw [h1];simp
    ·rw [hsub j hb]
     have:=zrS D ho hb
     simp [this]
    ·have hij:=zrS D hp hb
     have:S j=false:=by
      cases hj:S j with
      | false=>rfl
      | true =>
       have:=zhy hDC j p hp (hDC j p hp hj) i hb
       rw [h1] at this
       cases this
     rw [this]
     simp
     omega
   have htm:∀ t,t ∈ o.looksAt ops→(τ i).tm[t]?=σ.tm[t]?:=by
    intro t ht
    rw [I.tm,Iτ.tm]
    unfold tmAt
    rw [zkh (S:=S) (S':=fun k=>decide (k < i))]
    intro j hj hd
    rw [ya1] at hd
    obtain ⟨p,hp,hpd⟩:=hd
    exact hwr t j p hp hpd (.inl ht)
   have hL:∀ n b,zoc ops (τ i).cnt (zes ops i) (look (τ i).hp) n=some b→look σ.hp n=some b:=by
    intro n b hb
    unfold zoc at hb
    split at hb
    ·cases hb
    ·rename_i hc
     rw [Iτ.lk] at hb
     rw [I.lk]
     unfold lkAt at hb ⊢
     split
     ·rename_i hnc
      rw [if_pos hnc] at hb
      have hbit:Nat.testBit (zes ops i) n.2.1=true:=by
       cases hx:Nat.testBit (zes ops i) n.2.1 with
       | true=>rfl
       | false=>exact absurd ⟨by rw [Iτ.cnt];exact hnc,.inl hx⟩ hc
      have hcn:cons ops n.2.1=none:=by
       cases hx:cons ops n.2.1 with
       | none=>rfl
       | some j=>exact absurd ⟨by rw [Iτ.cnt];exact hnc,.inr (by rw [hx];rfl)⟩ hc
      have heat:∀ S':Nat→Bool,ziv ops S' n.2.1=false:=fun S'=>by unfold ziv;rw [hcn]
      rw [if_pos ⟨hsub _ hbit,heat _⟩]
      rw [if_pos ⟨by simpa using zrS D ho hbit,heat _⟩] at hb
      exact hb
     ·rename_i hnc
      rw [if_neg hnc] at hb
      exact hb
   have hLe:∀ d,zdd ops o=some d→∀ b,zod (τ i).cnt (zes ops i) (look (τ i).hp) ((τ i).cnt,d,0)=some b→look σ.hp ((τ i).cnt,d,0)=some b:=by
    intro d hd b hb
    obtain ⟨h2,h3,h4,_⟩:=D.eat i o d ho hd
    unfold zod at hb
    split at hb
    ·cases hb
    ·rw [Iτ.lk,Iτ.cnt] at hb
     rw [I.lk,Iτ.cnt]
     unfold lkAt at hb ⊢
     rw [if_pos rfl] at hb ⊢
     rw [if_pos ⟨hsub d h4,by unfold ziv;simp only [h2];exact h1⟩]
     rw [if_pos ⟨by simpa using h3,by unfold ziv;simp only [h2];simp⟩] at hb
     exact hb
   have hnm:=hone.nm
   rw [Iτ.cnt] at hnm
   have I':=I.step ho h1 hnm (fun t j hd hj hdj=>by
    rw [ya1] at hdj
    obtain ⟨p,hp,hpd⟩:=hdj
    have:=hwr t j p hp hpd (.inr hd)
    rw [hj] at this
    simpa using this.symm) (D.hce hDC h1) (zwC D ho Iτ hone)
   have hS':ins S i=fun j=>(listed.setIfInBounds i true).getD j false:=by
    funext j
    unfold ins
    split
    ·rename_i hj
     subst hj
     rw [yJ,yaD (by omega)]
     rfl
    ·rename_i hj
     rw [getD_set_ne false (Ne.symm hj),hgf]
   have hleft:left (ins S i) (zx ops ops.toList)=n:=by
    have:=zuq h1 hif
    omega
   have hlate':∀ j,zx ops ops.toList≤j→ins S i j=false:=fun j hj=>by
    unfold ins
    rw [if_neg (by omega)]
    exact hlate j hj
   have hDC':DC ops (ins S i):=by
    intro k p hp hk e he hb
    unfold ins at hk ⊢
    split
    ·rfl
    ·split at hk
     ·rename_i hki
      subst hki
      rw [ho] at hp
      injection hp with hp
      subst hp
      exact hpre' e he hb
     ·exact hDC k p hp hk e he hb
   have hmono:∀ m,S m=true→ins S i m=true:=fun m hm=>by unfold ins;split<;>first|rfl|exact hm
   have hgo:∀ E' a' w',Rel E' w0 (zgd T ops σ o (r i).1 (r i).2) a' w'→zjx E E' σ0.cnt i→zz (zgd T ops σ o (r i).1 (r i).2).hp→wpAny P .any ops Q (n+(ops.toList.drop (zx ops ops.toList)).length) (listed.setIfInBounds i true) a' w':=fun E' a' w' R' hN hs' =>
    ih _ (ins S i) E' _ a' w' (by simpa using hsz) hS' hleft hlate' hDC' I' R' (fun m hm=>by
     rcases hN m hm with h|⟨h2,h3⟩
     ·exact (hE m h).imp id fun h=>⟨h.1,hmono _ h.2⟩
     ·exact .inr ⟨h2,by unfold ins;rw [if_pos h3]⟩) hs'
   have hfresh:∀ j,E.φ (σ.cnt,i,j)=none:=fun j=>by
    cases hp:E.φ (σ.cnt,i,j) with
    | none=>rfl
    | some x =>
     rcases hE (σ.cnt,i,j) (by rw [hp];exact fun h=>by cases h) with h|⟨_,h⟩
     ·rw [I.cnt] at h;exact absurd h (ybL _)
     ·simp only at h
      rw [h1] at h
      cases h
   rcases hone with ⟨hw,hres⟩|⟨hw,hres⟩
   ·rw [zo4 htm] at hw
    refine .inl ⟨zo5 R hw,?_⟩
    obtain ⟨hst,_⟩:=zsl (σ':=σ) (by rw [I.cnt,Iτ.cnt]) (zy4 htm) hL hLe hres
    exact (zlD hT hF R hfresh hst (fun E' a' w' R' hN=>hgo E' a' w' R' (by rw [← I.cnt];exact hN) (zna hst hSi))).1
   ·rw [zo4 htm] at hw
    refine .inr ⟨zo5 R hw,?_⟩
    have hno:zdd ops o=none:=by
     cases he:zdd ops o with
     | none=>rfl
     | some d =>
      obtain ⟨_,_,_,hg⟩:=zxh he
      simp [ziF,hg] at hw
    rw [hres,zw3 hno] at hgo
    exact hgo E _ w (zu9 R o) (fun m hm=>.inl hm) (by rw [zfd];exact hSi)
  by_cases hqe:∃ q,erlD ops q=true∧S q=false
  ·obtain ⟨q0,he0,hs0⟩:=hqe
   have hpick:∀ n q,zjD ops n q=true→S q=false→∃ q' o',ops[q']?=some o'∧tOp o'=true∧Region.noSelect ops=true∧Region.free .any ops (zlp ops o') q'=true∧S q'=false∧(∀ e ∈ o'.after,Region.binds .any e=true→S e.on=true)∧q'≤q:=by
    intro n
    induction n with
    | zero=>intro q h;cases h
    | succ n ih =>
     intro q h hS
     unfold zjD at h
     split at h
     ·rename_i o ho
      cases ht:tOp o with
      | false=>rw [ht] at h;cases h
      | true =>
      rw [ht] at h
      dsimp only at h
      cases hf:(Region.noSelect ops && Region.free .any ops (zlp ops o) q) with
      | false=>rw [hf] at h;cases h
      | true =>
      rw [hf] at h
      dsimp only at h
      rw [yM] at hf
      by_cases hd:∀ e ∈ o.after,Region.binds .any e=true→S e.on=true
      ·exact ⟨q,o,ho,ht,hf.1,hf.2,hS,hd,yz _⟩
      ·simp only [Classical.not_forall] at hd
       obtain ⟨e,he,hb,hs⟩:=hd
       have h2:=ybQ.1 h e he
       rw [hb] at h2
       dsimp only at h2
       obtain ⟨q',o',g1,g2,g3,g4,g5,g6,g7⟩:=ih e.on h2 (by simpa using hs)
       exact ⟨q',o',g1,g2,g3,g4,g5,g6,by have:=D.edge q o ho e he hb;omega⟩
     ·cases h
   have he1:zjD ops 4 q0=true:=by
    unfold erlD at he0
    cases hm:zxB ops with
    | false =>
     rw [hm,yf] at he0
     cases h2:twoB ops with
     | false=>rw [h2] at he0;cases he0
     | true=>rw [h2] at he0;exact he0
    | true=>rw [hm] at he0;exact he0
   have hq0:∃ o0,ops[q0]?=some o0:=by
    cases h:ops[q0]? with
    | none=>unfold zjD at he1;simp only [h] at he1;cases he1
    | some o0=>exact ⟨o0,rfl⟩
   obtain ⟨o0,ho0⟩:=hq0
   obtain ⟨q,o,ho,htp,hns,hfr,hSq,hpre,hle⟩:=hpick 4 q0 he1 hs0
   have hqf:q < zx ops ops.toList:=by have:=(D.earl q0 o0 ho0 he0).2;omega
   have hqs:q < ops.size:=(yn.1 ho).1
   have hready:(Region.ready .any ops listed).contains q=true:=by
    rw [ya6,mem_ready]
    exact ⟨by rw [hfl q hqs];exact hSq,o,ho,fun e he hb=>by rw [hgf];exact hpre e he hb⟩
   have hg:o.guard=none:=by
    unfold tOp at htp
    simp only [yM,yaM] at htp
    exact htp.2
   have hwant:Region.wanted o (yielded ops a.tmps)=true:=by simp [Region.wanted,hg]
   have hfree:Region.free .any ops listed q=true:=zsw hfr fun j hj=>by
    by_cases hjs:j < ops.size
    ·rw [hfl j hjs]
     rw [znl (by simpa [zlp] using hjs)] at hj
     simp only [zlp,ycb,yb2] at hj
     obtain ⟨e,he,hb⟩:=Array.any_eq_true'.1 hj
     simp only [yM,ybF] at hb
     rw [← hb.2]
     exact hpre e he hb.1
    ·rw [yJ,Array.getElem?_eq_none (by omega)]
     rfl
   rcases key q o ho hSq hpre hqf with ⟨_,hw⟩|⟨hw,_⟩
   ·obtain ⟨v,hrun,hK⟩:=zwK htp hQp hw
    exact wpAny_take ho hns hfree hready (fun c a w hq=>absurd hq (hQp _ _ _)) (.inl ⟨hwant,hrun⟩) hK
   ·rw [hwant] at hw;cases hw
  have hall:∀ q,erlD ops q=true→S q=true:=fun q he=>by
   cases hs:S q with
   | true=>rfl
   | false=>exact absurd ⟨q,he,hs⟩ hqe
  by_cases hq:∃ q,zlw ops=some q∧S q=false∧∀ j,j < zx ops ops.toList→j≠q→S j=true
  ·obtain ⟨q,hlq,hSq,hrest⟩:=hq
   obtain ⟨hqf,hns,hfree,o,ho,hcp⟩:=zqz hlq
   have hqs:q < ops.size:=by omega
   have hpre:∀ e ∈ o.after,Region.binds .any e=true→S e.on=true:=fun e he hb=>by
    have:=D.edge q o ho e he hb
    exact hrest _ (by omega) (by omega)
   have hlist:listed=zqy ops q:=by
    refine Array.ext (by rw [hsz];simp [zqy]) fun j h1 h2=>?_
    have h3:=hgf j
    rw [yJ,yS h1,yaB] at h3
    rw [h3]
    simp only [zqy,ycb,yb2]
    by_cases hj:j < zx ops ops.toList
    ·by_cases hjq:j=q
     ·subst hjq;rw [hSq];simp
     ·rw [hrest j hj hjq];simp [hj,hjq]
    ·rw [hlate j (by omega)];simp [hj]
   have hready:(Region.ready .any ops listed).contains q=true:=by
    rw [ya6,mem_ready]
    exact ⟨by rw [hfl q hqs];exact hSq,o,ho,fun e he hb=>by rw [hgf];exact hpre e he hb⟩
   have hg:o.guard=none:=by
    unfold zkF at hcp
    simp only [yM,yaM] at hcp
    exact hcp.2
   have hwant:Region.wanted o (yielded ops a.tmps)=true:=by simp [Region.wanted,hg]
   rcases key q o ho hSq hpre hqf with ⟨_,hw⟩|⟨hw,_⟩
   ·obtain ⟨_,v,hrun,hK⟩:=zsr hcp hw
    exact wpAny_take ho hns (by rw [hlist];exact hfree) hready (fun c a w hq=>absurd hq (hQp _ _ _)) (.inl ⟨hwant,hrun⟩) hK
   ·rw [hwant] at hw;cases hw
  unfold wpAny
  constructor
  ·intro h0
   exfalso
   obtain ⟨j,hj,hjS,hlow⟩:=zpl (S:=S) (n:=zx ops ops.toList) (by omega)
   obtain ⟨o,ho,_⟩:=H.step j hj
   have:j ∈ Region.ready .any ops listed:=mem_ready.2 ⟨by rw [hfl j (by omega)];exact hjS,o,ho,fun e he hb=>by rw [hgf];exact hlow _ (D.edge j o ho e he hb)⟩
   rw [h0] at this
   cases this
  ·intro i hi
   obtain ⟨h1,o,ho,hpre⟩:=mem_ready.1 hi
   have hilt:=(yn.1 ho).1
   rw [hfl i hilt] at h1
   have hpre':∀ e ∈ o.after,Region.binds .any e=true→S e.on=true:=fun e he hb=>by rw [← hgf];exact hpre e he hb
   by_cases hif:i < zx ops ops.toList
   ·unfold wpOp
    simp only [ho]
    rcases key i o ho h1 hpre' hif with ⟨hw,h⟩|⟨hw,h⟩
    ·rw [if_pos hw];exact .inl h
    ·rw [if_neg (by rw [hw];simp)];exact h
   ·have h:=ya0.1 hif
    obtain ⟨j,hj,hjS,hlow⟩:=zpl (S:=S) (n:=zx ops ops.toList) (by omega)
    rcases D.tail i o ho h j (by omega) with hb|hb|⟨hif',hpj,hnone⟩|hb|⟨hb,_⟩
    ·exfalso
     have:=zhy hDC i o ho hpre' j hb
     rw [hjS] at this
     cases this
    ·exfalso
     refine hq ⟨j,hb,hjS,fun k hk hkj=>?_⟩
     rcases D.tail i o ho h k (by omega) with hb'|hb'|hb'|hb'|⟨hb',_⟩
     ·exact zhy hDC i o ho hpre' k hb'
     ·rw [hb] at hb';exact absurd (ybU hb').symm hkj
     ·rw [hb] at hb';cases hb'.2.2
     ·exact hall k hb'
     ·omega
    ·have hup:∀ m k,k=j+m→k < zx ops ops.toList→S k=false:=by
      intro m
      induction m with
      | zero=>intro k hk _;rw [hk];exact hjS
      | succ m ihm =>
       intro k hk hkf
       cases hSk:S k with
       | false=>rfl
       | true =>
        have hp:ops[k]?=some ops[k]:=yS (by omega)
        have:=zhy hDC k _ hp (hDC k _ hp hSk) (k - 1) (D.chain k _ hp (by omega) hkf)
        rw [ihm (k - 1) (by omega) (by omega)] at this
        cases this
     have hS:S=fun k=>decide (k < j):=by
      funext k
      by_cases hk:k < j
      ·rw [hlow k hk];simp [hk]
      ·by_cases hkf:k < zx ops ops.toList
       ·rw [hup (k - j) k (by omega) hkf];simp [hk]
       ·rw [hlate k (by omega)];simp [hk]
     have I':=I
     rw [hS] at I'
     obtain ⟨g1,g2,g3⟩:=I'.same (H.inv D j (by omega))
     have wl:=hfork j E a w hpj hj (zu8 R g1 g2) (fun m hm=>(hE m hm).imp id fun h=>⟨h.1,by
      have:=h.2
      rw [hS] at this
      simpa using this⟩) (fun n b hb=>hSi n b (by rw [g2];exact hb))
     have hlf:n+1=zx ops ops.toList - j:=by
      rw [← hn,hS,zqB]
     have hof:ops.toList.drop (zx ops ops.toList)=o::ops.toList.drop (zx ops ops.toList+1):=by
      rw [yba (by simp;omega)]
      congr 1
      have:ops.toList[zx ops ops.toList]?=some o:=by rw [← hif'];simpa using ho
      rw [yb (by simp;omega)] at this
      exact ybU this
     have hlen:n+(ops.toList.drop (zx ops ops.toList)).length=((ops.toList.drop j).take (zx ops ops.toList - j)++ops.toList.drop (zx ops ops.toList+1)).length:=by
      simp only [yO,yX,yam,yaz]
      omega
     have hnext:∀ a' w',wpList P ops Q ((ops.toList.drop j).take (zx ops ops.toList - j)++ops.toList.drop (zx ops ops.toList+1)) a' w'→wpAny P .any ops Q (n+(ops.toList.drop (zx ops ops.toList)).length) (listed.setIfInBounds i true) a' w':=fun a' w' h'=>by
      rw [hlen]
      refine zvm D hQp hQo hnone rfl (by omega) (q0:=j) (fun p hp e he hb=>?_) hpj _ j _ a' w' (by omega) (yz _) (by simpa using hsz) (fun k hk=>?_) h'
      ·rw [← hif',ho] at hp
       injection hp with hp
       subst hp
       have:=hpre' e he hb
       rw [hS] at this
       simpa using this
      ·by_cases hki:k=i
       ·subst hki
        rw [yJ,yaD (by omega)]
        simp [hif']
       ·rw [getD_set_ne false (Ne.symm hki),hgf,hS]
        simp only [ybh]
        omega
     unfold zls at wl
     rw [hof,ybm,ycr,List.singleton_append] at wl
     unfold wpList at wl
     unfold wpOp
     simp only [ho]
     split
     ·rename_i hw
      rw [if_pos hw] at wl
      exact wl.imp (Oper.wp_mono hnext) id
     ·rename_i hw
      rw [if_neg hw] at wl
      exact hnext _ _ wl
    ·exfalso
     have:=hall j hb
     rw [hjS] at this
     cases this
    ·omega
structure PermOk (ops:Array Oper) (p:List Nat):Prop where
 len:p.length=ops.size
 pos:∀ i,i < ops.size→posL p i 0 < ops.size∧p.getD (posL p i 0) 0=i
 get:∀ k,k < ops.size→p.getD k 0 < ops.size∧posL p (p.getD k 0) 0=k
 opr:∀ (i:Nat) o,ops[i]?=some o→o.guard=none∧∀ e ∈ o.after,e.on < ops.size
theorem zxT {ops:Array Oper} {p:List Nat} (h:ztC ops p=true):PermOk ops p:=by
 unfold ztC at h
 simp only [yM,ye,yR,ycq,yaM] at h
 obtain ⟨h1,h2,h3⟩:=h
 refine ⟨h1,fun i hi=>⟨(h2 i hi).1.1.1,(h2 i hi).1.1.2⟩,fun k hk=>⟨(h2 k hk).1.2,(h2 k hk).2⟩,fun i o ho=>?_⟩
 have hm:o ∈ ops.toList:=by
  rw [ybz]
  exact Array.mem_of_getElem? ho
 exact ⟨(h3 o hm).1,fun e he=>(h3 o hm).2 e (ybz.2 he)⟩
theorem zrf {ops:Array Oper} {p:List Nat} (h:PermOk ops p):(zko ops p).size=ops.size:=by
 unfold zko
 split
 ·rename_i he
  have:ops.size=0:=by rw [← yaz,he];rfl
  simp [this]
 ·simp [h.len]
theorem znS {ops:Array Oper} {p:List Nat} (h:PermOk ops p) {k:Nat} (hk:k < ops.size):∃ o,ops[p.getD k 0]?=some o∧(zko ops p)[k]?=some (reO p o):=by
 have hp:=(h.get k hk).1
 refine ⟨ops[p.getD k 0],yS hp,?_⟩
 have hkl:k < p.length:=by rw [h.len];exact hk
 have e:p.getD k 0=p[k]:=by rw [yar,yb hkl];rfl
 unfold zko
 split
 ·rename_i he
  have:ops.size=0:=by rw [← yaz,he];rfl
  omega
 ·rename_i o0 t he
  simp only [yaV,yl,yb hkl,yk,yd]
  congr 1
  have hp':p[k] < ops.size:=by rw [← e];exact hp
  rw [yar,Array.getElem?_toList,yS hp',yaB]
  simp only [e]
theorem zDx {P:Program} {p:List Nat} {o:Oper} {a:Act} {w:World} {K:Act→World→Prop} {Q:Exit→Act→World→Prop} (h:(reO p o).wp P a w K Q):o.wp P a w K Q:=h
theorem zfB {l:Array Bool} {i:Nat} {d:Bool} (h:i < l.size):l.getD i d=l[i]:=by
 rw [yJ,yS h];rfl
theorem zyj {P:Program} {Q:Exit→Act→World→Prop} {ops:Array Oper} {p:List Nat} (h:PermOk ops p):∀ (fuel:Nat) (L L':Array Bool) (a:Act) (w:World),L.size=ops.size→L'.size=ops.size→(∀ i,i < ops.size→L.getD i true=L'.getD (posL p i 0) true) →
  wpAny P .any (zko ops p) Q fuel L' a w→wpAny P .any ops Q fuel L a w:=by
 have hf:∀ (L L':Array Bool),L.size=ops.size→L'.size=ops.size→(∀ i,i < ops.size→L.getD i true=L'.getD (posL p i 0) true)→∀ i,i < ops.size→L.getD i false=L'.getD (posL p i 0) false:=fun L L' h1 h2 h3 i hi=>by
  have h4:=(h.pos i hi).1
  have:=h3 i hi
  rw [zfB (by omega),zfB (by omega)] at this ⊢
  exact this
 have hto:∀ (L L':Array Bool),L.size=ops.size→L'.size=ops.size→(∀ i,i < ops.size→L.getD i true=L'.getD (posL p i 0) true)→∀ i,i ∈ Region.ready .any ops L→i < ops.size∧posL p i 0 ∈ Region.ready .any (zko ops p) L':=fun L L' h1 h2 h3 i hi=>by
  obtain ⟨g1,o,ho,g2⟩:=mem_ready.1 hi
  have hlt:=(yn.1 ho).1
  refine ⟨hlt,mem_ready.2 ⟨by rw [← h3 i hlt];exact g1,?_⟩⟩
  obtain ⟨o',ho',hs⟩:=znS h (h.pos i hlt).1
  rw [(h.pos i hlt).2,ho] at ho'
  injection ho' with ho'
  subst ho'
  refine ⟨_,hs,fun e he hb=>?_⟩
  obtain ⟨e0,he0,rfl⟩:=Array.mem_map.1 he
  have hon:=(h.opr i o ho).2 e0 he0
  rw [← hf L L' h1 h2 h3 e0.on hon]
  exact g2 e0 he0 hb
 have hfrom:∀ (L L':Array Bool),L.size=ops.size→L'.size=ops.size→(∀ i,i < ops.size→L.getD i true=L'.getD (posL p i 0) true)→∀ k,k ∈ Region.ready .any (zko ops p) L'→p.getD k 0 ∈ Region.ready .any ops L:=fun L L' h1 h2 h3 k hk=>by
  obtain ⟨g1,o',ho',g2⟩:=mem_ready.1 hk
  have hlt:k < ops.size:=by have:=(yn.1 ho').1;rw [zrf h] at this;exact this
  obtain ⟨o,ho,hs⟩:=znS h hlt
  rw [hs] at ho'
  injection ho' with ho'
  subst ho'
  have hp:=h.get k hlt
  refine mem_ready.2 ⟨by rw [h3 _ hp.1,hp.2];exact g1,o,ho,fun e he hb=>?_⟩
  have hon:=(h.opr _ o ho).2 e he
  rw [hf L L' h1 h2 h3 e.on hon]
  exact g2 { e with on:=posL p e.on 0 } (Array.mem_map.2 ⟨e,he,rfl⟩) hb
 intro fuel
 induction fuel with
 | zero =>
  intro L L' a w h1 h2 h3 H
  refine ⟨?_,H.2⟩
  rw [ybu]
  intro i hi
  have:=(hto L L' h1 h2 h3 i hi).2
  rw [H.1] at this
  cases this
 | succ fuel ih =>
  intro L L' a w h1 h2 h3 H
  refine ⟨fun h0=>H.1 ?_,fun i hi=>?_⟩
  ·rw [ybu]
   intro k hk
   have:=hfrom L L' h1 h2 h3 k hk
   rw [h0] at this
   cases this
  ·obtain ⟨hlt,hr⟩:=hto L L' h1 h2 h3 i hi
   have hw:=H.2 _ hr
   obtain ⟨o',ho',hs⟩:=znS h (h.pos i hlt).1
   rw [(h.pos i hlt).2] at ho'
   have hK:∀ a' w',wpAny P .any (zko ops p) Q fuel (L'.setIfInBounds (posL p i 0) true) a' w'→wpAny P .any ops Q fuel (L.setIfInBounds i true) a' w':=fun a' w'=>ih _ _ a' w' (by simpa using h1) (by simpa using h2) (fun j hj=>by
    have hj1:=(h.pos j hj).1
    have hi1:=(h.pos i hlt).1
    rw [zfB (by simpa using (by omega:j < L.size)),zfB (by simpa using (by omega:posL p j 0 < L'.size)),yb9,yb9]
    by_cases hij:i=j
    ·subst hij
     rw [if_pos rfl,if_pos rfl]
    ·have:posL p i 0≠posL p j 0:=fun e=>hij (by rw [← (h.pos i hlt).2,e,(h.pos j hj).2])
     rw [if_neg hij,if_neg this]
     have:=h3 j hj
     rw [zfB (by omega),zfB (by omega)] at this
     exact this)
   unfold wpOp at hw ⊢
   simp only [hs] at hw
   simp only [ho']
   have hg:o'.guard=none:=(h.opr _ o' ho').1
   have hwant:Region.wanted o' (yielded ops a.tmps)=true:=by simp [Region.wanted,hg]
   have hwant':Region.wanted (reO p o') (yielded (zko ops p) a.tmps)=true:=by simp [Region.wanted,reO,hg]
   rw [if_pos hwant'] at hw
   rw [if_pos hwant]
   rcases hw with hw|⟨hw1,hw2⟩
   ·exact .inl (Oper.wp_mono hK (zDx hw))
   ·exact .inr ⟨hw1,hw2⟩
theorem zmG {P:Program} {Q:Exit→Act→World→Prop} {ops:Array Oper} {p:List Nat} {a:Act} {w:World} (h:wpAny P .any (zmF ops p) Q (zmF ops p).size (Array.replicate (zmF ops p).size false) a w):wpAny P .any ops Q ops.size (Array.replicate ops.size false) a w:=by
 unfold zmF at h
 cases hb:ztC ops p with
 | false=>rw [hb] at h;exact h
 | true =>
  rw [hb] at h
  simp only [yg] at h
  have hp:=zxT hb
  rw [zrf hp] at h
  refine zyj hp _ _ _ _ _ (by simp) (by simp) (fun i hi=>?_) h
  have:=(hp.pos i hi).1
  rw [zfB (by simpa using hi),zfB (by simpa using this)]
  simp
theorem zx6 {P:Program} {Q:Exit→Act→World→Prop} {ops:Array Oper} {a:Act} {w:World} (h:wpAny P .any (zre ops) Q (zre ops).size (Array.replicate (zre ops).size false) a w):wpAny P .any ops Q ops.size (Array.replicate ops.size false) a w:=by
 unfold zre zBm at h
 cases hm:zxA (zrg ops ops.toList 0) with
 | true=>rw [hm] at h;exact zmG h
 | false =>
  rw [hm] at h
  dsimp only at h
  revert h
  generalize ((List.range ops.size).all _)=b
  intro h
  cases b with
  | true=>exact h
  | false=>exact zmG h
theorem zx5 {P:Program} {Q:Exit→Act→World→Prop} {ops:Array Oper} {a:Act} {w:World} (h:wpAny P .any (zrd ops) Q (zrd ops).size (Array.replicate (zrd ops).size false) a w):wpAny P .any ops Q ops.size (Array.replicate ops.size false) a w:=by
 unfold zrd zzT at h
 cases hb:Nat.blt (zx ops ops.toList) ops.size with
 | false=>rw [hb] at h;exact h
 | true =>
  rw [hb] at h
  simp only [yg] at h
  generalize zy0 _ _ _=p at h
  unfold zzU at h
  cases hp:p == List.range ops.size with
  | true=>rw [hp] at h;exact h
  | false=>rw [hp] at h;exact zmG h
theorem zx7 {P:Program} {Q:Exit→Act→World→Prop} {ops:Array Oper} {a:Act} {w:World} (h:wpAny P .any (zok ops) Q (zok ops).size (Array.replicate (zok ops).size false) a w):wpAny P .any ops Q ops.size (Array.replicate ops.size false) a w:=zx6 (zx5 h)
def zqf (ops:Array Oper):Bool:=zrC (zok ops)
theorem zk2 (hm:P.follows .mixedOrders=true) (hT:∀ t ti,T t=some ti→ttOf P t=some ti) {w0:Bs} (hF:zay P F w0):zkr P T F zqf w0:=by
 intro ops hok id E σ a w β k y Q0 R hfr hSi h hQ0
 refine Code.wp_mono (fun e a' w' (q:e=.normal∧Q0 .normal a' w')=>by rw [q.1];exact q.2) ?_
 generalize hQd:(fun (e:Exit) (a':Act) (w':World)=>e=.normal∧Q0 .normal a' w')=Q
 have hQ:∀ w1,Le w0 w1→∀ E' σ' a' w',Rel E' w1 σ' a' w'→ziW E' (σ.cnt+1)→zz σ'.hp→σ'.cnt=σ.cnt→k σ'=some y→Q .normal a' w':=fun w1 hx E' σ' a' w' h1 h2 h3 h4 h5=>by rw [← hQd];exact ⟨rfl,hQ0 w1 hx E' σ' a' w' h1 h2 h3 h4 h5⟩
 have hQp:∀ c a w,¬ Q (.panic c) a w:=fun c a w hq=>by rw [← hQd] at hq;cases hq.1
 have R1:Rel E w0 σ a { w with drawn:=w.drawn+1 }:=zCk R ⟨rfl,rfl,rfl,yz _,fun _ _=>rfl⟩
 unfold zqf at hok
 unfold zw0 at h
 have D:=zvC hok
 unfold zyt zyu at h
 refine wp_region_any hm (zx7 ?_)
 generalize zok ops=ops at h D
 clear hok
 obtain ⟨r,τ,h0,h1,h2,h3⟩:=zsk ops.toList 0 σ (fun j=>by simp) h
 simp only [yaq] at h1 h2 h3
 rw [zBI] at h3
 have hlook:∀ n,n.1=σ.cnt→look σ.hp n=none:=fun n hn=>by
  cases hl:look σ.hp n with
  | none=>rfl
  | some b =>
   exfalso
   have:=hfr n (by rcases R.blk n b hl with ⟨h,_⟩|⟨g,cur,fz,h,_⟩<;>rw [h]<;>exact fun h=>by cases h)
   omega
 have H:Run ops T F σ r τ:=⟨h0,fun j hj=>h1 j (yav _) hj,hlook⟩
 have hsz:ops.size=zx ops ops.toList+(ops.toList.drop (zx ops ops.toList)).length:=by
  have hfs:∀ (l:List Oper),zx ops l≤l.length:=by
   intro l
   induction l with
   | nil=>simp [zx]
   | cons o l ih=>unfold zx;split<;>simp<;>omega
  have:=hfs ops.toList
  simp only [yaz,yam] at this ⊢
  omega
 have hgd:∀ j,(Array.replicate ops.size false).getD j false=false:=fun j=>by
  rw [yJ,ybD]
  split<;>rfl
 have hend:∀ E' a' w',Rel E' w0 (τ (zx ops ops.toList)) a' w'→FreshI E' σ.cnt (zx ops ops.toList)→zz (τ (zx ops ops.toList)).hp→wpList P ops Q (ops.toList.drop (zx ops ops.toList)) a' w':=fun E' a' w' R' hf' hs'=>zeK hT _ w0 hF hQ _ E' _ a' w' R' hf' hs' (H.inv D _ (yz _)).cnt h2
 have hfork:∀ i E' a' w',zmm ops≤i→i < zx ops ops.toList→Rel E' w0 (τ i) a' w'→FreshI E' σ.cnt i→zz (τ i).hp→wpList P ops Q (zls ops (zx ops ops.toList) i) a' w':=fun i E' a' w' hi1 hi2 R' hf' hs'=>zeK hT _ w0 hF hQ _ E' _ a' w' R' hf' hs' (H.inv D _ (by omega)).cnt (h3 i (yav _) hi2 hi1)
 have:=zwg (Q:=Q) (w0:=w0) D hT hF H hend hfork hQp (fun ⟨a,w,hq⟩=>by rw [← hQd] at hq;cases hq.1) (zx ops ops.toList) (Array.replicate ops.size false) (fun _=>false) E σ a { w with drawn:=w.drawn+1 } (by simp) (by funext j;rw [hgd]) (zsD _) (fun _ _=>rfl) (fun _ _ _ h=>by cases h) (by
   have:=H.inv D 0 (yav _)
   rw [h0] at this
   have he:(fun k=>decide (k < 0))=fun _:Nat=>false:=by funext k;simp
   rw [he] at this
   exact this) R1 (fun m hm'=>.inl (hfr m hm')) hSi
 rw [← hsz] at this
 exact this
end
end Go.Proofs.YtflhdodikmmdcaaGreat
namespace Go.Proofs.YtflhdodikmmdcaaGreat
open Go.RowKit
set_option linter.unusedVariables false
set_option linter.unusedSimpArgs false
set_option linter.unusedSectionVars false
def RdL (w:World) (cs:List Value) (ds:List DT):Prop:=cs.length=ds.length∧∀ (j:Nat) d u,ds[j]?=some d→cs[j]?=some u→Rd (Lt w) w u d
def Enc {α:Type} (S:Shape α) (e:α→List DT):Prop:=∀ w cs x,S.rd w cs x→RdL w cs (e x)
theorem RdL.one {w:World} {v:Value} {d:DT} (h:Rd (Lt w) w v d):RdL w [v] [d]:=by
 refine ⟨rfl,fun j d' u hd hu=>?_⟩
 cases j with
 | zero=>simp at hd hu;subst hd;subst hu;exact h
 | succ j=>simp at hd
theorem RdL.app {w:World} {c1 c2:List Value} {d1 d2:List DT} (h1:RdL w c1 d1) (h2:RdL w c2 d2):RdL w (c1++c2) (d1++d2):=by
 refine ⟨by rw [yO,yO,h1.1,h2.1],fun j d u hd hu=>?_⟩
 by_cases hj:j < d1.length
 ·rw [yA hj] at hd
  rw [yA (by rw [h1.1];exact hj)] at hu
  exact h1.2 j d u hd hu
 ·rw [yw (by omega)] at hd
  rw [yw (by rw [h1.1];omega),h1.1] at hu
  exact h2.2 _ d u hd hu
theorem zq1 (R:Nat→Prop) (w:World) (v:Value):Rd R w v (.at v):=⟨0,by unfold RdN;rfl⟩
def eI (n:Int):List DT:=[.at (.int .i64 n)]
def eB (b:Bool):List DT:=[.at (.bool b)]
def eS (s:ByteArray):List DT:=[.at (.string s)]
def eY (b:UInt8):List DT:=[.at (.int .u8 b.toNat)]
theorem Enc.int:Enc Shape.int eI:=fun w cs x h=>by
 obtain ⟨rfl,_⟩:=h
 exact RdL.one (zq1 _ _ _)
theorem Enc.bool:Enc Shape.bool eB:=fun w cs x h=>by
 obtain ⟨rfl,_⟩:=h
 exact RdL.one (zq1 _ _ _)
theorem Enc.str:Enc Shape.str eS:=fun w cs x h=>by
 obtain ⟨rfl,_⟩:=h
 exact RdL.one (zq1 _ _ _)
theorem Enc.byte:Enc Shape.byte eY:=fun w cs x h=>by
 obtain ⟨rfl,_⟩:=h
 exact RdL.one (zq1 _ _ _)
theorem Enc.pair {α β:Type} {S:Shape α} {T:Shape β} {e:α→List DT} {f:β→List DT} (h1:Enc S e) (h2:Enc T f):Enc (S.pair T) (fun x=>e x.1++f x.2):=fun w cs x h=>by
 obtain ⟨c1,c2,rfl,r1,r2⟩:=h
 exact (h1 w c1 _ r1).app (h2 w c2 _ r2)
theorem Enc.via {α β:Type} {S:Shape α} {e:α→List DT} (h:Enc S e) (f:β→α):Enc (S.via f) (fun y=>e (f y)):=fun w cs x hr=>h w cs (f x) hr
theorem Enc.sl {α:Type} {S:Shape α} {e:α→List DT} (t:Nat) (h:Enc S e) (h0:0 < S.k):Enc (Shape.sl t S) (fun l=>[.sl t S.k (l.map e)]):=fun w cs l hr=>by
 obtain ⟨A,c,rfl,h1,h2,h3⟩:=hr
 have hm:(l.map e).length=l.length:=yN _
 refine RdL.one ?_
 rw [← hm]
 refine Rd.sl (by rw [hm];exact h1) h2 fun i es hi=>?_
 rw [yl] at hi
 cases hx:l[i]? with
 | none=>simp [hx] at hi
 | some x =>
  simp only [hx,yk,yd] at hi
  subst hi
  have hlt:i < l.length:=(yc.1 hx).1
  have hxe:l[i]=x:=(yc.1 hx).2
  obtain ⟨b,off,hA,hall⟩:=h3 (by omega)
  obtain ⟨cs,hc,hrd⟩:=hall i hlt
  rw [hxe] at hrd
  obtain ⟨hl,hj⟩:=h w cs x hrd
  have hk:=S.len hrd
  have hb:∀ (j:Nat) u,cs[j]?=some u→w.cell? ⟨b,off+i*S.k+j,none⟩=some u:=fun j u hu=>hc j u hu
  refine ⟨by omega,b,off,hA,?_,fun j d hd=>?_⟩
  ·have:cs[0]?=some (cs[0]'(by omega)):=yb (by omega)
   exact World.block_lt_of_cell? _ _ (hb 0 _ this)
  ·have hjl:j < cs.length:=by rw [hl];exact (yc.1 hd).1
   have hu:cs[j]?=some cs[j]:=yb hjl
   exact ⟨_,hb j _ hu,hj j d _ hd hu⟩
theorem zyw {w:World} {cs:List Value} {ds:List DT} (h:RdL w cs ds):ArgRd (Lt w) w (.a ds) (.agg cs.toArray):=⟨cs,rfl,h.1,h.2⟩
theorem zyx {w:World} {v:Value} {d:DT} (h:RdL w [v] [d]):ArgRd (Lt w) w (.v d) v:=h.2 0 d v rfl rfl
theorem ztT {w:World} {v:Value}:ArgRd (Lt w) w (.v (.at v)) v:=zq1 _ _ _
theorem zaN {α:Type} {e:α→List DT} (he:∀ x y,e x=e y→x=y):∀ {a b:List α},a.map e=b.map e→a=b
 | [],[],_=>rfl
 | [],y::b,h=>by simp at h
 | x::a,[],h=>by simp at h
 | x::a,y::b,h=>by
  simp only [yaQ,yab] at h
  rw [he x y h.1,zaN he h.2]
theorem zgY (x y:ByteArray) (h:eS x=eS y):x=y:=by simpa [eS] using h
end Go.Proofs.YtflhdodikmmdcaaGreat
