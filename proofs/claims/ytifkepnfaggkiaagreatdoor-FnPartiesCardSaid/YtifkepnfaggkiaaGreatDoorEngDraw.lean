import Derived.Test.YtifkepnfaggkiaaGreatDoorEngMono
import Derived.Orders
import Derived.OrdersHeld
namespace Go.Proofs.YtifkepnfaggkiaaGreatDoor
open Go.RowKit
set_option linter.unusedVariables false
set_option linter.unusedSimpArgs false
set_option linter.unusedSectionVars false
theorem znS (ms:List Nat) (j:Nat):∀ (l:List Edge) (s:Nat),Nat.testBit (l.foldl (fun s e=>if Region.binds .any e then s ||| 2 ^ e.on ||| ms.getD e.on 0 else s) s) j=true→Nat.testBit s j=true∨∃ e ∈ l,Region.binds .any e=true∧(j=e.on∨Nat.testBit (ms.getD e.on 0) j=true)
 | [],s,h=>.inl h
 | e::l,s,h=>by
  rw [List.foldl_cons] at h
  rcases znS ms j l _ h with h|⟨e',he',hb⟩
  ·split at h
   ·rename_i hb
    rw [Nat.testBit_or,Nat.testBit_or,Bool.or_eq_true,Bool.or_eq_true,Nat.testBit_two_pow] at h
    rcases h with (h|h)|h
    ·exact .inl h
    ·exact .inr ⟨e,by simp,hb,.inl (of_decide_eq_true h).symm⟩
    ·exact .inr ⟨e,by simp,hb,.inr h⟩
   ·exact .inl h
  ·exact .inr ⟨e',by simp [he'],hb⟩
theorem zxi {ms:List Nat} {o:Oper} {j:Nat} (h:Nat.testBit (ziU ms o) j=true):∃ e ∈ o.after,Region.binds .any e=true∧(j=e.on∨Nat.testBit (ms.getD e.on 0) j=true):=by
 rcases znS ms j _ _ h with h|⟨e,he,hb⟩
 ·simp at h
 ·exact ⟨e,by simpa using he,hb⟩
theorem zpH:∀ (l:List Oper) (ms:List Nat),∃ r,zdl l ms=ms++r
 | [],ms=>⟨[],by simp [zdl]⟩
 | o::l,ms=>by
  obtain ⟨r,hr⟩:=zpH l (ms++[ziU ms o])
  exact ⟨ziU ms o::r,by rw [zdl,hr];simp⟩
theorem zpG:∀ (l:List Oper) (ms:List Nat) (i:Nat) (o:Oper),l[i]?=some o→(zdl l ms).getD (ms.length+i) 0=ziU ((zdl l ms).take (ms.length+i)) o
 | [],ms,i,o,h=>by simp at h
 | p::l,ms,0,o,h=>by
  simp only [List.getElem?_cons_zero,Option.some.injEq] at h
  subst h
  obtain ⟨r,hr⟩:=zpH l (ms++[ziU ms p])
  rw [zdl,hr]
  simp
 | p::l,ms,i+1,o,h=>by
  have:=zpG l (ms++[ziU ms p]) i o (by simpa using h)
  simp only [List.length_append,List.length_cons,List.length_nil] at this
  rw [zdl]
  rw [show ms.length+(i+1)=ms.length+(0+1)+i by omega]
  exact this
section
variable {ops:Array Oper}
abbrev zc2 (ops:Array Oper) (i:Nat):Nat:=(zdl ops.toList []).getD i 0
theorem zux {i j:Nat} {o:Oper} (ho:ops[i]?=some o) (h:Nat.testBit (zc2 ops i) j=true):∃ e ∈ o.after,Region.binds .any e=true∧(j=e.on∨(e.on < i∧Nat.testBit (zc2 ops e.on) j=true)):=by
 have h1:=zpG ops.toList [] i o (by simpa using ho)
 simp only [List.length_nil,Nat.zero_add] at h1
 unfold zc2 at h
 rw [h1] at h
 obtain ⟨e,he,hb,hj⟩:=zxi h
 refine ⟨e,he,hb,hj.imp id fun hj=>?_⟩
 by_cases hlt:e.on < i
 ·refine ⟨hlt,?_⟩
  rw [List.getD_eq_getElem?_getD,List.getElem?_take_of_lt hlt,← List.getD_eq_getElem?_getD] at hj
  exact hj
 ·rw [List.getD_eq_getElem?_getD,List.getElem?_take_eq_none (by omega)] at hj
  simp at hj
def DC (ops:Array Oper) (S:Nat→Bool):Prop:=∀ k o,ops[k]?=some o→S k=true→∀ e ∈ o.after,Region.binds .any e=true→S e.on=true
theorem zfJ {S:Nat→Bool} (hS:DC ops S):∀ (i:Nat) (o:Oper),ops[i]?=some o→(∀ e ∈ o.after,Region.binds .any e=true→S e.on=true)→∀ j,Nat.testBit (zc2 ops i) j=true→S j=true:=by
 intro i
 induction i using Nat.strongRecOn with
 | _ i ih =>
  intro o ho he j hj
  obtain ⟨e,hm,hb,hj⟩:=zux ho hj
  have hSe:=he e hm hb
  rcases hj with rfl|⟨hlt,hj⟩
  ·exact hSe
  ·cases hp:ops[e.on]? with
   | none =>
    exfalso
    have hn:(zdl ops.toList []).length≤e.on:=by
     have:∀ (l:List Oper) (ms:List Nat),(zdl l ms).length=ms.length+l.length:=by
      intro l
      induction l with
      | nil=>intro ms;simp [zdl]
      | cons o l ih=>intro ms;rw [zdl,ih];simp;omega
     rw [this]
     simpa using hp
    unfold zc2 at hj
    rw [List.getD_eq_getElem?_getD,List.getElem?_eq_none hn] at hj
    simp at hj
   | some p=>exact ih e.on hlt p hp (hS e.on p hp hSe) j hj
def zn1 (ops:Array Oper) (q:Nat):Array Bool:=(Array.range ops.size).map fun j=>decide (j < zn ops ops.toList∧j≠q)
def zya (ops:Array Oper) (q:Nat):Bool:=Region.noSelect ops && Region.free .any ops (zn1 ops q) q && match ops[q]? with
 | some o=>zis o
 | none=>false
def zjy (ops:Array Oper):Option Nat:=(List.range (zn ops ops.toList)).find? fun q=>!erl ops q && (List.range ops.size).any (fun i=>decide (zn ops ops.toList≤i) && !Nat.testBit ((zdl ops.toList []).getD i 0) q) && zya ops q
def frT (ops:Array Oper) (i:Nat):Bool:=match ops[i]? with
 | some o=>tOp o && (Region.noSelect ops && Region.free .any ops (zgr ops o) i)
 | none=>false
def zoA (ops:Array Oper):Bool :=
 let M:=zdl ops.toList []
 let f:=zn ops ops.toList
 ops.toList.zipIdx.all fun (o,i) =>
  (o.after.all fun e=>!Region.binds .any e || decide (e.on < i)) &&
  (match zcf ops o with|some d=>cons ops d == some i && (decide (d < i) && (Nat.testBit (M.getD i 0) d && o.guard.isNone))|none=>true) &&
  (decide (i < f) || (List.range i).all fun j=>Nat.testBit (M.getD i 0) j || (zjy ops == some j || (decide (i=f∧(zkh ops M).1≤j∧zjy ops=none) || (erl ops j || (decide (f≤j) && frT ops j))))) &&
  (!erl ops i || decide (i < (zkh ops M).1∧i < f)) &&
  (decide (i≤(zkh ops M).1) || decide (f≤i) || Nat.testBit (M.getD i 0) (i - 1)) &&
  ops.toList.zipIdx.all fun (p,j)=>match p.dst with
   | none=>true
   | some t=>!((o.looksAt ops).contains t || o.dst == some t) || j == i || Nat.testBit (M.getD i 0) j || Nat.testBit (M.getD j 0) i
abbrev zkm (ops:Array Oper):Nat:=(zkh ops (zdl ops.toList [])).1
structure ze4 (ops:Array Oper):Prop where
 eat:∀ i o d,ops[i]?=some o→zcf ops o=some d→cons ops d=some i∧d < i∧Nat.testBit (zc2 ops i) d=true∧o.guard=none
 edge:∀ i o,ops[i]?=some o→∀ e ∈ o.after,Region.binds .any e=true→e.on < i
 tail:∀ i o,ops[i]?=some o→zn ops ops.toList≤i→∀ j,j < i→Nat.testBit (zc2 ops i) j=true∨zjy ops=some j∨(i=zn ops ops.toList∧zkm ops≤j∧zjy ops=none)∨erl ops j=true∨(zn ops ops.toList≤j∧frT ops j=true)
 earl:∀ i o,ops[i]?=some o→erl ops i=true→i < zkm ops∧i < zn ops ops.toList
 chain:∀ i o,ops[i]?=some o→zkm ops < i→i < zn ops ops.toList→Nat.testBit (zc2 ops i) (i - 1)=true
 tmps:∀ i o j p t,ops[i]?=some o→ops[j]?=some p→p.dst=some t→(t ∈ o.looksAt ops∨o.dst=some t)→j=i∨Nat.testBit (zc2 ops i) j=true∨Nat.testBit (zc2 ops j) i=true
theorem zsy (h:zoA ops=true):ze4 ops:=by
 unfold zoA at h
 simp only [List.all_eq_true] at h
 have hm:∀ i o,ops[i]?=some o→(o,i) ∈ ops.toList.zipIdx:=fun i o ho=>by
  rw [List.mem_zipIdx_iff_getElem?]
  simpa using ho
 refine ⟨fun i o d ho he=>?_,fun i o ho e he hb=>?_,fun i o ho hf j hj=>?_,fun i o ho he=>?_,fun i o ho hf1 hf2=>?_,fun i o j p t ho hp ht hl=>?_⟩
 ·have:=h _ (hm i o ho)
  simp only [Bool.and_eq_true] at this
  have h2:=this.1.1.1.1.2
  rw [he] at h2
  simp only [Bool.and_eq_true,beq_iff_eq,decide_eq_true_eq,Option.isNone_iff_eq_none] at h2
  exact ⟨h2.1,h2.2.1,h2.2.2.1,h2.2.2.2⟩
 ·have:=h _ (hm i o ho)
  simp only [Bool.and_eq_true,Array.all_eq_true_iff_forall_mem,Bool.or_eq_true,Bool.not_eq_true',decide_eq_true_eq] at this
  exact (this.1.1.1.1.1 e he).resolve_left (by simp [hb])
 ·have:=h _ (hm i o ho)
  simp only [Bool.and_eq_true,Bool.or_eq_true,decide_eq_true_eq,List.all_eq_true,List.mem_range,beq_iff_eq] at this
  exact (this.1.1.1.2.resolve_left (by omega)) j hj
 ·have:=h _ (hm i o ho)
  simp only [Bool.and_eq_true,Bool.or_eq_true,Bool.not_eq_true',decide_eq_true_eq] at this
  exact this.1.1.2.resolve_left (by simp [he])
 ·have:=h _ (hm i o ho)
  simp only [Bool.and_eq_true,Bool.or_eq_true,decide_eq_true_eq] at this
  have:=this.1.2
  rcases this with (h1|h1)|h1
  ·exact absurd hf1 (by unfold zkm;omega)
  ·omega
  ·exact h1
 ·have:=h _ (hm i o ho)
  simp only [Bool.and_eq_true,List.all_eq_true] at this
  have:=this.2 _ (hm j p hp)
  simp only [ht,Bool.or_eq_true,Bool.not_eq_true',beq_iff_eq] at this
  rcases this with ((h1|h1)|h1)|h1
  ·exfalso
   rw [Bool.or_eq_false_iff] at h1
   rcases hl with hl|hl
   ·have:=h1.1
    simp [List.contains_iff_mem] at this
    exact this hl
   ·simp [hl] at h1
  ·exact .inl h1
  ·exact .inr (.inl h1)
  ·exact .inr (.inr h1)
theorem znH {d:Nat}:∀ (l:List Oper) (j i:Nat),zqm ops d l j=some i→∃ o,j≤i∧l[i - j]?=some o∧zcf ops o=some d
 | [],j,i,h=>by cases h
 | o::l,j,i,h=>by
  unfold zqm at h
  split at h
  ·rename_i he
   injection h with h
   subst h
   exact ⟨o,Nat.le_refl _,by simp,he⟩
  ·obtain ⟨p,h1,h2,h3⟩:=znH l (j+1) i h
   refine ⟨p,by omega,?_,h3⟩
   rw [show i - j=i - (j+1)+1 by omega]
   simpa using h2
theorem zph {d i:Nat} (h:cons ops d=some i):∃ o,ops[i]?=some o∧zcf ops o=some d:=by
 obtain ⟨o,_,h2,h3⟩:=znH _ _ _ h
 exact ⟨o,by simpa using h2,h3⟩
def zgt (ops:Array Oper) (S:Nat→Bool) (d:Nat):Bool:=match cons ops d with
 | some j=>S j
 | none=>false
def ziw (ops:Array Oper) (S:Nat→Bool) (t:Nat):Nat→Option Nat
 | 0=>none
 | n+1=>if S n=true∧(ops[n]?).bind (·.dst)=some t then some n else ziw ops S t n
theorem zhT {S S':Nat→Bool} {t:Nat}:∀ {n:Nat},(∀ j,j < n→(ops[j]?).bind (·.dst)=some t→S j=S' j)→ziw ops S t n=ziw ops S' t n
 | 0,_=>rfl
 | n+1,h=>by
  unfold ziw
  rw [zhT (n:=n) fun j hj=>h j (by omega)]
  by_cases hd:(ops[n]?).bind (·.dst)=some t
  ·rw [h n (by omega) hd]
  ·simp [hd]
def ins (S:Nat→Bool) (i:Nat) (j:Nat):Bool:=if j=i then true else S j
theorem zpz {S:Nat→Bool} {t i:Nat} (hd:(ops[i]?).bind (·.dst)=some t):∀ {n:Nat},i < n→(∀ j,j < n→S j=true→(ops[j]?).bind (·.dst)=some t→j < i)→ziw ops (ins S i) t n=some i
 | 0,h,_=>by omega
 | n+1,h,hall=>by
  unfold ziw
  by_cases hn:n=i
  ·subst hn
   rw [if_pos ⟨by simp [ins],hd⟩]
  ·rw [if_neg,zpz hd (by omega) fun j hj=>hall j (by omega)]
   rintro ⟨h1,h2⟩
   simp only [ins,if_neg hn] at h1
   have:=hall n (by omega) h1 h2
   omega
abbrev Res:=PV×List (Nm×Bk)
def tmAt (T:TT) (ops:Array Oper) (σ0:St) (r:Nat→Res) (S:Nat→Bool) (t:Nat):Option PV :=
 match ziw ops S t ops.size with
 | some j=>(σ0.tm[t]?).map fun _=>norm T (((ops[j]?).map (·.type)).getD 0) (r j).1
 | none=>σ0.tm[t]?
def lkAt (ops:Array Oper) (σ0:St) (r:Nat→Res) (S:Nat→Bool) (n:Nm):Option Bk:=if n.1=σ0.cnt then (if S n.2.1=true∧zgt ops S n.2.1=false then look (r n.2.1).2 n else none) else look σ0.hp n
structure Inv (T:TT) (ops:Array Oper) (σ0:St) (r:Nat→Res) (S:Nat→Bool) (σ:St):Prop where
 cnt:σ.cnt=σ0.cnt
 len:σ.tm.length=σ0.tm.length
 tm:∀ t,σ.tm[t]?=tmAt T ops σ0 r S t
 lk:∀ n,look σ.hp n=lkAt ops σ0 r S n
theorem zmu {n:Nm}:∀ (a b:List (Nm×Bk)),look (a++b) n=(look a n).or (look b n)
 | [],b=>rfl
 | (m,x)::a,b=>by
  simp only [List.cons_append,look]
  split
  ·rfl
  ·exact zmu a b
theorem zpI {c i:Nat} {nb:List (Nm×Bk)} (h:okNm c i nb=true) {n:Nm} (hn:¬ (n.1=c∧n.2.1=i)):look nb n=none:=by
 cases hl:look nb n with
 | none=>rfl
 | some b =>
  have hm:=zkn hl
  unfold okNm at h
  rw [List.all_eq_true] at h
  have:=h _ hm
  simp only [decide_eq_true_eq] at this
  exact absurd this hn
variable {T:TT} {σ0:St} {r:Nat→Res} {S:Nat→Bool} {σ:St}
theorem zvY (hp:List (Nm×Bk)) (i n:Nm):look (del hp i) n=if n=i then none else look hp n:=by
 induction hp with
 | nil=>simp [del,look]
 | cons x l ih =>
  obtain ⟨m,b⟩:=x
  unfold del
  by_cases hm:m=i
  ·rw [if_pos hm,ih]
   by_cases hn:n=i
   ·rw [if_pos hn,if_pos hn]
   ·rw [if_neg hn,if_neg hn]
    conv=>rhs;unfold look
    rw [if_neg (fun h=>hn (by first|exact h.trans hm|exact h.symm.trans hm|exact (h ▸ hm)))]
  ·rw [if_neg hm]
   unfold look
   rw [ih]
   by_cases hn:n=i
   ·subst hn
    simp [hm,fun h:n=m=>hm h.symm]
   ·simp [hn]
theorem Inv.step (I:Inv T ops σ0 r S σ) {i:Nat} {o:Oper} (ho:ops[i]?=some o) (hS:S i=false) (hok:okNm σ0.cnt i (r i).2=true) (hw:∀ t j,o.dst=some t→S j=true→(ops[j]?).bind (·.dst)=some t→j < i)
  (hce:∀ j,cons ops i=some j→j≠i∧S j=false) (hea:∀ d,zcf ops o=some d→d≠i∧cons ops d=some i∧∀ n:Nm,n.1=σ0.cnt→n.2.1=d→n≠(σ0.cnt,d,0)→look (r d).2 n=none):Inv T ops σ0 r (ins S i) (zeE T ops σ o (r i).1 (r i).2):=by
 have hi:i < ops.size:=(Array.getElem?_eq_some_iff.1 ho).1
 have hdt:(delE ops σ o).tm=σ.tm:=by unfold delE;split<;>rfl
 have hdc:(delE ops σ o).cnt=σ.cnt:=by unfold delE;split<;>rfl
 have hdl:∀ n,look (delE ops σ o).hp n=match zcf ops o with|some d=>if n=(σ0.cnt,d,0) then none else look σ.hp n|none=>look σ.hp n:=by
  intro n
  unfold delE
  cases zcf ops o with
  | none=>rfl
  | some d=>show look (del σ.hp (σ.cnt,d,0)) n=_;rw [zvY,I.cnt]
 have hcons:∀ d j,cons ops d=some j→j=i→zcf ops o=some d:=by
  intro d j hc hj
  obtain ⟨p,hp,he⟩:=zph hc
  rw [hj,ho] at hp
  injection hp with hp
  rw [hp];exact he
 have hlk:∀ n,look ((r i).2++(delE ops σ o).hp) n=lkAt ops σ0 r (ins S i) n:=by
  intro n
  rw [zmu,hdl]
  by_cases hc:n.1=σ0.cnt
  ·by_cases hn:n.2.1=i
   ·have h1:look σ.hp n=none:=by
     rw [I.lk]
     unfold lkAt
     rw [if_pos hc,hn,hS]
     simp
    have h2:zgt ops (ins S i) i=false:=by
     unfold zgt
     cases hcc:cons ops i with
     | none=>rfl
     | some j =>
      obtain ⟨h3,h4⟩:=hce j hcc
      simp [ins,h3,h4]
    have h3:(match zcf ops o with|some d=>if n=(σ0.cnt,d,0) then none else look σ.hp n|none=>look σ.hp n)=none:=by
     split
     ·split
      ·rfl
      ·exact h1
     ·exact h1
    rw [h3]
    unfold lkAt
    rw [if_pos hc,hn,if_pos ⟨by simp [ins],h2⟩]
    simp
   ·rw [zpI hok (fun h=>hn h.2),Option.none_or]
    have hins:ins S i n.2.1=S n.2.1:=by simp [ins,hn]
    by_cases hd:zcf ops o=some n.2.1
    ·obtain ⟨h1,h2,h3⟩:=hea _ hd
     have h4:zgt ops (ins S i) n.2.1=true:=by unfold zgt;rw [h2];simp [ins]
     rw [hd]
     unfold lkAt
     rw [if_pos hc,if_neg (fun h=>by rw [h4] at h;cases h.2)]
     show (if n=(σ0.cnt,n.2.1,0) then none else look σ.hp n)=none
     split
     ·rfl
     ·rename_i hne
      rw [I.lk]
      unfold lkAt
      rw [if_pos hc]
      split
      ·exact h3 n hc rfl hne
      ·rfl
    ·have h4:zgt ops (ins S i) n.2.1=zgt ops S n.2.1:=by
      unfold zgt
      cases hcc:cons ops n.2.1 with
      | none=>rfl
      | some j =>
       have:j≠i:=fun hj=>hd (hcons _ _ hcc hj)
       simp [ins,this]
     have h5:(match zcf ops o with|some d=>if n=(σ0.cnt,d,0) then none else look σ.hp n|none=>look σ.hp n)=look σ.hp n:=by
      split
      ·rename_i d he
       rw [if_neg]
       intro hne
       apply hd
       rw [he,hne]
      ·rfl
     rw [h5,I.lk]
     unfold lkAt
     rw [if_pos hc,if_pos hc,hins,h4]
  ·rw [zpI hok (fun h=>hc h.1),Option.none_or]
   have h5:(match zcf ops o with|some d=>if n=(σ0.cnt,d,0) then none else look σ.hp n|none=>look σ.hp n)=look σ.hp n:=by
    split
    ·rw [if_neg]
     intro hne
     exact hc (by rw [hne])
    ·rfl
   rw [h5,I.lk]
   unfold lkAt
   rw [if_neg hc,if_neg hc]
 have hty:((ops[i]?).map (·.type)).getD 0=o.type:=by rw [ho];rfl
 unfold zeE aput
 split
 ·rename_i d hd
  have hbd:(ops[i]?).bind (·.dst)=some d:=by rw [ho];exact hd
  refine ⟨hdc.trans I.cnt,by simp [hdt,I.len],fun t=>?_,hlk⟩
  show ((delE ops σ o).tm.set d _)[t]?=_
  rw [hdt]
  by_cases ht:t=d
  ·subst ht
   unfold tmAt
   rw [zpz hbd hi (fun j _ h1 h2=>hw t j hd h1 h2)]
   simp only [hty]
   by_cases hl:t < σ.tm.length
   ·rw [List.getElem?_set_self hl,List.getElem?_eq_getElem (by rw [← I.len];exact hl)]
    rfl
   ·rw [List.getElem?_eq_none (by simp;omega),List.getElem?_eq_none (by rw [← I.len];omega)]
    rfl
  ·rw [List.getElem?_set_ne (Ne.symm ht),I.tm]
   unfold tmAt
   rw [zhT (S:=S) (S':=ins S i)]
   intro j _ hj
   have:j≠i:=fun h=>by subst h;rw [hbd] at hj;injection hj with hj;exact ht hj.symm
   simp [ins,this]
 ·rename_i hd
  refine ⟨hdc.trans I.cnt,by rw [hdt];exact I.len,fun t=>?_,hlk⟩
  show (delE ops σ o).tm[t]?=_
  rw [hdt,I.tm]
  unfold tmAt
  rw [zhT (S:=S) (S':=ins S i)]
  intro j _ hj
  have:j≠i:=fun h=>by subst h;rw [ho] at hj;simp [hd] at hj
  simp [ins,this]
theorem Inv.same (I:Inv T ops σ0 r S σ) {σ':St} (I':Inv T ops σ0 r S σ'):σ.tm=σ'.tm∧(∀ n,look σ.hp n=look σ'.hp n)∧σ.cnt=σ'.cnt :=
 ⟨List.ext_getElem? fun t=>by rw [I.tm,I'.tm],fun n=>by rw [I.lk,I'.lk],by rw [I.cnt,I'.cnt]⟩
end
theorem zoa {c i:Nat} {lit:Bool} {x:Option Res} {r:Res} (h:zqt c i lit x=some r):x=some r∧okNm c i r.2=true∧(lit=true→litB r.2=true):=by
 unfold zqt at h
 split at h
 ·rename_i p nb
  split at h
  ·rename_i hk
   injection h with h
   subst h
   simp only [Bool.and_eq_true,Bool.or_eq_true,Bool.not_eq_true'] at hk
   exact ⟨rfl,hk.1,fun hl=>hk.2.resolve_left (by simp [hl])⟩
  ·cases h
 ·cases h
theorem zub {ops:Array Oper} {o:Oper} {d:Nat} (h:zcf ops o=some d):∃ as ts,o.op=.call { callee:=.builtin .append,args:=as,argTypes:=ts }∧o.guard=none:=by
 unfold zcf at h
 split at h
 ·rename_i as ts ho
  split at h
  ·rename_i hg
   exact ⟨as,ts,ho,hg⟩
  ·cases h
 ·cases h
theorem zo7 {T:TT} {σ:St} {i m d:Nat} {o:Oper} {r:Res} (h:aeat za T σ i m d o=some r):(∃ as ts s x t t',o.op=.call { callee:=.builtin .append,args:=as,argTypes:=ts }∧as.toList=[s,x]∧ts.toList=[t,t'] ∧
  ∀ (σ':St),σ'.cnt=σ.cnt→(∀ y ∈ o.op.operands,σ.get y=σ'.get y)→(∀ b,zlZ σ.cnt m (look σ.hp) (σ.cnt,d,0)=some b→look σ'.hp (σ.cnt,d,0)=some b)→zhe za T σ' (σ'.cnt,i,0) o t t' (σ'.get s) (norm T t' (σ'.get x))=some (aput T ⟨σ'.tm,del σ'.hp (σ.cnt,d,0),σ'.cnt⟩ o r.1 r.2))∧okNm σ.cnt i r.2=true∧(∀ n:Nm,n.1=σ.cnt→n.2.1=d→n≠(σ.cnt,d,0)→look σ.hp n=none):=by
 unfold aeat at h
 split at h
 rotate_left
 ·cases h
 rename_i as ts ho
 split at h
 rotate_left
 ·cases h
 rename_i s x t t' has hts
 split at h
 rotate_left
 ·cases h
 rename_i e k by_ u1 u2 hTt
 split at h
 rotate_left
 ·cases h
 rename_i kx v1 v2 te hTt' hTe
 split at h
 rotate_left
 ·cases h
 rename_i hk
 split at h
 rotate_left
 ·cases h
 rename_i s' e'' k'' l'' hx
 split at h
 rotate_left
 ·cases h
 rename_i hkk
 split at h
 rotate_left
 ·cases h
 rename_i l hl
 split at h
 rotate_left
 ·cases h
 rename_i i' e' k' off n' hs
 split at h
 rotate_left
 ·cases h
 rename_i b hb
 split at h
 rotate_left
 ·cases h
 rename_i hbb
 split at h
 rotate_left
 ·cases h
 rename_i hii
 injection h with h
 subst h
 obtain ⟨rfl,hall⟩:=hii
 refine ⟨⟨as,ts,s,x,t,t',ho,has,hts,fun σ' hc hg hL=>?_⟩,?_,fun n h1 h2 h3=>?_⟩
 ·have ms:s ∈ as.toList:=by rw [has];simp
  have mx:x ∈ as.toList:=by rw [has];simp
  have gs:σ.get s=σ'.get s:=hg s (by rw [ho];simpa [Op.operands,Call.operands] using ms)
  have gx:σ.get x=σ'.get x:=hg x (by rw [ho];simpa [Op.operands,Call.operands] using mx)
  unfold zhe
  rw [← gs,← gx,hx]
  simp only [hTt,hTt',hTe]
  rw [if_pos hk]
  simp only [asrc]
  rw [if_pos hkk,hl]
  simp only [Option.map_some]
  rw [hs]
  simp only
  rw [hL b hb]
  simp only
  rw [if_pos hbb,hc,zzf]
  rfl
 ·simp [okNm]
 ·cases hlk:look σ.hp n with
  | none=>rfl
  | some b' =>
   exfalso
   have hm:=zkn hlk
   rw [List.all_eq_true] at hall
   have:=hall _ hm
   simp only [h1,h2,and_self,decide_true,Bool.not_true,Bool.false_or,decide_eq_true_eq] at this
   exact h3 this
theorem zpb {T:TT} {F:Fns} {ops:Array Oper} {σ σ':St} {i m:Nat} {o:Oper} {r:Res} (hc:σ'.cnt=σ.cnt) (hg:∀ x ∈ o.op.operands,σ.get x=σ'.get x) (hL:∀ n b,zlY ops σ.cnt m (look σ.hp) n=some b→look σ'.hp n=some b) (hLe:∀ d,zcf ops o=some d→∀ b,zlZ σ.cnt m (look σ.hp) (σ.cnt,d,0)=some b→look σ'.hp (σ.cnt,d,0)=some b) (h:ares za T F ops σ i m o=some r):zgp za T F σ' i o=some (zeE T ops σ' o r.1 r.2)∧okNm σ.cnt i r.2=true:=by
 unfold ares at h
 cases he:zcf ops o with
 | some d =>
  rw [he] at h
  simp only at h
  obtain ⟨⟨as,ts,s,x,t,t',ho,has,hts,hap⟩,hok,_⟩:=zo7 h
  refine ⟨?_,hok⟩
  have:=hap σ' hc hg (hLe d he)
  unfold zgp
  rw [ho]
  simp only [has,hts]
  rw [this]
  unfold zeE delE
  rw [he]
  simp only [hc]
 | none =>
  rw [he] at h
  simp only at h
  have han:∀ p nb,zeE T ops σ' o p nb=aput T σ' o p nb:=fun p nb=>by unfold zeE delE;rw [he]
  rw [han]
  split at h
  ·rename_i f as ts ho
   have hgf:σ.get f=σ'.get f:=hg f (by rw [ho];simp [Op.operands,Call.operands])
   cases hmu:zkp (σ.get f) with
   | true=>rw [hmu,Bool.true_or] at h;cases h
   | false =>
   rw [hmu,Bool.false_or] at h
   cases hco:zke (σ.get f) with
   | true=>rw [hco,Bool.true_or] at h;cases h
   | false =>
   rw [hco,Bool.false_or] at h
   cases hcu:zlR (σ.get f) with
   | true=>rw [hcu] at h;cases h
   | false =>
   rw [hcu] at h
   simp only [cond_false] at h
   obtain ⟨h,hok,_⟩:=zoa h
   refine ⟨?_,hok⟩
   have h1:=ztP hL h
   rw [zva (get':=σ'.get) (fun x hx=>hg x (by rw [ho];exact hx)),zhi,← hc,← zhi] at h1
   unfold zgp
   rw [ho]
   show (bif zkp (σ'.get f) then _ else bif zke (σ'.get f) then _ else bif zlR (σ'.get f) then _ else zlO T σ' i o (zgn za T F (look σ'.hp) (nmOf σ' i) σ'.get _))=_
   rw [← hgf,hmu,hco,hcu,cond_false,cond_false,cond_false,h1]
   simp only [zlO,hc,hok,if_true]
  ·rename_i hno
   obtain ⟨h,hok,hlit⟩:=zoa h
   refine ⟨?_,hok⟩
   have h1:=ztY hL h
   rw [zvi (get':=σ'.get) hg,zhi,← hc,← zhi] at h1
   have h2:zj7 T σ' i o (zb2 za T (look σ'.hp) (nmOf σ' i) σ'.get o)=some (aput T σ' o r.1 r.2):=by
    rw [h1]
    have hml:(mkOp o.op || litB r.2)=true:=by
     cases hm:mkOp o.op with
     | true=>rfl
     | false=>simp [hlit (by rw [hm];rfl)]
    simp only [zj7,hc,hok,hml,Bool.and_self,if_true]
   have hst:∀ t a x,o.op≠.store t a x:=fun t a x he=>by
    rw [zb2] at h
    simp [he] at h
   have hap:∀ as ts,o.op≠.call { callee:=.builtin .append,args:=as,argTypes:=ts }:=fun as ts he=>by
    rw [zb2] at h
    simp [he] at h
   have hcp:∀ as ts,o.op≠.call { callee:=.builtin .copy,args:=as,argTypes:=ts }:=fun as ts he=>by
    rw [zb2] at h
    simp [he] at h
   unfold zgp
   split
   ·rename_i t a x he;exact absurd he (hst t a x)
   ·rename_i as ts he;exact absurd he (hap as ts)
   ·rename_i as ts he;exact absurd he (hcp as ts)
   ·rename_i f as ts he;exact absurd he (hno f as ts)
   ·exact h2
section
variable {ops:Array Oper} {T:TT} {F:Fns}
def zgF (ops:Array Oper) (σ:St) (o:Oper):Option Bool :=
 match o.guard with
 | none=>some true
 | some (j,want)=>match zjr σ ((ops[j]?).bind (·.dst)) with
  | some (some b)=>some (b == want)
  | some none=>some false
  | none=>none
def OneOk (ops:Array Oper) (T:TT) (F:Fns) (σ:St) (i:Nat) (o:Oper) (r:Res):Prop :=
 (zgF ops σ o=some true∧ares za T F ops σ i (zc2 ops i) o=some r)∨(zgF ops σ o=some false∧r=(.c (.at undef),[]))
theorem OneOk.nm {σ:St} {i:Nat} {o:Oper} {r:Res} (h:OneOk ops T F σ i o r):okNm σ.cnt i r.2=true:=by
 rcases h with ⟨_,h⟩|⟨_,rfl⟩
 ·exact (zpb rfl (fun _ _=>rfl) (fun n b hb=>by unfold zlY at hb;split at hb;cases hb;exact hb) (fun d _ b hb=>by unfold zlZ at hb;split at hb;cases hb;exact hb) h).2
 ·rfl
theorem zue {β:Type} {k:St→Option β} {y:β} {L:Nat×Nat} {i:Nat} {σ:St} {x:Option β} (h:zud za T F ops L i σ k x=some y):x=some y∧(L.1≤i→areg za T F ops (zjp ops L.2 i) i σ k=some y):=by
 unfold zud at h
 cases hb:Nat.ble L.1 i with
 | false =>
  rw [hb] at h
  exact ⟨h,fun hle=>by rw [Nat.ble_eq_true_of_le hle] at hb;cases hb⟩
 | true =>
  rw [hb] at h
  have h':zhq 0 x (areg za T F ops (zjp ops L.2 i) i σ k)=some y:=h
  exact ⟨zj9 h',fun _=>zjG h'⟩
theorem zpa {β:Type} {k:St→Option β} {y:β} {L:Nat×Nat}:∀ (l:List Oper) (i:Nat) (σ:St),(∀ j,l[j]?=ops[i+j]?)→ziq za T F ops (zdl ops.toList []) L l i σ k=some y →
  ∃ (r:Nat→Res) (τ:Nat→St),τ i=σ∧(∀ j,i≤j→j < i+zn ops l→∃ o,ops[j]?=some o∧OneOk ops T F (τ j) j o (r j)∧τ (j+1)=zeE T ops (τ j) o (r j).1 (r j).2)∧areg za T F ops (l.drop (zn ops l)) (i+zn ops l) (τ (i+zn ops l)) k=some y ∧
   ∀ j,i≤j→j < i+zn ops l→L.1≤j→areg za T F ops (zjp ops L.2 j) j (τ j) k=some y
 | [],i,σ,hl,h=>⟨fun _=>(.c .dead,[]),fun _=>σ,rfl,fun j h1 h2=>by simp [zn] at h2;omega,by simpa [areg,ziq,zn] using h,fun j h1 h2=>by simp [zn] at h2;omega⟩
 | o::l,i,σ,hl,h=>by
  unfold ziq at h
  by_cases he:zqx ops o=true
  ·rw [if_pos he] at h
   exact ⟨fun _=>(.c .dead,[]),fun _=>σ,rfl,fun j h1 h2=>by simp [zn,he] at h2;omega,by simpa [zn,he] using h,fun j h1 h2=>by simp [zn,he] at h2;omega⟩
  ·rw [if_neg he] at h
   obtain ⟨h,hfk⟩:=zue h
   have ho:ops[i]?=some o:=by have:=hl 0;simpa using this.symm
   have hgo:∀ x:Res,OneOk ops T F σ i o x→ziq za T F ops (zdl ops.toList []) L l (i+1) (zeE T ops σ o x.1 x.2) k=some y→∃ (r:Nat→Res) (τ:Nat→St),τ i=σ∧(∀ j,i≤j→j < i+zn ops (o::l)→∃ o,ops[j]?=some o∧OneOk ops T F (τ j) j o (r j)∧τ (j+1)=zeE T ops (τ j) o (r j).1 (r j).2)∧areg za T F ops ((o::l).drop (zn ops (o::l))) (i+zn ops (o::l)) (τ (i+zn ops (o::l))) k=some y∧(∀ j,i≤j→j < i+zn ops (o::l)→L.1≤j→areg za T F ops (zjp ops L.2 j) j (τ j) k=some y):=fun x hx hr=>by
    obtain ⟨r,τ,h0,h1,h2,h3⟩:=zpa l (i+1) _ (fun j=>by have:=hl (j+1);simpa [Nat.add_assoc,Nat.add_comm 1 j] using this) hr
    refine ⟨fun j=>if j=i then x else r j,fun j=>if j=i then σ else τ j,by simp,fun j hj1 hj2=>?_,?_,fun j hj1 hj2 hj3=>?_⟩
    ·have hf:zn ops (o::l)=zn ops l+1:=by simp [zn,he]
     by_cases hji:j=i
     ·subst hji
      refine ⟨o,ho,by simpa using hx,?_⟩
      simp only [if_true,if_neg (show ¬ j+1=j by omega)]
      exact h0
     ·obtain ⟨p,hp,h3,h4⟩:=h1 j (by omega) (by omega)
      refine ⟨p,hp,by simpa [hji] using h3,?_⟩
      simp only [if_neg hji,if_neg (show ¬ j+1=i by omega)]
      exact h4
    ·have hf:zn ops (o::l)=zn ops l+1:=by simp [zn,he]
     rw [hf,List.drop_succ_cons]
     simp only [if_neg (show ¬ i+(zn ops l+1)=i by omega)]
     rw [show i+(zn ops l+1)=i+1+zn ops l by omega]
     exact h2
    ·have hf:zn ops (o::l)=zn ops l+1:=by simp [zn,he]
     by_cases hji:j=i
     ·subst hji
      simp only [if_true]
      exact hfk hj3
     ·simp only [if_neg hji]
      exact h3 j (by omega) (by omega) hj3
   split at h
   ·rename_i hg
    split at h
    ·rename_i p nb hr
     exact hgo (p,nb) (.inl ⟨by simp [zgF,hg],hr⟩) h
    ·cases h
   ·rename_i j want hg
    split at h
    ·rename_i b hb
     split at h
     ·rename_i hbw
      split at h
      ·rename_i p nb hr
       exact hgo (p,nb) (.inl ⟨by simp [zgF,hg,hb,hbw],hr⟩) h
      ·cases h
     ·rename_i hbw
      exact hgo (.c (.at undef),[]) (.inr ⟨by simp [zgF,hg,hb,hbw],rfl⟩) h
    ·rename_i hb
     exact hgo (.c (.at undef),[]) (.inr ⟨by simp [zgF,hg,hb],rfl⟩) h
    ·cases h
theorem zmM {σ σ':St} {o:Oper} (h:∀ t,t ∈ o.looksAt ops→σ.tm[t]?=σ'.tm[t]?):zgF ops σ o=zgF ops σ' o:=by
 unfold zgF
 cases hg:o.guard with
 | none=>rfl
 | some gw =>
  obtain ⟨g,want⟩:=gw
  have:zjr σ ((ops[g]?).bind (·.dst))=zjr σ' ((ops[g]?).bind (·.dst)):=by
   unfold zjr
   cases ht:(ops[g]?).bind (·.dst) with
   | none=>rfl
   | some t=>simp only;rw [h t (by simp [Oper.looksAt,hg,ht])]
  simp only [this]
theorem zvN {σ σ':St} {o:Oper} (h:∀ t,t ∈ o.looksAt ops→σ.tm[t]?=σ'.tm[t]?):∀ x ∈ o.op.operands,σ.get x=σ'.get x:=by
 intro x hx
 cases x with
 | tmp t =>
  have:=h t (List.mem_append_left _ (List.mem_filterMap.2 ⟨.tmp t,by simpa using hx,rfl⟩))
  simp only [St.get,List.getD_eq_getElem?_getD,this]
 | _=>rfl
def left (S:Nat→Bool):Nat→Nat
 | 0=>0
 | n+1=>(if S n=true then 0 else 1)+left S n
theorem zlb {S:Nat→Bool}:∀ {n:Nat},left S n=0→∀ j,j < n→S j=true
 | 0,_,j,hj=>by omega
 | n+1,h,j,hj=>by
  unfold left at h
  by_cases hn:S n=true
  ·by_cases hjn:j=n
   ·rw [hjn];exact hn
   ·exact zlb (n:=n) (by simpa [hn] using h) j (by omega)
  ·simp [hn] at h
theorem zm0 {S:Nat→Bool}:∀ {n:Nat},left S n≠0→∃ j,j < n∧S j=false∧∀ i,i < j→S i=true
 | 0,h=>by simp [left] at h
 | n+1,h=>by
  by_cases h0:left S n=0
  ·have hall:=zlb h0
   refine ⟨n,by omega,?_,fun i hi=>hall i hi⟩
   unfold left at h
   by_cases hn:S n=true
   ·simp [hn,h0] at h
   ·simpa using hn
  ·obtain ⟨j,h1,h2⟩:=zm0 h0
   exact ⟨j,by omega,h2⟩
theorem zrj {S:Nat→Bool} {i:Nat} (hi:S i=false):∀ {n:Nat},i < n→left S n=left (ins S i) n+1
 | 0,h=>by omega
 | n+1,h=>by
  unfold left
  by_cases hn:n=i
  ·subst hn
   have:left (ins S n) n=left S n:=by
    have:∀ m,m≤n→left (ins S n) m=left S m:=by
     intro m
     induction m with
     | zero=>intro _;rfl
     | succ m ih=>intro hm;unfold left;rw [ih (by omega)];simp [ins,show m≠n by omega]
    exact this n (Nat.le_refl n)
   rw [this]
   simp [ins,hi]
   omega
  ·rw [zrj hi (n:=n) (by omega)]
   simp only [ins,if_neg hn]
   omega
theorem zpB:∀ (n:Nat),left (fun _=>false) n=n
 | 0=>rfl
 | n+1=>by unfold left;rw [zpB n];simp;omega
theorem zn2 {ops:Array Oper} {q:Nat} (h:zjy ops=some q):q < zn ops ops.toList∧Region.noSelect ops=true∧Region.free .any ops (zn1 ops q) q=true∧∃ o,ops[q]?=some o∧zis o=true:=by
 unfold zjy at h
 have h1:=List.find?_some h
 have h2:=List.mem_of_find?_eq_some h
 rw [List.mem_range] at h2
 rw [Bool.and_eq_true,Bool.and_eq_true] at h1
 replace h1:=h1.2
 unfold zya at h1
 simp only [Bool.and_eq_true] at h1
 refine ⟨h2,h1.1.1,h1.1.2,?_⟩
 have h3:=h1.2
 split at h3
 ·rename_i o ho
  exact ⟨o,ho,h3⟩
 ·cases h3
theorem zpi {P:Program} {o:Oper} (h:zis o=true) {a:Act} {w:World} {K:Act→World→Prop} {Q:Exit→Act→World→Prop} (hw:o.wp P a w K Q):o.guard=none∧∃ v,(∀ w',(execOp a.eval o).run P w'=.ok (.value v) w')∧K (a.put o.dst v) w:=by
 unfold zis at h
 simp only [Bool.and_eq_true,Option.isNone_iff_eq_none] at h
 obtain ⟨h1,hg⟩:=h
 refine ⟨hg,?_⟩
 split at h1
 ·rename_i s hop
  have hr:∀ w',(execOp a.eval o).run P w'=.ok (.value (a.eval (.tmp s))) w':=fun w'=>by simp [execOp,hop]
  refine ⟨_,hr,?_⟩
  unfold Oper.wp at hw
  rw [hr w] at hw
  exact hw
 ·rename_i s n hop
  cases ht:a.eval (.tmp s) with
  | tuple vs =>
   cases hv:vs[n]? with
   | none =>
    exfalso
    unfold Oper.wp at hw
    simp [execOp,hop,ht,Instr.extract,hv,stuck,Oper.upon] at hw
   | some v =>
    have hr:∀ w',(execOp a.eval o).run P w'=.ok (.value v) w':=fun w'=>by simp [execOp,hop,ht,Instr.extract,hv]
    refine ⟨v,hr,?_⟩
    unfold Oper.wp at hw
    rw [hr w] at hw
    exact hw
  | _ =>
   exfalso
   unfold Oper.wp at hw
   simp [execOp,hop,ht,Instr.extract,stuck,Oper.upon] at hw
 ·cases h1
def Never {α:Type} (P:Program) (m:Sem α):Prop:=∀ w v w',m.run P w≠.ok v w'
def zG {α:Type} (P:Program) (m:Sem α):Prop:=(∃ v,∀ w,m.run P w=.ok v w)∨Never P m
theorem Never.bind {α β:Type} {P:Program} {m:Sem α} {f:α→Sem β} (h:∀ v,Never P (f v)):Never P (m >>= f):=fun w v w' he=>by
 rw [Sem.run_bind] at he
 cases hm:m.run P w with
 | ok a w1=>rw [hm,Result.andThen_ok] at he;exact h a _ _ _ he
 | _=>rw [hm] at he;cases he
theorem zG.pure {α:Type} {P:Program} (a:α):zG P (pure a:Sem α):=.inl ⟨a,fun w=>Sem.run_pure ..⟩
theorem zG.bind {α β:Type} {P:Program} {m:Sem α} {f:α→Sem β} (hm:zG P m) (h:∀ v,zG P (f v)):zG P (m >>= f):=by
 rcases hm with ⟨a,ha⟩|hn
 ·rcases h a with ⟨b,hb⟩|hb
  ·exact .inl ⟨b,fun w=>by rw [Sem.run_bind,ha w,Result.andThen_ok];exact hb w⟩
  ·exact .inr fun w v w' he=>by rw [Sem.run_bind,ha w,Result.andThen_ok] at he;exact hb _ _ _ he
 ·refine .inr fun w v w' he=>?_
  rw [Sem.run_bind] at he
  cases hr:m.run P w with
  | ok a w1=>exact hn _ _ _ hr
  | _=>rw [hr] at he;cases he
theorem zG.halt {α:Type} {P:Program} (x):zG P (.halt x:Sem α):=.inr fun w v w' h=>by cases h
theorem zG.prog {P:Program}:zG P program:=.inl ⟨P,fun w=>run_program ..⟩
theorem zo2 {P:Program} (t:TypeId):zG P (typeInfo t):=zG.bind zG.prog fun p=>by
 split
 ·exact zG.pure _
 ·exact zG.halt _
theorem zhb {P:Program} (t:TypeId):zG P (underlying t):=zG.bind zG.prog fun p=>by
 split
 ·exact zG.pure _
 ·exact zG.halt _
theorem zjf {P:Program} (t:TypeId):zG P (sizeOf t):=zG.bind (zo2 t) fun i=>zG.pure _
theorem zqb {P:Program} (x:Value):zG P (asIntOf x):=by
 unfold asIntOf
 split<;>first|exact zG.pure _|exact zG.halt _
theorem zrx {α:Type} {P:Program} (k:IntKind) (x y:Int) (c:BoundsCode):Never P (boundsPanic k x y c:Sem α):=by
 have hr:∀ e1 e2 e3 e4,Never P (runtimePanic (.bounds e1 e2 e3 e4):Sem α):=fun e1 e2 e3 e4 w v w' h=>by
  simp [runtimePanic,goPanic] at h
 unfold boundsPanic
 dsimp only
 split
 ·exact Never.bind fun s=>hr _ _ _ _
 ·exact Never.bind fun s=>hr _ _ _ _
theorem znq {P:Program} (x:Value) (y:Nat) (c:BoundsCode):zG P (Instr.sliceBound x y c):=zG.bind (zqb x) fun ⟨k,i⟩=>by
 dsimp only
 split
 ·exact zG.pure _
 ·exact .inr (zrx _ _ _ _)
theorem zff {P:Program} (b:Bool) (len cap:Nat) (lo hi mx:Option Value):zG P (Instr.sliceBounds b len cap lo hi mx):=by
 unfold Instr.sliceBounds
 repeat (first|exact zG.pure _|exact zG.halt _|exact znq _ _ _|refine zG.bind ?_ fun _=>?_|split|dsimp only)
theorem zsb {P:Program} (x:Value):zG P (asAddr x):=by
 unfold asAddr
 split
 ·exact zG.pure _
 ·exact .inr fun w v w' h=>by simp [runtimePanic,goPanic] at h
 ·exact zG.halt _
theorem zsX {P:Program} (t:TypeId) (x:Value) (lo hi mx:Option Value):zG P (Instr.slice t x lo hi mx):=by
 unfold Instr.slice
 refine zG.bind (zhb t) fun d=>?_
 split
 ·split
  ·exact zG.halt _
  ·exact zG.bind (zff _ _ _ _ _ _) fun p=>zG.pure _
 ·exact zG.bind (zff _ _ _ _ _ _) fun p=>zG.bind (zjf _) fun z=>zG.pure _
 ·refine zG.bind (zsb _) fun a=>zG.bind (zhb _) fun d=>?_
  split
  ·exact zG.bind (zff _ _ _ _ _ _) fun p=>zG.bind (zjf _) fun z=>zG.pure _
  ·exact zG.halt _
 ·exact zG.halt _
theorem zqd {P:Program} (t:TypeId) (x:Value) (lo hi mx:Option Value):zG P (Instr.sliceAt t x lo hi mx):=by
 unfold Instr.sliceAt
 refine zG.bind (zhb t) fun d=>?_
 split
 ·refine zG.bind ?_ fun a=>zG.bind (zff _ _ _ _ _ _) fun p=>zG.bind (zjf _) fun z=>zG.pure _
  unfold Instr.sureAddr
  split
  ·exact zG.pure _
  ·exact zG.halt _
 ·exact zsX _ _ _ _ _
theorem zo4 {P:Program} {o:Oper} (h:tOp o=true) {a:Act} {w:World} {K:Act→World→Prop} {Q:Exit→Act→World→Prop} (hQp:∀ c a w,¬ Q (.panic c) a w) (hw:o.wp P a w K Q):∃ v,(∀ w',(execOp a.eval o).run P w'=.ok (.value v) w')∧K (a.put o.dst v) w:=by
 by_cases hc:zis o=true
 ·exact (zpi hc hw).2
 unfold tOp at h
 simp only [Bool.and_eq_true,Option.isNone_iff_eq_none] at h
 obtain ⟨h1,hg⟩:=h
 split at h1
 ·rename_i s hop
  exact absurd (by unfold zis;simp [hop,hg]) hc
 ·rename_i s n hop
  exact absurd (by unfold zis;simp [hop,hg]) hc
 ·rename_i t s lo hi hop
  rcases zqd (P:=P) t (a.eval (.tmp s)) (lo.map a.eval) (hi.map a.eval) none with ⟨v,hv⟩|hn
  ·have hr:∀ w',(execOp a.eval o).run P w'=.ok (.value v) w':=fun w'=>by simp [execOp,hop,hv w']
   refine ⟨v,hr,?_⟩
   unfold Oper.wp at hw
   rw [hr w] at hw
   exact hw
  ·exfalso
   unfold Oper.wp at hw
   cases hr:(Instr.sliceAt t (a.eval (.tmp s)) (lo.map a.eval) (hi.map a.eval) none).run P w with
   | ok v w1=>exact hn _ _ _ hr
   | halt x w1 =>
    have e:(execOp a.eval o).run P w=.halt x w1:=by simp [execOp,hop,hr]
    rw [e] at hw
    cases x<;>first|exact hQp _ _ _ hw|exact hw
 ·cases h1
theorem ziS {l:Array Bool} {i:Nat} {d:Bool} (h:i < l.size):l.getD i d=l[i]:=by
 rw [Array.getD_eq_getD_getElem?,Array.getElem?_eq_getElem h];rfl
theorem zk4 {ops:Array Oper} {L L':Array Bool} {i:Nat} (h:Region.free .any ops L i=true) (hm:∀ j,L.getD j true=true→L'.getD j true=true):Region.free .any ops L' i=true:=by
 unfold Region.free at h ⊢
 split at h
 ·cases h
 ·rename_i oi hi
  rw [List.all_eq_true] at h ⊢
  intro j hj
  have h1:=h j hj
  cases hL:L.getD j true with
  | true=>rw [hm j hL];simp
  | false =>
   rw [hL,Bool.or_false] at h1
   cases L'.getD j true
   ·rw [Bool.or_false];exact h1
   ·simp
theorem zmO {P:Program} {Q:Exit→Act→World→Prop} (D:ze4 ops) (hQp:∀ c a w,¬ Q (.panic c) a w) (hQo:¬ LetsOut Q):∀ (l:List Oper) (i:Nat) (listed:Array Bool) (a:Act) (w:World),(∀ j,l[j]?=ops[i+j]?)→zn ops ops.toList≤i→listed.size=ops.size→(∀ j,j < ops.size→listed.getD j false=decide (j < i))→wpList P ops Q l a w→wpAny P .any ops Q l.length listed a w:=by
 intro l
 induction l with
 | nil =>
  intro i listed a w hl hf hsz hS h
  have hn:ops.size≤i:=by have:=hl 0;simpa using this.symm
  refine ⟨?_,h⟩
  rw [List.eq_nil_iff_forall_not_mem]
  intro j hj
  obtain ⟨h1,o,ho,_⟩:=mem_ready.1 hj
  have hlt:=(Array.getElem?_eq_some_iff.1 ho).1
  have h2:=hS j hlt
  rw [Array.getD_eq_getD_getElem?,Array.getElem?_eq_getElem (by omega)] at h1 h2
  simp only [Option.getD_some] at h1 h2
  rw [h1] at h2
  simp at h2
  omega
 | cons o l ih =>
  intro i listed a w hl hf hsz hS h
  have ho:ops[i]?=some o:=by have:=hl 0;simpa using this.symm
  have hlt:i < ops.size:=(Array.getElem?_eq_some_iff.1 ho).1
  have hfl:∀ j,j < ops.size→listed.getD j true=listed.getD j false:=fun j hj=>by
   rw [Array.getD_eq_getD_getElem?,Array.getD_eq_getD_getElem?,Array.getElem?_eq_getElem (by omega)]
   rfl
  have hiR:i ∈ Region.ready .any ops listed:=by
   rw [mem_ready]
   refine ⟨by rw [hfl i hlt,hS i hlt];simp,o,ho,fun e he hb=>?_⟩
   have:=D.edge i o ho e he hb
   rw [hS _ (by omega)]
   simpa using this
  by_cases hfr:frT ops i=true
  ·unfold frT at hfr
   rw [ho] at hfr
   simp only [Bool.and_eq_true] at hfr
   obtain ⟨htp,hns,hfr⟩:=hfr
   have hg:o.guard=none:=by
    unfold tOp at htp
    simp only [Bool.and_eq_true,Option.isNone_iff_eq_none] at htp
    exact htp.2
   have hwant:Region.wanted o (yielded ops a.tmps)=true:=by simp [Region.wanted,hg]
   have hfree:Region.free .any ops listed i=true:=zk4 hfr fun j hj=>by
    by_cases hjs:j < ops.size
    ·rw [ziS (by simpa [zgr] using hjs)] at hj
     simp only [zgr,Array.getElem_map,Array.getElem_range] at hj
     obtain ⟨e,he,hb⟩:=Array.any_eq_true'.1 hj
     simp only [Bool.and_eq_true,beq_iff_eq] at hb
     have:=D.edge i o ho e he hb.1
     rw [hfl j hjs,hS j hjs,← hb.2]
     simpa using this
    ·rw [Array.getD_eq_getD_getElem?,Array.getElem?_eq_none (by omega)]
     rfl
   unfold wpList at h
   rw [if_pos hwant] at h
   have hw:=h.resolve_right fun k=>hQo k.2
   obtain ⟨v,hrun,hK⟩:=zo4 htp hQp hw
   rw [List.length_cons]
   refine wpAny_take ho hns hfree (List.contains_iff_mem.2 hiR) (fun c a w hq=>absurd hq (hQp _ _ _)) (.inl ⟨hwant,hrun⟩) ?_
   exact ih (i+1) _ _ _ (fun k=>by have:=hl (k+1);simpa [Nat.add_assoc,Nat.add_comm 1 k] using this) (by omega) (by simpa using hsz) (fun k hk=>by
    by_cases hkj:k=i
    ·subst hkj
     rw [Array.getD_eq_getD_getElem?,Array.getElem?_setIfInBounds_self_of_lt (by omega)]
     simp
    ·rw [getD_set_ne false (Ne.symm hkj),hS k hk]
     simp only [decide_eq_decide]
     omega) hK
  have hDC:DC ops (fun j=>decide (j < i)):=fun k p hp hk e he hb=>by
   have:=D.edge k p hp e he hb
   simp only [decide_eq_true_eq] at hk ⊢
   omega
  have honly:∀ j ∈ Region.ready .any ops listed,j=i:=fun j hj=>by
   obtain ⟨h1,p,hp,h2⟩:=mem_ready.1 hj
   have hjlt:=(Array.getElem?_eq_some_iff.1 hp).1
   rw [hfl j hjlt,hS j hjlt] at h1
   simp at h1
   rcases Nat.lt_or_ge i j with hij|hij
   ·exfalso
    have:=zfJ hDC j p hp (fun e he hb=>by
     have h3:=h2 e he hb
     rw [hS _ (by have:=D.edge j p hp e he hb;omega)] at h3
     exact h3) i ((D.tail j p hp (by omega) i hij).resolve_right fun hh=>by
      rcases hh with hh|⟨hh,_⟩|hh|⟨_,hh⟩
      ·have:=(zn2 hh).1
       omega
      ·omega
      ·have:=(D.earl i o ho hh).2
       omega
      ·exact hfr hh)
    simp at this
   ·omega
  unfold wpAny
  refine ⟨fun h0=>(by rw [h0] at hiR;cases hiR),fun j hj=>?_⟩
  have:=honly j hj
  subst this
  have hnext:∀ a' w',wpList P ops Q l a' w'→wpAny P .any ops Q l.length (listed.setIfInBounds j true) a' w':=fun a' w' h' =>
   ih (j+1) _ a' w' (fun k=>by have:=hl (k+1);simpa [Nat.add_assoc,Nat.add_comm 1 k] using this) (by omega) (by simpa using hsz) (fun k hk=>by
    by_cases hkj:k=j
    ·subst hkj
     rw [Array.getD_eq_getD_getElem?,Array.getElem?_setIfInBounds_self_of_lt (by omega)]
     simp
    ·rw [getD_set_ne false (Ne.symm hkj),hS k hk]
     simp only [decide_eq_decide]
     omega) h'
  unfold wpList at h
  unfold wpOp
  simp only [ho]
  split
  ·rename_i hw
   rw [if_pos hw] at h
   exact h.imp (Oper.wp_mono hnext) id
  ·rename_i hw
   rw [if_neg hw] at h
   exact hnext _ _ h
theorem zsi {P:Program} {Q:Exit→Act→World→Prop} (D:ze4 ops) (hQp:∀ c a w,¬ Q (.panic c) a w) (hQo:¬ LetsOut Q) (hN:zjy ops=none) {f q0:Nat} (hf:f=zn ops ops.toList) (hfs:f < ops.size) (hfe:∀ o,ops[f]?=some o→∀ e ∈ o.after,Region.binds .any e=true→e.on < q0) (hp0:zkm ops≤q0):∀ (n q:Nat) (listed:Array Bool) (a:Act) (w:World),q+n=f→q0≤q→listed.size=ops.size→(∀ j,j < ops.size→listed.getD j false=decide (j < q∨j=f)) →
  wpList P ops Q ((ops.toList.drop q).take n++ops.toList.drop (f+1)) a w→wpAny P .any ops Q ((ops.toList.drop q).take n++ops.toList.drop (f+1)).length listed a w:=by
 intro n
 induction n with
 | zero =>
  intro q listed a w hq hp hsz hS h
  rw [List.take_zero,List.nil_append] at h ⊢
  exact zmO D hQp hQo _ (f+1) listed a w (fun j=>by simp) (by omega) hsz (fun j hj=>by rw [hS j hj];simp only [decide_eq_decide];omega) h
 | succ n ih =>
  intro q listed a w hq hp hsz hS h
  have hlt:q < ops.size:=by omega
  have ho:ops[q]?=some ops[q]:=Array.getElem?_eq_getElem hlt
  generalize ops[q]=o at ho
  have hd:ops.toList.drop q=o::ops.toList.drop (q+1):=by
   rw [List.drop_eq_getElem_cons (by simpa using hlt)]
   congr 1
   have:ops.toList[q]?=some o:=by simpa using ho
   rw [List.getElem?_eq_getElem (by simpa using hlt)] at this
   exact Option.some.inj this
  rw [hd,List.take_succ_cons,List.cons_append] at h ⊢
  rw [List.length_cons]
  have hfl:∀ j,j < ops.size→listed.getD j true=listed.getD j false:=fun j hj=>by
   rw [Array.getD_eq_getD_getElem?,Array.getD_eq_getD_getElem?,Array.getElem?_eq_getElem (by omega)]
   rfl
  have hqR:q ∈ Region.ready .any ops listed:=by
   rw [mem_ready]
   refine ⟨by rw [hfl q hlt,hS q hlt];simp;omega,o,ho,fun e he hb=>?_⟩
   have:=D.edge q o ho e he hb
   rw [hS _ (by omega)]
   simp [this]
  have hDC:DC ops (fun k=>decide (k < q∨k=f)):=fun k p hp' hk e he hb=>by
   simp only [decide_eq_true_eq] at hk ⊢
   rcases hk with hk|hk
   ·have:=D.edge k p hp' e he hb
    omega
   ·subst hk
    have:=hfe p hp' e he hb
    omega
  have honly:∀ j ∈ Region.ready .any ops listed,j=q:=fun j hj=>by
   obtain ⟨h1,p,hp',h2⟩:=mem_ready.1 hj
   have hjlt:=(Array.getElem?_eq_some_iff.1 hp').1
   rw [hfl j hjlt,hS j hjlt] at h1
   simp at h1
   have hin:∀ k,Nat.testBit (zc2 ops j) k=true→k < q∨k=f:=fun k hk=>by
    have:=zfJ hDC j p hp' (fun e he hb=>by
     have h3:=h2 e he hb
     rw [hS _ (by have:=D.edge j p hp' e he hb;omega)] at h3
     exact h3) k hk
    simpa using this
   rcases Nat.lt_or_ge q j with hij|hij
   ·exfalso
    by_cases hjf:j < f
    ·have:=hin _ (D.chain j p hp' (by omega) (by omega))
     omega
    ·rcases D.tail j p hp' (by omega) q (by omega) with h|h|⟨h,_⟩|h|⟨h,_⟩
     ·have:=hin _ h
      omega
     ·rw [hN] at h;cases h
     ·omega
     ·have:=(D.earl q o ho h).1
      omega
     ·omega
   ·omega
  unfold wpAny
  refine ⟨fun h0=>(by rw [h0] at hqR;cases hqR),fun j hj=>?_⟩
  have:=honly j hj
  subst this
  have hnext:∀ a' w',wpList P ops Q ((ops.toList.drop (j+1)).take n++ops.toList.drop (f+1)) a' w'→wpAny P .any ops Q ((ops.toList.drop (j+1)).take n++ops.toList.drop (f+1)).length (listed.setIfInBounds j true) a' w':=fun a' w' h' =>
   ih (j+1) _ a' w' (by omega) (by omega) (by simpa using hsz) (fun k hk=>by
    by_cases hkj:k=j
    ·subst hkj
     rw [Array.getD_eq_getD_getElem?,Array.getElem?_setIfInBounds_self_of_lt (by omega)]
     simp
    ·rw [getD_set_ne false (Ne.symm hkj),hS k hk]
     simp only [decide_eq_decide]
     omega) h'
  unfold wpList at h
  unfold wpOp
  simp only [ho]
  split
  ·rename_i hw
   rw [if_pos hw] at h
   exact h.imp (Oper.wp_mono hnext) id
  ·rename_i hw
   rw [if_neg hw] at h
   exact hnext _ _ h
theorem zn3 {j:Nat}:∀ (n:Nat),left (fun k=>decide (k < j)) n=n - j
 | 0=>by simp [left]
 | n+1=>by
  unfold left
  rw [zn3 n]
  by_cases h:n < j<;>simp [h]<;>omega
theorem zyv (M:List Nat):(zkh ops M).2=zn ops ops.toList:=by
 unfold zkh zvG zvF
 cases Nat.blt (zn ops ops.toList) ops.size<;>rfl
end
theorem zmN {E:Env} {w0:Bs} {σ:St} {a:Act} {w:World} (R:Rel E w0 σ a w) {ops:Array Oper} {o:Oper} {b:Bool} (h:zgF ops σ o=some b):Region.wanted o (yielded ops a.tmps)=b:=by
 unfold zgF at h
 unfold Region.wanted
 cases hg:o.guard with
 | none=>simpa [hg] using h
 | some gw =>
  obtain ⟨g,want⟩:=gw
  simp only [hg] at h
  split at h
  ·rename_i b' hb
   show (yielded ops a.tmps g == some want)=b
   rw [zhR R hb]
   injection h with h
  ·rename_i hb
   show (yielded ops a.tmps g == some want)=b
   rw [zhR R hb]
   injection h with h
  ·cases h
theorem zze {E:Env} {w0:Bs} {σ:St} {a:Act} {w w':World} (R:Rel E w0 σ a w) (h:Ext w w'):Rel E w0 σ a w' :=
 ⟨R.wf.ext h,R.dfr,R.siz,fun t p hp=>(R.tmp t p hp).grow R.wf (Grow.same h),fun i b hb=>(R.blk i b hb).grow R.wf (Grow.same h),R.kp.trans h,R.bs⟩
theorem zrY {E:Env} {w0:Bs} {σ σ':St} {a:Act} {w:World} (R:Rel E w0 σ a w) (ht:σ.tm=σ'.tm) (hl:∀ n,look σ.hp n=look σ'.hp n):Rel E w0 σ' a w :=
 ⟨R.wf,R.dfr,by rw [R.siz,ht],fun t p hp=>R.tmp t p (by rw [ht];exact hp),fun i b hb=>R.blk i b (by rw [hl];exact hb),R.kp,R.bs⟩
section
variable {ops:Array Oper} {T:TT} {F:Fns} {P:Program} {Q:Exit→Act→World→Prop}
theorem zqS (D:ze4 ops) (i:Nat):DC ops (fun j=>decide (j < i)):=fun k p hp hk e he hb=>by
 have:=D.edge k p hp e he hb
 simp only [decide_eq_true_eq] at hk ⊢
 omega
theorem zoM (D:ze4 ops) {i j:Nat} {o:Oper} (ho:ops[i]?=some o) (h:Nat.testBit (zc2 ops i) j=true):j < i:=by
 have:=zfJ (zqS D i) i o ho (fun e he hb=>by simpa using D.edge i o ho e he hb) j h
 simpa using this
structure Run (ops:Array Oper) (T:TT) (F:Fns) (σ0:St) (r:Nat→Res) (τ:Nat→St):Prop where
 zero:τ 0=σ0
 step:∀ j,j < zn ops ops.toList→∃ o,ops[j]?=some o∧OneOk ops T F (τ j) j o (r j)∧τ (j+1)=zeE T ops (τ j) o (r j).1 (r j).2
 fresh:∀ n,n.1=σ0.cnt→look σ0.hp n=none
variable {σ0:St} {r:Nat→Res} {τ:Nat→St}
theorem ze4.hce (D:ze4 ops) {S:Nat→Bool} (hDC:DC ops S) {i:Nat} (hS:S i=false):∀ j,cons ops i=some j→j≠i∧S j=false:=by
 intro j hj
 obtain ⟨p,hp,he⟩:=zph hj
 obtain ⟨_,h2,h3,_⟩:=D.eat j p i hp he
 refine ⟨by omega,?_⟩
 cases hSj:S j with
 | false=>rfl
 | true =>
  have:=zfJ hDC j p hp (hDC j p hp hSj) i h3
  rw [hS] at this
  cases this
theorem ztr (D:ze4 ops) {i:Nat} {o:Oper} (ho:ops[i]?=some o) {τi:St} (I:Inv T ops σ0 r (fun k=>decide (k < i)) τi) (h1:OneOk ops T F τi i o (r i)):∀ d,zcf ops o=some d→d≠i∧cons ops d=some i∧∀ n:Nm,n.1=σ0.cnt→n.2.1=d→n≠(σ0.cnt,d,0)→look (r d).2 n=none:=by
 intro d hd
 obtain ⟨h2,h3,_,h5⟩:=D.eat i o d ho hd
 refine ⟨by omega,h2,fun n hn1 hn2 hn3=>?_⟩
 rcases h1 with ⟨_,h1⟩|⟨h1,_⟩
 ·unfold ares at h1
  rw [hd] at h1
  have h6:=(zo7 h1).2.2 n (by rw [I.cnt];exact hn1) hn2 (by rw [I.cnt];exact hn3)
  rw [I.lk] at h6
  unfold lkAt at h6
  rw [if_pos hn1,hn2,if_pos ⟨by simpa using h3,by unfold zgt;rw [h2];simp⟩] at h6
  exact h6
 ·simp [zgF,h5] at h1
theorem ztX {σ:St} {o:Oper} {p:PV} {nb:List (Nm×Bk)} (h:zcf ops o=none):zeE T ops σ o p nb=aput T σ o p nb:=by unfold zeE delE;rw [h]
theorem Run.inv (D:ze4 ops) (H:Run ops T F σ0 r τ):∀ j,j≤zn ops ops.toList→Inv T ops σ0 r (fun k=>decide (k < j)) (τ j)
 | 0,_=>by
  rw [H.zero]
  have hno:∀ t n,ziw ops (fun k=>decide (k < 0)) t n=none:=by
   intro t n
   induction n with
   | zero=>rfl
   | succ n ih=>unfold ziw;rw [ih];simp
  refine ⟨rfl,rfl,fun t=>?_,fun n=>?_⟩
  ·unfold tmAt
   rw [hno]
  ·unfold lkAt
   split
   ·rename_i hn
    simp [H.fresh n hn]
   ·rfl
 | j+1,hj=>by
  obtain ⟨o,ho,h1,h2⟩:=H.step j (by omega)
  have I:=Run.inv D H j (by omega)
  rw [h2]
  have hnm:=h1.nm
  rw [I.cnt] at hnm
  have:=I.step ho (by simp) hnm (fun t k _ hk _=>by simpa using hk) (D.hce (zqS D j) (by simp)) (ztr D ho I h1)
  have he:ins (fun k=>decide (k < j)) j=fun k=>decide (k < j+1):=by
   funext k
   unfold ins
   split
   ·rename_i hk;simp [hk]
   ·simp only [decide_eq_decide];omega
  rw [he] at this
  exact this
theorem zs1 (D:ze4 ops) (hT:∀ t ti,T t=some ti→ttOf P t=some ti) {w0:Bs} (hF:zac P F w0) (H:Run ops T F σ0 r τ)
  (hend:∀ E a w,Rel E w0 (τ (zn ops ops.toList)) a w→FreshI E σ0.cnt (zn ops ops.toList)→zo (τ (zn ops ops.toList)).hp→wpList P ops Q (ops.toList.drop (zn ops ops.toList)) a w)
  (hfork:∀ i E a w,zkm ops≤i→i < zn ops ops.toList→Rel E w0 (τ i) a w→FreshI E σ0.cnt i→zo (τ i).hp→wpList P ops Q (zjp ops (zn ops ops.toList) i) a w) (hQp:∀ c a w,¬ Q (.panic c) a w) (hQo:¬ LetsOut Q) :
  ∀ (n:Nat) (listed:Array Bool) (S:Nat→Bool) (E:Env) (σ:St) (a:Act) (w:World),listed.size=ops.size→S=(fun j=>listed.getD j false)→left S (zn ops ops.toList)=n→(∀ j,zn ops ops.toList≤j→S j=false)→DC ops S→Inv T ops σ0 r S σ→Rel E w0 σ a w →
   (∀ m,E.φ m≠none→m.1 < σ0.cnt∨(m.1=σ0.cnt∧S m.2.1=true))→zo σ.hp→wpAny P .any ops Q (n+(ops.toList.drop (zn ops ops.toList)).length) listed a w:=by
 have hfs:∀ (l:List Oper),zn ops l≤l.length:=by
  intro l
  induction l with
  | nil=>simp [zn]
  | cons o l ih=>unfold zn;split<;>simp<;>omega
 have hfs:=hfs ops.toList
 simp only [Array.length_toList] at hfs
 intro n
 induction n with
 | zero =>
  intro listed S E σ a w hsz hSd hn hlate hDC I R hE hSi
  have hall:=zlb hn
  have hS:S=fun j=>decide (j < zn ops ops.toList):=by
   funext j
   by_cases hj:j < zn ops ops.toList
   ·rw [hall j hj];simp [hj]
   ·rw [hlate j (by omega)];simp [hj]
  rw [hS] at I
  obtain ⟨h1,h2,h3⟩:=I.same (H.inv D _ (Nat.le_refl _))
  rw [Nat.zero_add]
  refine zmO D hQp hQo _ (zn ops ops.toList) listed a w (fun j=>by simp) (Nat.le_refl _) hsz (fun j hj=>by have:=congrFun hS j;rw [hSd] at this;exact this) ?_
  refine hend E a w (zrY R h1 h2) (fun m hm=>(hE m hm).imp id fun h=>⟨h.1,?_⟩) (fun n b hb=>hSi n b (by rw [h2];exact hb))
  have:=h.2
  rw [hS] at this
  simpa using this
 | succ n ih =>
  intro listed S E σ a w hsz hSd hn hlate hDC I R hE hSi
  have hfl:∀ j,j < ops.size→listed.getD j true=S j:=fun j hj=>by
   rw [hSd]
   show _=listed.getD j false
   rw [Array.getD_eq_getD_getElem?,Array.getD_eq_getD_getElem?,Array.getElem?_eq_getElem (by omega)]
   rfl
  have hgf:∀ j,listed.getD j false=S j:=fun j=>by rw [hSd]
  rw [Nat.add_right_comm]
  have key:∀ i o,ops[i]?=some o→S i=false→(∀ e ∈ o.after,Region.binds .any e=true→S e.on=true)→i < zn ops ops.toList →
    (Region.wanted o (yielded ops a.tmps)=true∧o.wp P a w (wpAny P .any ops Q (n+(ops.toList.drop (zn ops ops.toList)).length) (listed.setIfInBounds i true)) Q) ∨
    (Region.wanted o (yielded ops a.tmps)=false∧wpAny P .any ops Q (n+(ops.toList.drop (zn ops ops.toList)).length) (listed.setIfInBounds i true) (a.put o.dst undef) w):=by
   intro i o ho h1 hpre' hif
   have hilt:=(Array.getElem?_eq_some_iff.1 ho).1
   obtain ⟨o',ho',hone,_⟩:=H.step i hif
   rw [ho] at ho'
   injection ho' with ho'
   subst ho'
   have Iτ:=H.inv D i (by omega)
   have hsub:∀ j,Nat.testBit (zc2 ops i) j=true→S j=true:=zfJ hDC i o ho hpre'
   have hwr:∀ t j p,ops[j]?=some p→p.dst=some t→(t ∈ o.looksAt ops∨o.dst=some t)→S j=decide (j < i):=by
    intro t j p hp ht hl
    rcases D.tmps i o j p t ho hp ht hl with rfl|hb|hb
    ·rw [h1];simp
    ·rw [hsub j hb]
     have:=zoM D ho hb
     simp [this]
    ·have hij:=zoM D hp hb
     have:S j=false:=by
      cases hj:S j with
      | false=>rfl
      | true =>
       have:=zfJ hDC j p hp (hDC j p hp hj) i hb
       rw [h1] at this
       cases this
     rw [this]
     simp
     omega
   have htm:∀ t,t ∈ o.looksAt ops→(τ i).tm[t]?=σ.tm[t]?:=by
    intro t ht
    rw [I.tm,Iτ.tm]
    unfold tmAt
    rw [zhT (S:=S) (S':=fun k=>decide (k < i))]
    intro j hj hd
    rw [Option.bind_eq_some_iff] at hd
    obtain ⟨p,hp,hpd⟩:=hd
    exact hwr t j p hp hpd (.inl ht)
   have hL:∀ n b,zlY ops (τ i).cnt (zc2 ops i) (look (τ i).hp) n=some b→look σ.hp n=some b:=by
    intro n b hb
    unfold zlY at hb
    split at hb
    ·cases hb
    ·rename_i hc
     rw [Iτ.lk] at hb
     rw [I.lk]
     unfold lkAt at hb ⊢
     split
     ·rename_i hnc
      rw [if_pos hnc] at hb
      have hbit:Nat.testBit (zc2 ops i) n.2.1=true:=by
       cases hx:Nat.testBit (zc2 ops i) n.2.1 with
       | true=>rfl
       | false=>exact absurd ⟨by rw [Iτ.cnt];exact hnc,.inl hx⟩ hc
      have hcn:cons ops n.2.1=none:=by
       cases hx:cons ops n.2.1 with
       | none=>rfl
       | some j=>exact absurd ⟨by rw [Iτ.cnt];exact hnc,.inr (by rw [hx];rfl)⟩ hc
      have heat:∀ S':Nat→Bool,zgt ops S' n.2.1=false:=fun S'=>by unfold zgt;rw [hcn]
      rw [if_pos ⟨hsub _ hbit,heat _⟩]
      rw [if_pos ⟨by simpa using zoM D ho hbit,heat _⟩] at hb
      exact hb
     ·rename_i hnc
      rw [if_neg hnc] at hb
      exact hb
   have hLe:∀ d,zcf ops o=some d→∀ b,zlZ (τ i).cnt (zc2 ops i) (look (τ i).hp) ((τ i).cnt,d,0)=some b→look σ.hp ((τ i).cnt,d,0)=some b:=by
    intro d hd b hb
    obtain ⟨h2,h3,h4,_⟩:=D.eat i o d ho hd
    unfold zlZ at hb
    split at hb
    ·cases hb
    ·rw [Iτ.lk,Iτ.cnt] at hb
     rw [I.lk,Iτ.cnt]
     unfold lkAt at hb ⊢
     rw [if_pos rfl] at hb ⊢
     rw [if_pos ⟨hsub d h4,by unfold zgt;simp only [h2];exact h1⟩]
     rw [if_pos ⟨by simpa using h3,by unfold zgt;simp only [h2];simp⟩] at hb
     exact hb
   have hnm:=hone.nm
   rw [Iτ.cnt] at hnm
   have I':=I.step ho h1 hnm (fun t j hd hj hdj=>by
    rw [Option.bind_eq_some_iff] at hdj
    obtain ⟨p,hp,hpd⟩:=hdj
    have:=hwr t j p hp hpd (.inr hd)
    rw [hj] at this
    simpa using this.symm) (D.hce hDC h1) (ztr D ho Iτ hone)
   have hS':ins S i=fun j=>(listed.setIfInBounds i true).getD j false:=by
    funext j
    unfold ins
    split
    ·rename_i hj
     subst hj
     rw [Array.getD_eq_getD_getElem?,Array.getElem?_setIfInBounds_self_of_lt (by omega)]
     rfl
    ·rename_i hj
     rw [getD_set_ne false (Ne.symm hj),hgf]
   have hleft:left (ins S i) (zn ops ops.toList)=n:=by
    have:=zrj h1 hif
    omega
   have hlate':∀ j,zn ops ops.toList≤j→ins S i j=false:=fun j hj=>by
    unfold ins
    rw [if_neg (by omega)]
    exact hlate j hj
   have hDC':DC ops (ins S i):=by
    intro k p hp hk e he hb
    unfold ins at hk ⊢
    split
    ·rfl
    ·split at hk
     ·rename_i hki
      subst hki
      rw [ho] at hp
      injection hp with hp
      subst hp
      exact hpre' e he hb
     ·exact hDC k p hp hk e he hb
   have hmono:∀ m,S m=true→ins S i m=true:=fun m hm=>by unfold ins;split<;>first|rfl|exact hm
   have hgo:∀ E' a' w',Rel E' w0 (zeE T ops σ o (r i).1 (r i).2) a' w'→zhp E E' σ0.cnt i→zo (zeE T ops σ o (r i).1 (r i).2).hp→wpAny P .any ops Q (n+(ops.toList.drop (zn ops ops.toList)).length) (listed.setIfInBounds i true) a' w':=fun E' a' w' R' hN hs' =>
    ih _ (ins S i) E' _ a' w' (by simpa using hsz) hS' hleft hlate' hDC' I' R' (fun m hm=>by
     rcases hN m hm with h|⟨h2,h3⟩
     ·exact (hE m h).imp id fun h=>⟨h.1,hmono _ h.2⟩
     ·exact .inr ⟨h2,by unfold ins;rw [if_pos h3]⟩) hs'
   have hfresh:∀ j,E.φ (σ.cnt,i,j)=none:=fun j=>by
    cases hp:E.φ (σ.cnt,i,j) with
    | none=>rfl
    | some x =>
     rcases hE (σ.cnt,i,j) (by rw [hp];exact fun h=>by cases h) with h|⟨_,h⟩
     ·rw [I.cnt] at h;exact absurd h (Nat.lt_irrefl _)
     ·simp only at h
      rw [h1] at h
      cases h
   rcases hone with ⟨hw,hres⟩|⟨hw,hres⟩
   ·rw [zmM htm] at hw
    refine .inl ⟨zmN R hw,?_⟩
    obtain ⟨hst,_⟩:=zpb (σ':=σ) (by rw [I.cnt,Iτ.cnt]) (zvN htm) hL hLe hres
    exact (zhQ hT hF R hfresh hst (fun E' a' w' R' hN=>hgo E' a' w' R' (by rw [← I.cnt];exact hN) (ziO hst hSi))).1
   ·rw [zmM htm] at hw
    refine .inr ⟨zmN R hw,?_⟩
    have hno:zcf ops o=none:=by
     cases he:zcf ops o with
     | none=>rfl
     | some d =>
      obtain ⟨_,_,_,hg⟩:=zub he
      simp [zgF,hg] at hw
    rw [hres,ztX hno] at hgo
    exact hgo E _ w (zrZ R o) (fun m hm=>.inl hm) (by rw [zca];exact hSi)
  by_cases hqe:∃ q,erl ops q=true∧S q=false
  ·obtain ⟨q0,he0,hs0⟩:=hqe
   have hpick:∀ n q,zh3 ops n q=true→S q=false→∃ q' o',ops[q']?=some o'∧tOp o'=true∧Region.noSelect ops=true∧Region.free .any ops (zgr ops o') q'=true∧S q'=false∧(∀ e ∈ o'.after,Region.binds .any e=true→S e.on=true)∧q'≤q:=by
    intro n
    induction n with
    | zero=>intro q h;cases h
    | succ n ih =>
     intro q h hS
     unfold zh3 at h
     split at h
     ·rename_i o ho
      cases ht:tOp o with
      | false=>rw [ht] at h;cases h
      | true =>
      rw [ht] at h
      dsimp only at h
      cases hf:(Region.noSelect ops && Region.free .any ops (zgr ops o) q) with
      | false=>rw [hf] at h;cases h
      | true =>
      rw [hf] at h
      dsimp only at h
      rw [Bool.and_eq_true] at hf
      by_cases hd:∀ e ∈ o.after,Region.binds .any e=true→S e.on=true
      ·exact ⟨q,o,ho,ht,hf.1,hf.2,hS,hd,Nat.le_refl _⟩
      ·simp only [Classical.not_forall] at hd
       obtain ⟨e,he,hb,hs⟩:=hd
       have h2:=Array.all_eq_true_iff_forall_mem.1 h e he
       rw [hb] at h2
       dsimp only at h2
       obtain ⟨q',o',g1,g2,g3,g4,g5,g6,g7⟩:=ih e.on h2 (by simpa using hs)
       exact ⟨q',o',g1,g2,g3,g4,g5,g6,by have:=D.edge q o ho e he hb;omega⟩
     ·cases h
   have he1:zh3 ops 4 q0=true:=by
    unfold erl at he0
    cases hm:zuw ops with
    | false=>rw [hm] at he0;cases he0
    | true=>rw [hm] at he0;exact he0
   have hq0:∃ o0,ops[q0]?=some o0:=by
    cases h:ops[q0]? with
    | none=>unfold zh3 at he1;simp only [h] at he1;cases he1
    | some o0=>exact ⟨o0,rfl⟩
   obtain ⟨o0,ho0⟩:=hq0
   obtain ⟨q,o,ho,htp,hns,hfr,hSq,hpre,hle⟩:=hpick 4 q0 he1 hs0
   have hqf:q < zn ops ops.toList:=by have:=(D.earl q0 o0 ho0 he0).2;omega
   have hqs:q < ops.size:=(Array.getElem?_eq_some_iff.1 ho).1
   have hready:(Region.ready .any ops listed).contains q=true:=by
    rw [List.contains_iff_mem,mem_ready]
    exact ⟨by rw [hfl q hqs];exact hSq,o,ho,fun e he hb=>by rw [hgf];exact hpre e he hb⟩
   have hg:o.guard=none:=by
    unfold tOp at htp
    simp only [Bool.and_eq_true,Option.isNone_iff_eq_none] at htp
    exact htp.2
   have hwant:Region.wanted o (yielded ops a.tmps)=true:=by simp [Region.wanted,hg]
   have hfree:Region.free .any ops listed q=true:=zk4 hfr fun j hj=>by
    by_cases hjs:j < ops.size
    ·rw [hfl j hjs]
     rw [ziS (by simpa [zgr] using hjs)] at hj
     simp only [zgr,Array.getElem_map,Array.getElem_range] at hj
     obtain ⟨e,he,hb⟩:=Array.any_eq_true'.1 hj
     simp only [Bool.and_eq_true,beq_iff_eq] at hb
     rw [← hb.2]
     exact hpre e he hb.1
    ·rw [Array.getD_eq_getD_getElem?,Array.getElem?_eq_none (by omega)]
     rfl
   rcases key q o ho hSq hpre hqf with ⟨_,hw⟩|⟨hw,_⟩
   ·obtain ⟨v,hrun,hK⟩:=zo4 htp hQp hw
    exact wpAny_take ho hns hfree hready (fun c a w hq=>absurd hq (hQp _ _ _)) (.inl ⟨hwant,hrun⟩) hK
   ·rw [hwant] at hw;cases hw
  have hall:∀ q,erl ops q=true→S q=true:=fun q he=>by
   cases hs:S q with
   | true=>rfl
   | false=>exact absurd ⟨q,he,hs⟩ hqe
  by_cases hq:∃ q,zjy ops=some q∧S q=false∧∀ j,j < zn ops ops.toList→j≠q→S j=true
  ·obtain ⟨q,hlq,hSq,hrest⟩:=hq
   obtain ⟨hqf,hns,hfree,o,ho,hcp⟩:=zn2 hlq
   have hqs:q < ops.size:=by omega
   have hpre:∀ e ∈ o.after,Region.binds .any e=true→S e.on=true:=fun e he hb=>by
    have:=D.edge q o ho e he hb
    exact hrest _ (by omega) (by omega)
   have hlist:listed=zn1 ops q:=by
    refine Array.ext (by rw [hsz];simp [zn1]) fun j h1 h2=>?_
    have h3:=hgf j
    rw [Array.getD_eq_getD_getElem?,Array.getElem?_eq_getElem h1,Option.getD_some] at h3
    rw [h3]
    simp only [zn1,Array.getElem_map,Array.getElem_range]
    by_cases hj:j < zn ops ops.toList
    ·by_cases hjq:j=q
     ·subst hjq;rw [hSq];simp
     ·rw [hrest j hj hjq];simp [hj,hjq]
    ·rw [hlate j (by omega)];simp [hj]
   have hready:(Region.ready .any ops listed).contains q=true:=by
    rw [List.contains_iff_mem,mem_ready]
    exact ⟨by rw [hfl q hqs];exact hSq,o,ho,fun e he hb=>by rw [hgf];exact hpre e he hb⟩
   have hg:o.guard=none:=by
    unfold zis at hcp
    simp only [Bool.and_eq_true,Option.isNone_iff_eq_none] at hcp
    exact hcp.2
   have hwant:Region.wanted o (yielded ops a.tmps)=true:=by simp [Region.wanted,hg]
   rcases key q o ho hSq hpre hqf with ⟨_,hw⟩|⟨hw,_⟩
   ·obtain ⟨_,v,hrun,hK⟩:=zpi hcp hw
    exact wpAny_take ho hns (by rw [hlist];exact hfree) hready (fun c a w hq=>absurd hq (hQp _ _ _)) (.inl ⟨hwant,hrun⟩) hK
   ·rw [hwant] at hw;cases hw
  unfold wpAny
  constructor
  ·intro h0
   exfalso
   obtain ⟨j,hj,hjS,hlow⟩:=zm0 (S:=S) (n:=zn ops ops.toList) (by omega)
   obtain ⟨o,ho,_⟩:=H.step j hj
   have:j ∈ Region.ready .any ops listed:=mem_ready.2 ⟨by rw [hfl j (by omega)];exact hjS,o,ho,fun e he hb=>by rw [hgf];exact hlow _ (D.edge j o ho e he hb)⟩
   rw [h0] at this
   cases this
  ·intro i hi
   obtain ⟨h1,o,ho,hpre⟩:=mem_ready.1 hi
   have hilt:=(Array.getElem?_eq_some_iff.1 ho).1
   rw [hfl i hilt] at h1
   have hpre':∀ e ∈ o.after,Region.binds .any e=true→S e.on=true:=fun e he hb=>by rw [← hgf];exact hpre e he hb
   by_cases hif:i < zn ops ops.toList
   ·unfold wpOp
    simp only [ho]
    rcases key i o ho h1 hpre' hif with ⟨hw,h⟩|⟨hw,h⟩
    ·rw [if_pos hw];exact .inl h
    ·rw [if_neg (by rw [hw];simp)];exact h
   ·have h:=Nat.not_lt.1 hif
    obtain ⟨j,hj,hjS,hlow⟩:=zm0 (S:=S) (n:=zn ops ops.toList) (by omega)
    rcases D.tail i o ho h j (by omega) with hb|hb|⟨hif',hpj,hnone⟩|hb|⟨hb,_⟩
    ·exfalso
     have:=zfJ hDC i o ho hpre' j hb
     rw [hjS] at this
     cases this
    ·exfalso
     refine hq ⟨j,hb,hjS,fun k hk hkj=>?_⟩
     rcases D.tail i o ho h k (by omega) with hb'|hb'|hb'|hb'|⟨hb',_⟩
     ·exact zfJ hDC i o ho hpre' k hb'
     ·rw [hb] at hb';exact absurd (Option.some.inj hb').symm hkj
     ·rw [hb] at hb';cases hb'.2.2
     ·exact hall k hb'
     ·omega
    ·have hup:∀ m k,k=j+m→k < zn ops ops.toList→S k=false:=by
      intro m
      induction m with
      | zero=>intro k hk _;rw [hk];exact hjS
      | succ m ihm =>
       intro k hk hkf
       cases hSk:S k with
       | false=>rfl
       | true =>
        have hp:ops[k]?=some ops[k]:=Array.getElem?_eq_getElem (by omega)
        have:=zfJ hDC k _ hp (hDC k _ hp hSk) (k - 1) (D.chain k _ hp (by omega) hkf)
        rw [ihm (k - 1) (by omega) (by omega)] at this
        cases this
     have hS:S=fun k=>decide (k < j):=by
      funext k
      by_cases hk:k < j
      ·rw [hlow k hk];simp [hk]
      ·by_cases hkf:k < zn ops ops.toList
       ·rw [hup (k - j) k (by omega) hkf];simp [hk]
       ·rw [hlate k (by omega)];simp [hk]
     have I':=I
     rw [hS] at I'
     obtain ⟨g1,g2,g3⟩:=I'.same (H.inv D j (by omega))
     have wl:=hfork j E a w hpj hj (zrY R g1 g2) (fun m hm=>(hE m hm).imp id fun h=>⟨h.1,by
      have:=h.2
      rw [hS] at this
      simpa using this⟩) (fun n b hb=>hSi n b (by rw [g2];exact hb))
     have hlf:n+1=zn ops ops.toList - j:=by
      rw [← hn,hS,zn3]
     have hof:ops.toList.drop (zn ops ops.toList)=o::ops.toList.drop (zn ops ops.toList+1):=by
      rw [List.drop_eq_getElem_cons (by simp;omega)]
      congr 1
      have:ops.toList[zn ops ops.toList]?=some o:=by rw [← hif'];simpa using ho
      rw [List.getElem?_eq_getElem (by simp;omega)] at this
      exact Option.some.inj this
     have hlen:n+(ops.toList.drop (zn ops ops.toList)).length=((ops.toList.drop j).take (zn ops ops.toList - j)++ops.toList.drop (zn ops ops.toList+1)).length:=by
      simp only [List.length_append,List.length_take,List.length_drop,Array.length_toList]
      omega
     have hnext:∀ a' w',wpList P ops Q ((ops.toList.drop j).take (zn ops ops.toList - j)++ops.toList.drop (zn ops ops.toList+1)) a' w'→wpAny P .any ops Q (n+(ops.toList.drop (zn ops ops.toList)).length) (listed.setIfInBounds i true) a' w':=fun a' w' h'=>by
      rw [hlen]
      refine zsi D hQp hQo hnone rfl (by omega) (q0:=j) (fun p hp e he hb=>?_) hpj _ j _ a' w' (by omega) (Nat.le_refl _) (by simpa using hsz) (fun k hk=>?_) h'
      ·rw [← hif',ho] at hp
       injection hp with hp
       subst hp
       have:=hpre' e he hb
       rw [hS] at this
       simpa using this
      ·by_cases hki:k=i
       ·subst hki
        rw [Array.getD_eq_getD_getElem?,Array.getElem?_setIfInBounds_self_of_lt (by omega)]
        simp [hif']
       ·rw [getD_set_ne false (Ne.symm hki),hgf,hS]
        simp only [decide_eq_decide]
        omega
     unfold zjp at wl
     rw [hof,List.take_succ_cons,List.take_zero,List.singleton_append] at wl
     unfold wpList at wl
     unfold wpOp
     simp only [ho]
     split
     ·rename_i hw
      rw [if_pos hw] at wl
      exact wl.imp (Oper.wp_mono hnext) id
     ·rename_i hw
      rw [if_neg hw] at wl
      exact hnext _ _ wl
    ·exfalso
     have:=hall j hb
     rw [hjS] at this
     cases this
    ·omega
structure PermOk (ops:Array Oper) (p:List Nat):Prop where
 len:p.length=ops.size
 pos:∀ i,i < ops.size→posL p i 0 < ops.size∧p.getD (posL p i 0) 0=i
 get:∀ k,k < ops.size→p.getD k 0 < ops.size∧posL p (p.getD k 0) 0=k
 opr:∀ (i:Nat) o,ops[i]?=some o→o.guard=none∧∀ e ∈ o.after,e.on < ops.size
theorem zuK {ops:Array Oper} {p:List Nat} (h:zqv ops p=true):PermOk ops p:=by
 unfold zqv at h
 simp only [Bool.and_eq_true,decide_eq_true_eq,List.all_eq_true,List.mem_range,Option.isNone_iff_eq_none] at h
 obtain ⟨h1,h2,h3⟩:=h
 refine ⟨h1,fun i hi=>⟨(h2 i hi).1.1.1,(h2 i hi).1.1.2⟩,fun k hk=>⟨(h2 k hk).1.2,(h2 k hk).2⟩,fun i o ho=>?_⟩
 have hm:o ∈ ops.toList:=by
  rw [Array.mem_toList_iff]
  exact Array.mem_of_getElem? ho
 exact ⟨(h3 o hm).1,fun e he=>(h3 o hm).2 e (Array.mem_toList_iff.2 he)⟩
theorem zoo {ops:Array Oper} {p:List Nat} (h:PermOk ops p):(zhW ops p).size=ops.size:=by
 unfold zhW
 split
 ·rename_i he
  have:ops.size=0:=by rw [← Array.length_toList,he];rfl
  simp [this]
 ·simp [h.len]
theorem zlF {ops:Array Oper} {p:List Nat} (h:PermOk ops p) {k:Nat} (hk:k < ops.size):∃ o,ops[p.getD k 0]?=some o∧(zhW ops p)[k]?=some (reO p o):=by
 have hp:=(h.get k hk).1
 refine ⟨ops[p.getD k 0],Array.getElem?_eq_getElem hp,?_⟩
 have hkl:k < p.length:=by rw [h.len];exact hk
 have e:p.getD k 0=p[k]:=by rw [List.getD_eq_getElem?_getD,List.getElem?_eq_getElem hkl];rfl
 unfold zhW
 split
 ·rename_i he
  have:ops.size=0:=by rw [← Array.length_toList,he];rfl
  omega
 ·rename_i o0 t he
  simp only [List.getElem?_toArray,List.getElem?_map,List.getElem?_eq_getElem hkl,Option.map_some,Option.some.injEq]
  congr 1
  have hp':p[k] < ops.size:=by rw [← e];exact hp
  rw [List.getD_eq_getElem?_getD,Array.getElem?_toList,Array.getElem?_eq_getElem hp',Option.getD_some]
  simp only [e]
theorem zAv {P:Program} {p:List Nat} {o:Oper} {a:Act} {w:World} {K:Act→World→Prop} {Q:Exit→Act→World→Prop} (h:(reO p o).wp P a w K Q):o.wp P a w K Q:=h
theorem zd2 {l:Array Bool} {i:Nat} {d:Bool} (h:i < l.size):l.getD i d=l[i]:=by
 rw [Array.getD_eq_getD_getElem?,Array.getElem?_eq_getElem h];rfl
theorem zu7 {P:Program} {Q:Exit→Act→World→Prop} {ops:Array Oper} {p:List Nat} (h:PermOk ops p):∀ (fuel:Nat) (L L':Array Bool) (a:Act) (w:World),L.size=ops.size→L'.size=ops.size→(∀ i,i < ops.size→L.getD i true=L'.getD (posL p i 0) true) →
  wpAny P .any (zhW ops p) Q fuel L' a w→wpAny P .any ops Q fuel L a w:=by
 have hf:∀ (L L':Array Bool),L.size=ops.size→L'.size=ops.size→(∀ i,i < ops.size→L.getD i true=L'.getD (posL p i 0) true)→∀ i,i < ops.size→L.getD i false=L'.getD (posL p i 0) false:=fun L L' h1 h2 h3 i hi=>by
  have h4:=(h.pos i hi).1
  have:=h3 i hi
  rw [zd2 (by omega),zd2 (by omega)] at this ⊢
  exact this
 have hto:∀ (L L':Array Bool),L.size=ops.size→L'.size=ops.size→(∀ i,i < ops.size→L.getD i true=L'.getD (posL p i 0) true)→∀ i,i ∈ Region.ready .any ops L→i < ops.size∧posL p i 0 ∈ Region.ready .any (zhW ops p) L':=fun L L' h1 h2 h3 i hi=>by
  obtain ⟨g1,o,ho,g2⟩:=mem_ready.1 hi
  have hlt:=(Array.getElem?_eq_some_iff.1 ho).1
  refine ⟨hlt,mem_ready.2 ⟨by rw [← h3 i hlt];exact g1,?_⟩⟩
  obtain ⟨o',ho',hs⟩:=zlF h (h.pos i hlt).1
  rw [(h.pos i hlt).2,ho] at ho'
  injection ho' with ho'
  subst ho'
  refine ⟨_,hs,fun e he hb=>?_⟩
  obtain ⟨e0,he0,rfl⟩:=Array.mem_map.1 he
  have hon:=(h.opr i o ho).2 e0 he0
  rw [← hf L L' h1 h2 h3 e0.on hon]
  exact g2 e0 he0 hb
 have hfrom:∀ (L L':Array Bool),L.size=ops.size→L'.size=ops.size→(∀ i,i < ops.size→L.getD i true=L'.getD (posL p i 0) true)→∀ k,k ∈ Region.ready .any (zhW ops p) L'→p.getD k 0 ∈ Region.ready .any ops L:=fun L L' h1 h2 h3 k hk=>by
  obtain ⟨g1,o',ho',g2⟩:=mem_ready.1 hk
  have hlt:k < ops.size:=by have:=(Array.getElem?_eq_some_iff.1 ho').1;rw [zoo h] at this;exact this
  obtain ⟨o,ho,hs⟩:=zlF h hlt
  rw [hs] at ho'
  injection ho' with ho'
  subst ho'
  have hp:=h.get k hlt
  refine mem_ready.2 ⟨by rw [h3 _ hp.1,hp.2];exact g1,o,ho,fun e he hb=>?_⟩
  have hon:=(h.opr _ o ho).2 e he
  rw [hf L L' h1 h2 h3 e.on hon]
  exact g2 { e with on:=posL p e.on 0 } (Array.mem_map.2 ⟨e,he,rfl⟩) hb
 intro fuel
 induction fuel with
 | zero =>
  intro L L' a w h1 h2 h3 H
  refine ⟨?_,H.2⟩
  rw [List.eq_nil_iff_forall_not_mem]
  intro i hi
  have:=(hto L L' h1 h2 h3 i hi).2
  rw [H.1] at this
  cases this
 | succ fuel ih =>
  intro L L' a w h1 h2 h3 H
  refine ⟨fun h0=>H.1 ?_,fun i hi=>?_⟩
  ·rw [List.eq_nil_iff_forall_not_mem]
   intro k hk
   have:=hfrom L L' h1 h2 h3 k hk
   rw [h0] at this
   cases this
  ·obtain ⟨hlt,hr⟩:=hto L L' h1 h2 h3 i hi
   have hw:=H.2 _ hr
   obtain ⟨o',ho',hs⟩:=zlF h (h.pos i hlt).1
   rw [(h.pos i hlt).2] at ho'
   have hK:∀ a' w',wpAny P .any (zhW ops p) Q fuel (L'.setIfInBounds (posL p i 0) true) a' w'→wpAny P .any ops Q fuel (L.setIfInBounds i true) a' w':=fun a' w'=>ih _ _ a' w' (by simpa using h1) (by simpa using h2) (fun j hj=>by
    have hj1:=(h.pos j hj).1
    have hi1:=(h.pos i hlt).1
    rw [zd2 (by simpa using (by omega:j < L.size)),zd2 (by simpa using (by omega:posL p j 0 < L'.size)),Array.getElem_setIfInBounds,Array.getElem_setIfInBounds]
    by_cases hij:i=j
    ·subst hij
     rw [if_pos rfl,if_pos rfl]
    ·have:posL p i 0≠posL p j 0:=fun e=>hij (by rw [← (h.pos i hlt).2,e,(h.pos j hj).2])
     rw [if_neg hij,if_neg this]
     have:=h3 j hj
     rw [zd2 (by omega),zd2 (by omega)] at this
     exact this)
   unfold wpOp at hw ⊢
   simp only [hs] at hw
   simp only [ho']
   have hg:o'.guard=none:=(h.opr _ o' ho').1
   have hwant:Region.wanted o' (yielded ops a.tmps)=true:=by simp [Region.wanted,hg]
   have hwant':Region.wanted (reO p o') (yielded (zhW ops p) a.tmps)=true:=by simp [Region.wanted,reO,hg]
   rw [if_pos hwant'] at hw
   rw [if_pos hwant]
   rcases hw with hw|⟨hw1,hw2⟩
   ·exact .inl (Oper.wp_mono hK (zAv hw))
   ·exact .inr ⟨hw1,hw2⟩
theorem zkB {P:Program} {Q:Exit→Act→World→Prop} {ops:Array Oper} {p:List Nat} {a:Act} {w:World} (h:wpAny P .any (zkA ops p) Q (zkA ops p).size (Array.replicate (zkA ops p).size false) a w):wpAny P .any ops Q ops.size (Array.replicate ops.size false) a w:=by
 unfold zkA at h
 cases hb:zqv ops p with
 | false=>rw [hb] at h;exact h
 | true =>
  rw [hb] at h
  simp only [cond_true] at h
  have hp:=zuK hb
  rw [zoo hp] at h
  refine zu7 hp _ _ _ _ _ (by simp) (by simp) (fun i hi=>?_) h
  have:=(hp.pos i hi).1
  rw [zd2 (by simpa using hi),zd2 (by simpa using this)]
  simp
theorem zuU {P:Program} {Q:Exit→Act→World→Prop} {ops:Array Oper} {a:Act} {w:World} (h:wpAny P .any (zon ops) Q (zon ops).size (Array.replicate (zon ops).size false) a w):wpAny P .any ops Q ops.size (Array.replicate ops.size false) a w:=by
 unfold zon zyf at h
 cases hm:zuv (zop ops ops.toList 0) with
 | true=>rw [hm] at h;exact zkB h
 | false =>
  rw [hm] at h
  dsimp only at h
  revert h
  generalize ((List.range ops.size).all _)=b
  intro h
  cases b with
  | true=>exact h
  | false=>exact zkB h
theorem zuT {P:Program} {Q:Exit→Act→World→Prop} {ops:Array Oper} {a:Act} {w:World} (h:wpAny P .any (zom ops) Q (zom ops).size (Array.replicate (zom ops).size false) a w):wpAny P .any ops Q ops.size (Array.replicate ops.size false) a w:=by
 unfold zom zwu at h
 cases hb:Nat.blt (zn ops ops.toList) ops.size with
 | false=>rw [hb] at h;exact h
 | true =>
  rw [hb] at h
  simp only [cond_true] at h
  generalize zvH _ _ _=p at h
  unfold zwv at h
  cases hp:p == List.range ops.size with
  | true=>rw [hp] at h;exact h
  | false=>rw [hp] at h;exact zkB h
theorem zuV {P:Program} {Q:Exit→Act→World→Prop} {ops:Array Oper} {a:Act} {w:World} (h:wpAny P .any (zmb ops) Q (zmb ops).size (Array.replicate (zmb ops).size false) a w):wpAny P .any ops Q ops.size (Array.replicate ops.size false) a w:=zuU (zuT h)
def onB (ops:Array Oper):Bool:=ops.toList.all fun o=>o.after.all fun e=>decide (e.on < ops.size)
def znJ (ops:Array Oper):Bool:=bif genB ops then onB ops else zoA (zmb ops)
theorem zqc {P:Program} {t:TypeId} {f:Array Field} {n:Nat} {fd:Field} (hu:P.underlying t=some (.struct f)) (hf:f[n]?=some fd) (hs:zeH P fd.type≠0) (x:Value):zG P (Instr.fieldAt t x n):=by
 obtain ⟨i,d,hi,hsz,_⟩:=zkD hs
 have h0:¬ i.size=0:=by rw [hsz];exact hs
 have hr:∀ w,(Instr.fieldAt t x n).run P w=((Instr.sureAddr x >>= fun a=>pure (.pointer (some (a.add fd.offset)))):Sem Value).run P w:=fun w=>by
  simp only [Instr.fieldAt,Sem.run_bind,run_underlying hu,Result.andThen_ok,hf]
  congr 1
  funext a w'
  simp only [fieldPlace,Sem.run_bind,zet hi,Result.andThen_ok,if_neg h0,Sem.run_pure]
 have hst:zG P ((Instr.sureAddr x >>= fun a=>pure (.pointer (some (a.add fd.offset)))):Sem Value):=zG.bind (by
  unfold Instr.sureAddr
  split
  ·exact zG.pure _
  ·exact zG.halt _) fun a=>zG.pure _
 rcases hst with ⟨v,hv⟩|hn
 ·exact .inl ⟨v,fun w=>(hr w).trans (hv w)⟩
 ·exact .inr fun w v w' h=>hn w v w' ((hr w).symm.trans h)
theorem zxS {P:Program} {T:TT} (hT:∀ t ti,T t=some ti→ttOf P t=some ti) {o:Oper} (h:tOpF T o=true) {a:Act} {w:World} {K:Act→World→Prop} {Q:Exit→Act→World→Prop} (hQp:∀ c a w,¬ Q (.panic c) a w) (hw:o.wp P a w K Q):o.guard=none∧∃ v,(∀ w',(execOp a.eval o).run P w'=.ok (.value v) w')∧K (a.put o.dst v) w:=by
 unfold tOpF at h
 rw [Bool.or_eq_true] at h
 rcases h with h|h
 ·refine ⟨?_,zo4 h hQp hw⟩
  unfold tOp at h
  simp only [Bool.and_eq_true,Option.isNone_iff_eq_none] at h
  exact h.2
 ·simp only [Bool.and_eq_true,Option.isNone_iff_eq_none] at h
  obtain ⟨h1,hg⟩:=h
  refine ⟨hg,?_⟩
  split at h1
  ·rename_i t s f hop
   have hst:zG P (Instr.fieldAt t (a.eval (.tmp s)) f):=by
    unfold fldB at h1
    split at h1
    ·rename_i fs sz z ht
     split at h1
     ·rename_i y hy
      obtain ⟨g,hu,rfl⟩:=zfX (hT _ _ ht) rfl
      obtain ⟨fd,hf,rfl⟩:=zgR hy
      exact zqc hu hf (fun h0=>by
       simp only [Bool.not_eq_true'] at h1
       rw [h0] at h1
       cases h1) _
     ·cases h1
    ·cases h1
   rcases hst with ⟨v,hv⟩|hn
   ·have hr:∀ w',(execOp a.eval o).run P w'=.ok (.value v) w':=fun w'=>by simp [execOp,hop,hv w']
    refine ⟨v,hr,?_⟩
    unfold Oper.wp at hw
    rw [hr w] at hw
    exact hw
   ·exfalso
    unfold Oper.wp at hw
    cases hr:(Instr.fieldAt t (a.eval (.tmp s)) f).run P w with
    | ok v w1=>exact hn _ _ _ hr
    | halt x w1 =>
     have e:(execOp a.eval o).run P w=.halt x w1:=by simp [execOp,hop,hr]
     rw [e] at hw
     cases x<;>first|exact hQp _ _ _ hw|exact hw
  ·rename_i s hop
   have hr:∀ w',(execOp a.eval o).run P w'=.ok (.value (a.eval (.tmp s))) w':=fun w'=>by simp [execOp,hop]
   refine ⟨_,hr,?_⟩
   unfold Oper.wp at hw
   rw [hr w] at hw
   exact hw
  ·cases h1
theorem zpK {ops:Array Oper} {done:List Nat} {listed:Array Bool} (hsz:listed.size=ops.size) (hS:∀ j,j < ops.size→listed.getD j false=done.contains j) (hE:∀ (i:Nat) (o:Oper),ops[i]?=some o→∀ e ∈ o.after,e.on < ops.size):Region.ready .any ops listed=zi4 ops done:=by
 unfold Region.ready zi4
 refine List.filter_congr fun i hi=>?_
 have hlt:i < ops.size:=List.mem_range.1 hi
 have ho:ops[i]?=some ops[i]:=Array.getElem?_eq_getElem hlt
 have h1:listed.getD i true=done.contains i:=by
  rw [← hS i hlt,Array.getD_eq_getD_getElem?,Array.getD_eq_getD_getElem?,Array.getElem?_eq_getElem (by omega)]
  rfl
 rw [h1,ho]
 simp only [Option.map_some,Option.getD_some]
 congr 1
 rw [Bool.eq_iff_iff,Array.all_eq_true_iff_forall_mem,Array.all_eq_true_iff_forall_mem]
 constructor
 ·intro h e he
  have:=h e he
  rwa [hS _ (hE i _ ho e he)] at this
 ·intro h e he
  have:=h e he
  rwa [hS _ (hE i _ ho e he)]
theorem znT {β:Type} {y:β}:∀ (l:List (Option β)),zlT za l=some y→∀ x ∈ l,x=some y
 | [],h,x,hx=>by cases hx
 | [z],h,x,hx=>by
  rw [List.mem_singleton] at hx
  rw [hx]
  exact h
 | z::z2::l,h,x,hx=>by
  have h':zhq 0 z (zlT za (z2::l))=some y:=h
  rcases List.mem_cons.1 hx with hx|hx
  ·rw [hx];exact zj9 h'
  ·exact znT (z2::l) (zjG h') x hx
theorem zrF {ops:Array Oper} (h:onB ops=true) (i:Nat) (o:Oper) (ho:ops[i]?=some o) (e:Edge) (he:e ∈ o.after):e.on < ops.size:=by
 unfold onB at h
 rw [List.all_eq_true] at h
 have:=h o (by rw [Array.mem_toList_iff];exact Array.mem_of_getElem? ho)
 rw [Array.all_eq_true_iff_forall_mem] at this
 simpa using this e he
def HInv (H:List Nm) (E0:Env) (wS:World) (E:Env) (w:World):Prop:=∀ n ∈ H,∃ g,E0.φ n=some (some g)∧E.φ n=some (some g)∧E.ω g=some (n,none)∧w.heap[g]?=wS.heap[g]?
def HS (H:List Nm) (E0:Env) (wS:World) (w:World):Prop:=∀ n ∈ H,∀ g,E0.φ n=some (some g)→w.heap[g]?=wS.heap[g]?
theorem HInv.hs {H:List Nm} {E0 E:Env} {wS w:World} (h:HInv H E0 wS E w):HS H E0 wS w:=fun n hn g hg=>by
 obtain ⟨g',h1,_,_,h4⟩:=h n hn
 rw [hg] at h1
 injection h1 with h1
 injection h1 with h1
 rw [h1]
 exact h4
theorem HInv.kep {H:List Nm} {E0 E E':Env} {wS w w':World} (h:HInv H E0 wS E w) (k:∀ n ∈ H,Kep E E' w w' n):HInv H E0 wS E' w':=fun n hn=>by
 obtain ⟨g,h1,h2,h3,h4⟩:=h n hn
 obtain ⟨k1,k2,k3⟩:=k n hn g h2 h3
 exact ⟨g,h1,k1,k2,k3.trans h4⟩
theorem zyV {m n:Nm} (h:nmNe m n=false):m=n:=by
 obtain ⟨a,b,c⟩:=m
 obtain ⟨d,e,f⟩:=n
 simp only [nmNe,Bool.not_eq_false',Bool.and_eq_true] at h
 rw [Nat.eq_of_beq_eq_true h.1,Nat.eq_of_beq_eq_true h.2.1,Nat.eq_of_beq_eq_true h.2.2]
theorem zvR {T:TT} {ops:Array Oper} {σ:St} {j:Nat} {o:Oper} (ho:ops[j]?=some o) (h:frX T ops j=true) (n:Nm):zcA n σ o=true:=by
 unfold frX at h
 rw [ho] at h
 simp only [Bool.and_eq_true] at h
 have ht:=h.1
 unfold tOpF tOp at ht
 rw [Bool.or_eq_true] at ht
 unfold zcA
 rcases ht with ht|ht<;>simp only [Bool.and_eq_true] at ht<;>have h1:=ht.1<;>split at h1<;>first|(exfalso;simp at h1;done)|(rename_i hop;rw [hop])
theorem zvS {n:Nm} {σ:St} {o:Oper} {t:TypeId} {x:Operand} (ho:o.op=.load t x) (hk:takIds.contains t=false):zcA n σ o=true:=by
 unfold zcA
 rw [ho]
 dsimp only
 rw [hk]
theorem zxg {P:Program} {T:TT} (hT:∀ t ti,T t=some ti→ttOf P t=some ti) {F:Fns} {E:Env} {w0:Bs} {σ:St} {a:Act} {w:World} (R:Rel E w0 σ a w) {i:Nat} {o:Oper} {σ':St} (h:zgE za T F σ i o=some σ') {t:TypeId} {x:Operand} (ho:o.op=.load t x) (hk:takIds.contains t=false) {m:Nm} {kk idx off:Nat} (hx:σ.get x=.c (.ptr m kk idx off)) :
  ∃ v,∀ w',(∀ g,E.φ m=some (some g)→w'.heap[g]?=w.heap[g]?)→(execOp a.eval o).run P w'=.ok (.value v) w':=by
 unfold zgE vshr zqj at h
 rw [ho] at h
 simp only at h
 rw [hk] at h
 simp only at h
 unfold zgp at h
 rw [ho] at h
 simp only at h
 unfold zj7 zb2 at h
 rw [ho] at h
 simp only [hx] at h
 split at h
 rotate_left
 ·cases h
 rename_i p nb hap
 split at hap
 rotate_left
 ·cases hap
 rename_i ti ht
 split at hap
 rotate_left
 ·cases hap
 rename_i b hb
 split at hap
 rotate_left
 ·cases hap
 rename_i es he
 split at hap
 rotate_left
 ·cases hap
 rename_i hs
 rw [Option.map_eq_some_iff] at hap
 obtain ⟨q,hq,_⟩:=hap
 have hg:=zaA R x
 rw [hx] at hg
 obtain ⟨v,hv,_⟩:=zpD (hT _ _ ht) (R.blk m b hb) he hs hq hg
 exact ⟨v,fun w' hw'=>by simp [execOp,ho,hv w' hw']⟩
theorem zox (a:Nat):Nat.blt a a=false:=by
 cases h:Nat.blt a a with
 | false=>rfl
 | true=>exact absurd (Nat.le_of_ble_eq_true h) (Nat.not_succ_le_self a)
theorem zxh:∀ x y:Nm,ltNm x y=true→x≠y:=by
 rintro ⟨a,b,c⟩ ⟨d,e,f⟩ h heq
 injection heq with h1 h2
 injection h2 with h2 h3
 subst h1 h2 h3
 unfold ltNm at h
 dsimp only at h
 rw [zox a,zox b,zox c,Nat.beq_refl,Nat.beq_refl] at h
 cases h
theorem zpE (x:Nm×Bk) (i:Nm):∀ l:List (Nm×Bk),look (insH x l) i=look (x::l) i
 | []=>rfl
 | y::r=>by
  unfold insH
  cases hl:ltNm y.1 x.1 with
  | false=>rfl
  | true =>
   have hne:=zxh _ _ hl
   have ih:=zpE x i r
   obtain ⟨xn,xb⟩:=x
   obtain ⟨yn,yb⟩:=y
   dsimp only at hne
   rw [cond_true]
   show (if yn=i then some yb else look (insH (xn,xb) r) i)=(if xn=i then some xb else (if yn=i then some yb else look r i))
   rw [ih]
   show (if yn=i then some yb else (if xn=i then some xb else look r i))=_
   by_cases h1:yn=i
   ·have h2:¬ xn=i:=fun h=>hne (h1.trans h.symm)
    rw [if_pos h1,if_neg h2]
    rw [if_pos h1]
   ·rw [if_neg h1]
    by_cases h2:xn=i
    ·rw [if_pos h2,if_pos h2]
    ·rw [if_neg h2,if_neg h2,if_neg h1]
theorem zlc (i:Nm):∀ l:List (Nm×Bk),look (srtH l) i=look l i
 | []=>rfl
 | x::r=>by
  unfold srtH
  rw [zpE]
  obtain ⟨xn,xb⟩:=x
  show (if xn=i then some xb else look (srtH r) i)=(if xn=i then some xb else look r i)
  rw [zlc i r]
theorem zxD {E:Env} {w0:Bs} {σ:St} {a:Act} {w:World} (R:Rel E w0 σ a w):Rel E w0 ⟨σ.tm,srtH σ.hp,σ.cnt⟩ a w :=
 ⟨R.wf,R.dfr,R.siz,R.tmp,fun i b h=>R.blk i b (by rw [← zlc i σ.hp];exact h),R.kp,R.bs⟩
theorem zsW {hp:List (Nm×Bk)} (h:zo hp):zo (srtH hp):=fun n b hb=>h n b (by rw [← zlc n hp];exact hb)
theorem ztU (hT:∀ t ti,T t=some ti→ttOf P t=some ti) {β:Type} {k:St→Option β} {y:β} {Q:Exit→Act→World→Prop} {c:Nat} (hQp:∀ c a w,¬ Q (.panic c) a w) (hQo:¬ LetsOut Q) (hOn:onB ops=true) {H:List Nm} {E0:Env} {wS:World} :
  ∀ (n:Nat) (w0:Bs) (_:zac P F w0) (_:∀ w1,Le w0 w1→∀ E σ a w,Rel E w1 σ a w→zgm E (c+1)→zo σ.hp→σ.cnt=c→k σ=some y→Q .normal a w) (done:List Nat) (listed:Array Bool) (E:Env) (σ:St) (a:Act) (w:World),listed.size=ops.size→(∀ j,j < ops.size→listed.getD j false=done.contains j)→Rel E w0 σ a w→(∀ m,E.φ m≠none→m.1 < c∨(m.1=c∧done.contains m.2.1=true))→zo σ.hp→σ.cnt=c→HInv H E0 wS E w→agen za T F ops H n done σ k=some y→wpAnyH P .any ops Q (HS H E0 wS) n listed a w:=by
 intro n
 induction n with
 | zero =>
  intro w0 hF hQ done listed E σ a w hsz hS R hE hSi hc hI h
  unfold agen at h
  have hr:=zpK hsz hS (zrF hOn)
  split at h
  ·rename_i h0
   exact ⟨by rw [hr,h0],hQ w0 (Le.refl w0) E _ a w (zxD R) (fun m hm=>by rcases hE m hm with h|⟨h,_⟩<;>omega) (zsW hSi) hc h⟩
  ·cases h
 | succ n ih =>
  intro w0 hF hQ done listed E σ a w hsz hS R hE hSi hc hI h
  subst hc
  unfold agen at h
  have hr:=zpK hsz hS (zrF hOn)
  have step:∀ j ∈ zi4 ops done,∀ o,ops[j]?=some o→(∀ n ∈ H,zcA n σ o=true)→(match o.guard with
     | none=>(match zgE za T F σ j o with
      | some σ'=>agen za T F ops H n (j::done) σ' k
      | none=>none)
     | some _=>none)=some y→o.guard=none∧(∃ σ',zgE za T F σ j o=some σ')∧o.wp P a w (fun a' w'=>HS H E0 wS w'∧wpAnyH P .any ops Q (HS H E0 wS) n (listed.setIfInBounds j true) a' w') Q:=by
   intro j hj o ho hkeep hs
   rw [← hr,mem_ready] at hj
   obtain ⟨hl,o2,ho2,hpre⟩:=hj
   rw [ho] at ho2
   injection ho2 with ho2
   subst ho2
   have hlt:j < ops.size:=(Array.getElem?_eq_some_iff.1 ho).1
   have hnd:done.contains j=false:=by
    rw [← hS j hlt,Array.getD_eq_getD_getElem?,Array.getElem?_eq_getElem (by omega)]
    rw [Array.getD_eq_getD_getElem?,Array.getElem?_eq_getElem (by omega)] at hl
    exact hl
   split at hs
   ·rename_i hg
    split at hs
    ·rename_i σ' hv
     have hn:∀ x,E.φ (σ.cnt,j,x)=none:=fun x=>by
      cases hp:E.φ (σ.cnt,j,x) with
      | none=>rfl
      | some z =>
       rcases hE (σ.cnt,j,x) (by rw [hp];exact fun h=>by cases h) with h|⟨_,h⟩
       ·exact absurd h (Nat.lt_irrefl _)
       ·have h':done.contains j=true:=h
        rw [hnd] at h'
        cases h'
     obtain ⟨h1,h2,h3⟩:=zsh (K:=fun a' w'=>HS H E0 wS w'∧wpAnyH P .any ops Q (HS H E0 wS) n (listed.setIfInBounds j true) a' w') (Q:=Q) hT hF R hn hSi hv
     refine ⟨hg,⟨σ',hv⟩,h1 fun E' w1 a' w' hx R' hN hKp=>?_⟩
     have hI':=hI.kep fun m hm=>hKp m (hkeep m hm)
     refine ⟨hI'.hs,?_⟩
     refine ih w1 (hF.ext hx) (fun w2 h=>hQ w2 (hx.trans h)) (j::done) _ E' σ' a' w' (by simpa using hsz) (fun q hq=>?_) R' (fun m hm=>?_) h3 h2 hI' hs
     ·by_cases hqj:q=j
      ·subst hqj
       rw [Array.getD_eq_getD_getElem?,Array.getElem?_setIfInBounds_self_of_lt (by omega)]
       simp
      ·rw [getD_set_ne false (Ne.symm hqj),hS q hq,List.contains_cons]
       simp [hqj]
     ·rcases hN m hm with h|⟨h,h'⟩
      ·rcases hE m h with h|⟨h,h'⟩
       ·exact .inl h
       ·exact .inr ⟨h,by rw [List.contains_cons,h',Bool.or_true]⟩
      ·exact .inr ⟨h,by rw [List.contains_cons,h'];simp⟩
    ·cases hs
   ·cases hs
  have freeOk:∀ j ∈ zi4 ops done,∀ o,ops[j]?=some o→Region.free .any ops (zgr ops o) j=true→Region.free .any ops listed j=true:=by
   intro j hj o ho hfr
   have hjr:j ∈ Region.ready .any ops listed:=by rw [hr];exact hj
   obtain ⟨hl,o2,ho2,hpre⟩:=mem_ready.1 hjr
   rw [ho] at ho2
   injection ho2 with ho2
   subst ho2
   exact zk4 hfr fun q hq=>by
     by_cases hqs:q < ops.size
     ·rw [ziS (by simpa [zgr] using hqs)] at hq
      simp only [zgr,Array.getElem_map,Array.getElem_range] at hq
      obtain ⟨e,he,hb⟩:=Array.any_eq_true'.1 hq
      simp only [Bool.and_eq_true,beq_iff_eq] at hb
      have:=hpre e he hb.1
      rw [hb.2] at this
      rw [Array.getD_eq_getD_getElem?,Array.getElem?_eq_getElem (by omega)] at this ⊢
      exact this
     ·rw [Array.getD_eq_getD_getElem?,Array.getElem?_eq_none (by omega)]
      rfl
  split at h
  ·cases h
  ·rename_i i r hir
   have hne:Region.ready .any ops listed≠[]:=by rw [hr,hir];exact fun h=>by cases h
   split at h
   ·rename_i j hf
    have hj:j ∈ zi4 ops done:=by rw [hir];exact List.mem_of_find?_eq_some hf
    have hfx:(frX T ops j || ldX H ops σ j)=true:=List.find?_some (p:=fun j=>frX T ops j || ldX H ops σ j) hf
    split at h
    rotate_left
    ·cases h
    rename_i o ho
    have hjr:j ∈ Region.ready .any ops listed:=by rw [hr];exact hj
    rcases Bool.or_eq_true_iff.1 hfx with hfx|hfx
    ·have hkeep:∀ n ∈ H,zcA n σ o=true:=fun n _=>zvR ho hfx n
     obtain ⟨hg,_,hw⟩:=step j hj o ho hkeep h
     unfold frX at hfx
     rw [ho] at hfx
     simp only [Bool.and_eq_true] at hfx
     obtain ⟨htp,hns,hfr⟩:=hfx
     obtain ⟨_,v,hrun,hK⟩:=zxS hT htp hQp hw
     exact wpAnyH_take ho hns (freeOk j hj o ho hfr) (List.contains_iff_mem.2 hjr) (fun c a w hq=>absurd hq (hQp _ _ _)) (.inl ⟨by simp [Region.wanted,hg],fun w' _=>hrun w'⟩) hI.hs hK.2
    ·unfold ldX at hfx
     rw [ho] at hfx
     simp only [Bool.and_eq_true] at hfx
     obtain ⟨hld,_,hns,hfr⟩:=hfx
     split at hld
     rotate_left
     ·cases hld
     rename_i t p hop
     rw [Bool.and_eq_true] at hld
     obtain ⟨hkt,hld⟩:=hld
     have hkt:takIds.contains t=false:=by simpa using hkt
     split at hld
     rotate_left
     ·cases hld
     rename_i m kk idx off hm
     obtain ⟨n2,hn2,hmn⟩:=List.any_eq_true.1 hld
     have hmn:m=n2:=zyV (by simpa using hmn)
     subst hmn
     obtain ⟨hg,⟨σ',hv⟩,hw⟩:=step j hj o ho (fun n _=>zvS hop hkt) h
     obtain ⟨v,hrun⟩:=zxg hT R hv hop hkt hm
     obtain ⟨g,g1,g2,g3,g4⟩:=hI m hn2
     have hrun2:∀ w',HS H E0 wS w'→(execOp a.eval o).run P w'=.ok (.value v) w':=fun w' hw'=>hrun w' fun g' hg'=>by
      rw [g2] at hg'
      injection hg' with hg'
      injection hg' with hg'
      rw [← hg']
      exact (hw' m hn2 g g1).trans g4.symm
     have hK:HS H E0 wS w∧wpAnyH P .any ops Q (HS H E0 wS) n (listed.setIfInBounds j true) (a.put o.dst v) w:=by
      unfold Oper.wp at hw
      rw [hrun2 w hI.hs] at hw
      exact hw
     exact wpAnyH_take ho hns (freeOk j hj o ho hfr) (List.contains_iff_mem.2 hjr) (fun c a w hq=>absurd hq (hQp _ _ _)) (.inl ⟨by simp [Region.wanted,hg],hrun2⟩) hI.hs hK.2
   ·refine ⟨fun h0=>absurd h0 hne,fun j hj=>?_⟩
    rw [hr] at hj
    have hx:=znT _ h _ (List.mem_map_of_mem (by rw [← hir];exact hj))
    split at hx
    rotate_left
    ·cases hx
    rename_i o ho
    have hx2:(∀ n ∈ H,zcA n σ o=true)∧(match o.guard with
     | none=>(match zgE za T F σ j o with
      | some σ'=>agen za T F ops H n (j::done) σ' k
      | none=>none)
     | some _=>none)=some y:=by
     cases hgu:o.guard with
     | some z=>rw [hgu] at hx;cases hx
     | none =>
      rw [hgu] at hx
      dsimp only at hx ⊢
      cases hvs:zgE za T F σ j o with
      | none=>rw [hvs] at hx;cases hx
      | some σ' =>
       rw [hvs] at hx
       dsimp only at hx ⊢
       cases hck:chkH H σ o with
       | false=>rw [hck] at hx;cases hx
       | true =>
        rw [hck] at hx
        exact ⟨fun n hn=>List.all_eq_true.1 hck n hn,hx⟩
    obtain ⟨hg,_,hw⟩:=step j hj o ho hx2.1 hx2.2
    unfold wpOp
    simp only [ho]
    rw [if_pos (by simp [Region.wanted,hg])]
    exact .inl hw
theorem zw3 {σ:St} {E:Env} {w0:Bs} {a:Act} {w:World} (R:Rel E w0 σ a w):HInv (zul σ ops) E w E w:=by
 intro n hn
 unfold zul at hn
 rw [List.mem_filter,List.mem_filterMap] at hn
 obtain ⟨⟨o,_,ho⟩,_⟩:=hn
 have key:∀ p,boxN σ (σ.get (.tmp p))=some n→∃ g,E.φ n=some (some g)∧E.φ n=some (some g)∧E.ω g=some (n,none)∧w.heap[g]?=w.heap[g]?:=by
  intro p hp
  unfold boxN at hp
  split at hp
  rotate_left
  ·cases hp
  rename_i m kk idx off hm
  split at hp
  rotate_left
  ·cases hp
  rename_i b hb
  split at hp
  ·cases hp
  rename_i hrow
  injection hp with hp
  subst hp
  have hg:=zaA R (.tmp p)
  rw [hm] at hg
  obtain ⟨g,hφ,_⟩:=hg
  rcases R.blk m b hb with ⟨h1,_⟩|⟨g',cur,fz,h1,hω,_⟩
  ·rw [hφ] at h1;injection h1 with h1;cases h1
  ·rw [hφ] at h1
   injection h1 with h1
   injection h1 with h1
   subst h1
   exact ⟨g,hφ,hφ,hω,rfl⟩
 split at ho
 ·exact key _ ho
 ·exact key _ ho
 ·cases ho
theorem zqT (hm:P.follows .mixedOrders=true) (hT:∀ t ti,T t=some ti→ttOf P t=some ti) {w0:Bs} (hF:zac P F w0):zho P T F znJ w0:=by
 intro ops hok id E σ a w β k y Q0 R hfr hSi h hQ0
 refine Code.wp_mono (fun e a' w' (q:e=.normal∧Q0 .normal a' w')=>by rw [q.1];exact q.2) ?_
 generalize hQd:(fun (e:Exit) (a':Act) (w':World)=>e=.normal∧Q0 .normal a' w')=Q
 have hQ:∀ w1,Le w0 w1→∀ E' σ' a' w',Rel E' w1 σ' a' w'→zgm E' (σ.cnt+1)→zo σ'.hp→σ'.cnt=σ.cnt→k σ'=some y→Q .normal a' w':=fun w1 hx E' σ' a' w' h1 h2 h3 h4 h5=>by rw [← hQd];exact ⟨rfl,hQ0 w1 hx E' σ' a' w' h1 h2 h3 h4 h5⟩
 have hQp:∀ c a w,¬ Q (.panic c) a w:=fun c a w hq=>by rw [← hQd] at hq;cases hq.1
 have R1:Rel E w0 σ a { w with drawn:=w.drawn+1 }:=zze R ⟨rfl,rfl,rfl,Nat.le_refl _,fun _ _=>rfl⟩
 unfold znJ at hok
 unfold ztT at h
 cases hgen:genB ops && onB ops with
 | true =>
  rw [Bool.and_eq_true] at hgen
  rw [hgen.1] at h
  refine wp_region_held hm (ztU hT hQp (fun ⟨a,w,hq⟩=>by rw [← hQd] at hq;cases hq.1) hgen.2 (E0:=E) (wS:={ w with drawn:=w.drawn+1 }) ops.size w0 hF hQ [] _ E σ a _ (by simp) (fun j hj=>?_) R1 (fun m hm'=>.inl (hfr m hm')) hSi rfl (zw3 R1) h)
  rw [Array.getD_eq_getD_getElem?,Array.getElem?_replicate]
  split<;>rfl
 | false =>
 have hgen2:genB ops=false:=by
  cases hg:genB ops with
  | false=>rfl
  | true =>
   exfalso
   rw [hg] at hgen hok
   rw [Bool.true_and] at hgen
   rw [hgen] at hok
   cases hok
 rw [hgen2] at h hok
 have D:=zsy (by simpa using hok)
 unfold zve zvf at h
 refine wp_region_any hm (zuV ?_)
 generalize zmb ops=ops at h D
 clear hok
 obtain ⟨r,τ,h0,h1,h2,h3⟩:=zpa ops.toList 0 σ (fun j=>by simp) h
 simp only [Nat.zero_add] at h1 h2 h3
 rw [zyv] at h3
 have hlook:∀ n,n.1=σ.cnt→look σ.hp n=none:=fun n hn=>by
  cases hl:look σ.hp n with
  | none=>rfl
  | some b =>
   exfalso
   have:=hfr n (by rcases R.blk n b hl with ⟨h,_⟩|⟨g,cur,fz,h,_⟩<;>rw [h]<;>exact fun h=>by cases h)
   omega
 have H:Run ops T F σ r τ:=⟨h0,fun j hj=>h1 j (Nat.zero_le _) hj,hlook⟩
 have hsz:ops.size=zn ops ops.toList+(ops.toList.drop (zn ops ops.toList)).length:=by
  have hfs:∀ (l:List Oper),zn ops l≤l.length:=by
   intro l
   induction l with
   | nil=>simp [zn]
   | cons o l ih=>unfold zn;split<;>simp<;>omega
  have:=hfs ops.toList
  simp only [Array.length_toList,List.length_drop] at this ⊢
  omega
 have hgd:∀ j,(Array.replicate ops.size false).getD j false=false:=fun j=>by
  rw [Array.getD_eq_getD_getElem?,Array.getElem?_replicate]
  split<;>rfl
 have hend:∀ E' a' w',Rel E' w0 (τ (zn ops ops.toList)) a' w'→FreshI E' σ.cnt (zn ops ops.toList)→zo (τ (zn ops ops.toList)).hp→wpList P ops Q (ops.toList.drop (zn ops ops.toList)) a' w':=fun E' a' w' R' hf' hs'=>zdW hT _ w0 hF hQ _ E' _ a' w' R' hf' hs' (H.inv D _ (Nat.le_refl _)).cnt h2
 have hfork:∀ i E' a' w',zkm ops≤i→i < zn ops ops.toList→Rel E' w0 (τ i) a' w'→FreshI E' σ.cnt i→zo (τ i).hp→wpList P ops Q (zjp ops (zn ops ops.toList) i) a' w':=fun i E' a' w' hi1 hi2 R' hf' hs'=>zdW hT _ w0 hF hQ _ E' _ a' w' R' hf' hs' (H.inv D _ (by omega)).cnt (h3 i (Nat.zero_le _) hi2 hi1)
 have:=zs1 (Q:=Q) (w0:=w0) D hT hF H hend hfork hQp (fun ⟨a,w,hq⟩=>by rw [← hQd] at hq;cases hq.1) (zn ops ops.toList) (Array.replicate ops.size false) (fun _=>false) E σ a { w with drawn:=w.drawn+1 } (by simp) (by funext j;rw [hgd]) (zpB _) (fun _ _=>rfl) (fun _ _ _ h=>by cases h) (by
   have:=H.inv D 0 (Nat.zero_le _)
   rw [h0] at this
   have he:(fun k=>decide (k < 0))=fun _:Nat=>false:=by funext k;simp
   rw [he] at this
   exact this) R1 (fun m hm'=>.inl (hfr m hm')) hSi
 rw [← hsz] at this
 exact this
end
end Go.Proofs.YtifkepnfaggkiaaGreatDoor
