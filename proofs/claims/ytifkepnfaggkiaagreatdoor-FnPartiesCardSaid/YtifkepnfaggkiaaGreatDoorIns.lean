import Derived.Test.YtifkepnfaggkiaaGreatDoorInsW
import Derived.Test.YtifkepnfaggkiaaGreatDoorExI
import Derived.Test.YtifkepnfaggkiaaGreatDoorSd
import Derived.Test.YtifkepnfaggkiaaGreatDoorEnc
namespace Go.Proofs.YtifkepnfaggkiaaGreatDoor
open Go.RowKit
set_option linter.unusedVariables false
set_option linter.unusedSimpArgs false
set_option maxRecDepth 100000
structure Laid (w w':World) (g:Nat) (cells:List Value) (n:Nat) (e':Ending):Prop where
 ex:∃ (g' c:Nat) (cur:Array Value),e'=.returned (.slice (some ⟨g',0,none⟩) n c)∧(g'=g∨(w.heap.size≤g'∧g' < w'.heap.size))∧w'.heap[g']?=some (.cells cur TE (0,0))∧cur.size=c*2∧n≤c∧c≤maxLen∧∀ (j:Nat) (v:Value),cells[j]?=some v→cur[j]?=some v
 out:OutM (fun b=>b=g) w w'
theorem zrh {w:World} {g n c:Nat} {cells:List Value} {row:Array Value} {w':World} {e':Ending} (he:e'=.returned (.slice (some ⟨w.heap.size,0,none⟩) n c)) (hx:Ext w w') (hr:w'.heap[w.heap.size]?=some (.cells row TE (0,0))) (hs:row.size=c*2) (hn:n≤c) (hc:c≤maxLen) (hj:∀ (j:Nat) (v:Value),cells[j]?=some v→row[j]?=some v):Laid w w' g cells n e' :=
 ⟨⟨w.heap.size,c,row,he,.inr ⟨Nat.le_refl _,(Array.getElem?_eq_some_iff.1 hr).1⟩,hr,hs,hn,hc,hj⟩,OutM.ext hx⟩
theorem zqZ (w:World):Ext w w.drew:=(Ext.refl w).drew
theorem znN {w w1:World} (h:Ext w w1) (o:Nat) (vs:List Value) {b:Nat} (hb:w.heap.size≤b):Ext w (w1.setCells b o vs):=by
 induction vs generalizing w1 o with
 | nil=>exact h
 | cons v vs ih=>exact ih (h.setCell hb v) (o+1)
theorem zyD (g c n i vb voff vc:Nat) (base:Option Addr) (cs vs:List Value) (w:World) (hi:i≤n) (hn40:n < 2 ^ 40) (hbase:(base=none∧n=0∧c=0)∨(base=some ⟨g,0,none⟩∧∃ cur,w.heap[g]?=some (.cells cur TE (0,0))∧cur.size=c*2))
  (hnc:n≤c) (hcm:c≤maxLen) (hvb:vb≠g) (hcl:cs.length=n*2) (hvl:vs.length=2) (hcs:base≠none→∀ j v,cs[j]?=some v→w.cell? ⟨g,j,none⟩=some v)
  (hvs:∀ j v,vs[j]?=some v→w.cell? ⟨vb,voff+j,none⟩=some v) (h1c:∀ v ∈ cs,oneV v) (h1v:∀ v ∈ vs,oneV v) (hvh:∃ cur e,w.heap[vb]?=some (.cells cur e (0,0))) :
  Calls Tryz.prog INSF #[.slice base n c,.int .i64 (i:Nat),.slice (some ⟨vb,voff,none⟩) 1 vc] w fun e' w'=>Laid w w' g (cs.take (i*2)++vs++cs.drop (i*2)) (n+1) e':=by
 have hcm':=hcm
 unfold maxLen at hcm'
 have e2:(Value.agg #[.slice none 0 0,.int .i64 0]).cells.size=2:=rfl
 have hzc:∀ q,(Builtin.zeroCells (Value.agg #[.slice none 0 0,.int .i64 0]).cells q).size=q*2:=fun q=>by simp [Builtin.zeroCells,e2]
 by_cases hroom:n+1≤c
 ·rcases hbase with ⟨_,h1,h2⟩|⟨rfl,cur,hh,hs⟩
  ·omega
  ·have hsp:∀ j,j < (n+1)*2→(w.cell? ⟨g,j,none⟩).isSome=true:=fun j hj=>by
    rw [zab hh,Array.getElem?_eq_getElem (by omega)]
    rfl
   have hfz:∀ j,j < (n+1)*2→w.frozen? ⟨g,j,none⟩=false:=fun j hj=>by
    simp only [World.frozen?,hh,Bool.and_eq_false_iff,decide_eq_false_iff_not]
    right
    exact Nat.not_lt_zero _
   have hcs':=hcs (by simp)
   by_cases hin:i=n
   ·subst hin
    refine (zw9 g c i vb voff 1 vc vs w (by omega) hroom (by omega) (by omega) hsp hfz hvs h1v).mono ?_
    rintro e' w' ⟨rfl,rfl⟩
    have HW:=zfB Tryz.prog g (i*2) vs w cur TE hh (by omega) h1v
    obtain ⟨cur',h1,h2,h3⟩:=HW.blk cur TE (0,0) hh
    refine ⟨⟨g,c,cur',rfl,.inl rfl,h1,h2.trans hs,hroom,hcm,fun j v hj=>?_⟩,HW.outM⟩
    rw [List.take_of_length_le (by omega),List.drop_eq_nil_of_le (by omega),List.append_nil] at hj
    rw [h3]
    by_cases hjc:j < cs.length
    ·rw [List.getElem?_append_left hjc] at hj
     rw [if_neg (by omega)]
     have:=hcs' j v hj
     rw [zab hh] at this
     exact this
    ·rw [List.getElem?_append_right (by omega)] at hj
     have hjl:=(List.getElem?_eq_some_iff.1 hj).1
     rw [if_pos ⟨by omega,by omega,by omega⟩,← hj]
     congr 1
     omega
   ·obtain ⟨curv,ev,hv⟩:=hvh
    have hvf:∀ o,w.frozen? ⟨vb,o,none⟩=false:=fun o=>by
     simp only [World.frozen?,hv,Bool.and_eq_false_iff,decide_eq_false_iff_not]
     right
     exact Nat.not_lt_zero _
    refine (zvO g c n i vb voff 1 vc cs vs w (by omega) (by omega) hroom (by omega) hvb hcl (by omega) hcs' hsp hfz hvs h1c h1v ev TE curv.size cur.size (by simp only [World.shape?,hv]) (by simp only [World.shape?,hh]) (by omega) (hvf _) (hvf _)).mono ?_
    rintro e' w' ⟨rfl,rfl⟩
    have hdl:(cs.drop (i*2)).length=(n - i)*2:=by rw [List.length_drop,hcl];omega
    have hh1:w.drew.heap[g]?=some (.cells cur TE (0,0)):=hh
    have HW1:=zfB Tryz.prog g ((i+1)*2) (cs.drop (i*2)) w.drew cur TE hh1 (by omega) (fun v hv=>h1c v (List.mem_of_mem_drop hv))
    obtain ⟨cur1,a1,a2,a3⟩:=HW1.blk cur TE (0,0) hh1
    have HW2:=zfB Tryz.prog g (i*2) vs _ cur1 TE a1 (by omega) h1v
    obtain ⟨cur2,b1,b2,b3⟩:=HW2.blk cur1 TE (0,0) a1
    refine ⟨⟨g,c,cur2,rfl,.inl rfl,b1,by omega,hroom,hcm,fun j v hj=>?_⟩,((OutM.ext (zqZ w)).trans HW1.outM).trans HW2.outM⟩
    have htl:(cs.take (i*2)).length=i*2:=by rw [List.length_take];omega
    rw [b3]
    by_cases hj1:j < i*2
    ·rw [List.append_assoc,List.getElem?_append_left (by omega),List.getElem?_take,if_pos hj1] at hj
     rw [if_neg (by omega),a3,if_neg (by omega)]
     have:=hcs' j v hj
     rw [zab hh] at this
     exact this
    ·rw [List.append_assoc,List.getElem?_append_right (by omega),htl] at hj
     by_cases hj2:j - i*2 < vs.length
     ·rw [List.getElem?_append_left hj2] at hj
      rw [if_pos ⟨by omega,by omega,by omega⟩]
      exact hj
     ·rw [List.getElem?_append_right (by omega)] at hj
      have hjl:=(List.getElem?_eq_some_iff.1 hj).1
      rw [if_neg (by omega),a3,if_pos ⟨by omega,by omega,by omega⟩,← hj]
      congr 1
      omega
 ·have hge:=grownCap_ge w (n+1) c TE
  have hcM:=grownCap_le_maxLen w (n+1) c TE (by unfold maxLen;omega)
  have hcsa:∀ a,base=some a→∀ j v,cs[j]?=some v→w.cell? (a.add j)=some v:=fun a ha j v hj=>by
   rcases hbase with ⟨h0,_⟩|⟨rfl,_⟩
   ·rw [h0] at ha;cases ha
   ·injection ha with ha
    subst ha
    rw [Addr.add_lit,Nat.zero_add]
    exact hcs (by simp) j v hj
  by_cases hin:i=n
  ·subst hin
   refine (zyC base i c vb voff 1 vc cs vs w (by omega) hnc (by omega) (by omega) hcl (by omega) (fun h=>by
    rcases hbase with ⟨_,h1,_⟩|⟨h1,_⟩
    ·exact h1
    ·rw [h1] at h;cases h) hcsa hvs h1v).mono ?_
   rintro e' w' ⟨rfl,rfl⟩
   refine zrh rfl ((zqZ w).alloc _) (MapKept.heap_alloc w.drew _).1 ?_ hge hcM (fun j v hj=>?_)
   ·simp only [Array.size_append,List.size_toArray,List.length_append,hzc]
    omega
   ·rw [List.take_of_length_le (by omega),List.drop_eq_nil_of_le (by omega),List.append_nil] at hj
    have hjl:=(List.getElem?_eq_some_iff.1 hj).1
    rw [Array.getElem?_append_left (by simpa using hjl)]
    simpa using hj
  ·rcases hbase with ⟨_,h1,_⟩|⟨rfl,cur,hh,hs⟩
   ·omega
   ·have hcs':=hcs (by simp)
    refine (zw8 g c n i vb voff 1 vc cs vs w (by omega) (by omega) hnc (by omega) (by omega) hcl (by omega) hcs' hvs h1c h1v).mono ?_
    generalize hG:grownCap w (n+1) c TE=G at hge hcM
    rintro e' w' ⟨rfl,rfl⟩
    have hdl:(cs.drop (i*2)).length=(n - i)*2:=by rw [List.length_drop,hcl];omega
    have htl:(cs.take (i*2)).length=i*2:=by rw [List.length_take];omega
    obtain ⟨ROW,hROW⟩:∃ ROW:Array Value,ROW=(cs.take (i*2)).toArray++Builtin.zeroCells (Value.agg #[.slice none 0 0,.int .i64 0]).cells (n+1 - i)++Builtin.zeroCells (Value.agg #[.slice none 0 0,.int .i64 0]).cells (G - (n+1)):=⟨_,rfl⟩
    rw [← hROW]
    have hRs:ROW.size=G*2:=by
     rw [hROW]
     simp only [Array.size_append,List.size_toArray,htl,hzc]
     omega
    have hRj:∀ j v,j < i*2→cs[j]?=some v→ROW[j]?=some v:=fun j v hj hv=>by
     rw [hROW,Array.append_assoc,Array.getElem?_append_left (by simp;omega)]
     simp only [List.getElem?_toArray,List.getElem?_take,if_pos hj]
     exact hv
    have hh1:((w.alloc (.cells ROW TE)).drew).heap[w.heap.size]?=some (.cells ROW TE (0,0)):=(MapKept.heap_alloc w _).1
    have HW1:=zfB Tryz.prog w.heap.size (i*2) vs (w.alloc (.cells ROW TE)).drew ROW TE hh1 (by omega) h1v
    obtain ⟨cur1,a1,a2,a3⟩:=HW1.blk ROW TE (0,0) hh1
    have a1':((w.alloc (.cells ROW TE)).drew.setCells w.heap.size (i*2) vs).drew.heap[w.heap.size]?=some (.cells cur1 TE (0,0)):=a1
    have HW2:=zfB Tryz.prog w.heap.size ((i+1)*2) (cs.drop (i*2)) _ cur1 TE a1' (by omega) (fun v hv=>h1c v (List.mem_of_mem_drop hv))
    obtain ⟨cur2,b1,b2,b3⟩:=HW2.blk cur1 TE (0,0) a1'
    refine zrh rfl (znN (znN ((Ext.refl w).alloc _).drew _ _ (Nat.le_refl _)).drew _ _ (Nat.le_refl _)) b1 (by omega) hge hcM (fun j v hj=>?_)
    rw [b3]
    by_cases hj1:j < i*2
    ·rw [List.append_assoc,List.getElem?_append_left (by omega),List.getElem?_take,if_pos hj1] at hj
     rw [if_neg (by omega),a3,if_neg (by omega)]
     exact hRj j v hj1 hj
    ·rw [List.append_assoc,List.getElem?_append_right (by omega),htl] at hj
     by_cases hj2:j - i*2 < vs.length
     ·rw [List.getElem?_append_left hj2] at hj
      rw [if_neg (by omega),a3,if_pos ⟨by omega,by omega,by omega⟩]
      exact hj
     ·rw [List.getElem?_append_right (by omega)] at hj
      have hjl:=(List.getElem?_eq_some_iff.1 hj).1
      rw [if_pos ⟨by omega,by omega,by omega⟩,← hj]
      congr 1
      omega
end Go.Proofs.YtifkepnfaggkiaaGreatDoor
namespace Go.Proofs.YtifkepnfaggkiaaGreatDoor
open Go.RowKit
set_option linter.unusedVariables false
set_option linter.unusedSimpArgs false
set_option maxRecDepth 100000
theorem zzC {α:Type} (l:List α) (x:α) (i:Nat) (hi:i≤l.length) {t:Nat} {y:α} (h:(l.take i++x::l.drop i)[t]?=some y):(t < i∧l[t]?=some y)∨(t=i∧y=x)∨(i < t∧l[t - 1]?=some y):=by
 have htl:(l.take i).length=i:=by rw [List.length_take];omega
 by_cases h1:t < i
 ·rw [List.getElem?_append_left (by omega),List.getElem?_take,if_pos h1] at h
  exact .inl ⟨h1,h⟩
 ·rw [List.getElem?_append_right (by omega),htl] at h
  by_cases h2:t=i
  ·subst h2
   rw [Nat.sub_self] at h
   simp only [List.getElem?_cons_zero,Option.some.injEq] at h
   exact .inr (.inl ⟨rfl,h.symm⟩)
  ·rw [show t - i=(t - 1 - i)+1 by omega,List.getElem?_cons_succ,List.getElem?_drop,show i+(t - 1 - i)=t - 1 by omega] at h
   exact .inr (.inr ⟨by omega,h⟩)
theorem zyB {α:Type} (en:α→List DT) (hK:∀ x,(en x).length=2) (h1v:∀ x d,d ∈ en x→(∃ v,d=.at v∧oneV v)∨∃ e k l,d=.sl e k l) {w0:Bs} {l:List α} {i:Nat} {x:α} (hi:i≤l.length) (hl:l.length < 2 ^ 40) :
  znv Tryz.prog w0 INSF [.v (.sl TE 2 (l.map en)),.v (.at (.int .i64 (i:Nat))),.v (.sl TE 2 [en x])] [.v (.sl TE 2 ((l.take i++x::l.drop i).map en))]:=by
 refine ⟨TE,2,l.map en,_,_,rfl,rfl,fun _ _=>by kernel_rfl,fun w v vs S S2 R hx hlt hS hR hOw hRest=>?_⟩
 match vs,hRest with
 | [v1,v2],⟨h1,hs⟩ =>
 subst h1
 obtain ⟨vb,voff,vc,rfl,hle,hRb,hvh,ωv,hv⟩:=hs
 have hvbl:vb < w.heap.size:=hlt vb (.inr (.inr hRb))
 obtain ⟨_,hv2⟩:=hv 0 (en x) rfl
 have hone:∀ y d u N Q,d ∈ en y→OwN w N Q u d→oneV u:=fun y d u N Q hd hOw=>by
  rcases h1v y d hd with ⟨v,hv,ho⟩|⟨e2,k2,l2,hv⟩
  ·rw [hv] at hOw
   have:u=v:=zrH ⟨N,hOw⟩
   rw [this];exact ho
  ·rw [hv] at hOw
   exact zrI ⟨N,hOw⟩
 let V:List Value:=(List.range 2).map fun j=>(w.cell? ⟨vb,voff+j,none⟩).getD undef
 have hV:∀ j d,(en x)[j]?=some d→∃ u,V[j]?=some u∧w.cell? ⟨vb,voff+j,none⟩=some u∧Ow w (fun b=>S2 b∧ωv b=some (0,j)) u d:=fun j d hd=>by
  obtain ⟨u,hu,hO⟩:=hv2 j d hd
  rw [Nat.zero_mul,Nat.add_zero] at hu
  have hj:j < 2:=by rw [← hK x];exact (List.getElem?_eq_some_iff.1 hd).1
  exact ⟨u,by simp only [V,List.getElem?_map,List.getElem?_range hj,Option.map_some,hu,Option.getD_some],hu,hO⟩
 have hVl:V.length=2:=by simp [V]
 have hVc:∀ j u,V[j]?=some u→w.cell? ⟨vb,voff+j,none⟩=some u∧oneV u:=fun j u hu=>by
  have hj:j < 2:=by rw [← hVl];exact (List.getElem?_eq_some_iff.1 hu).1
  have hd:(en x)[j]?=some ((en x)[j]'(by rw [hK];exact hj)):=List.getElem?_eq_getElem _
  obtain ⟨u',h1,h2,N,hO⟩:=hV j _ hd
  rw [hu] at h1
  injection h1 with h1
  subst h1
  exact ⟨h2,hone x _ u N _ (List.mem_of_getElem? hd) hO⟩
 have hVone:∀ u ∈ V,oneV u:=fun u hu=>by
  obtain ⟨j,hj⟩:=List.getElem?_of_mem hu
  exact (hVc j u hj).2
 have key:∀ (g c:Nat) (base:Option Addr) (C:List Value) (ω:Nat→Option (Nat×Nat)),((base=none∧l.length=0∧c=0∧g=w.heap.size)∨(base=some ⟨g,0,none⟩∧S g∧ω g=none∧∃ cur,w.heap[g]?=some (.cells cur TE (0,0))∧cur.size=c*2))→l.length≤c→c≤maxLen→C.length=l.length*2 →
   (base≠none→∀ j u,C[j]?=some u→w.cell? ⟨g,j,none⟩=some u)→(∀ t y,l[t]?=some y→∀ j d,(en y)[j]?=some d→∃ u,C[t*2+j]?=some u∧Ow w (fun b=>S b∧ω b=some (t,j)) u d)→(∀ u ∈ C,oneV u) →
   Calls Tryz.prog INSF #[.slice base l.length c,.int .i64 (i:Nat),.slice (some ⟨vb,voff,none⟩) 1 vc] w fun e' w'=>∃ v',e'=.returned v'∧OutM S w w'∧Ow w' (fun b=>S b∨S2 b∨(w.heap.size≤b∧b < w'.heap.size)) v' (.sl TE 2 ((l.take i++x::l.drop i).map en)):=by
  intro g c base C ω hb hlc hcm hCl hCc hC hC1
  have hvg:vb≠g:=by
   rcases hb with ⟨_,_,_,rfl⟩|⟨_,hSg,_⟩
   ·omega
   ·rintro rfl;exact (hR vb hRb).1 hSg
  refine (zyD g c l.length i vb voff vc base C V w hi hl (by
   rcases hb with ⟨h1,h2,h3,_⟩|⟨h1,_,_,h2⟩
   ·exact .inl ⟨h1,h2,h3⟩
   ·exact .inr ⟨h1,h2⟩) hlc hcm hvg hCl hVl hCc (fun j u hu=>(hVc j u hu).1) hC1 hVone hvh).mono ?_
  rintro e' w' ⟨⟨g',c',cur',rfl,hg',hh',hs',hn',hc',hcell⟩,hO⟩
  refine ⟨_,rfl,⟨hO.os,hO.tape,hO.output,hO.size,fun b hb' hnS=>hO.block b hb' (fun he=>?_),hO.sizes⟩,?_⟩
  ·rcases hb with ⟨_,_,_,h4⟩|⟨_,hSg,_⟩
   ·omega
   ·exact hnS (by rw [he];exact hSg)
  ·have hlen:((l.take i++x::l.drop i).map en).length=l.length+1:=by
    simp only [List.length_map,List.length_append,List.length_take,List.length_cons,List.length_drop]
    omega
   rw [← hlen]
   let ω2:Nat→Option (Nat×Nat):=fun b=>open Classical in if S2 b then (ωv b).map (fun q=>(i,q.2)) else if S b then (ω b).map (fun q=>(if q.1 < i then q.1 else q.1+1,q.2)) else none
   have hω2S:∀ b t j,S b→ω b=some (t,j)→ω2 b=some (if t < i then t else t+1,j):=fun b t j hb1 hb2=>by
    show @ite _ (S2 b) (Classical.propDecidable _) _ _=_
    rw [if_neg (hS b hb1).2,if_pos hb1,hb2]
    rfl
   have hω2V:∀ b j,S2 b→ωv b=some (0,j)→ω2 b=some (i,j):=fun b j hb1 hb2=>by
    show @ite _ (S2 b) (Classical.propDecidable _) _ _=_
    rw [if_pos hb1,hb2]
    rfl
   have hsame:∀ b,b < w.heap.size→¬ b=g→w'.heap[b]?=w.heap[b]?:=fun b hb1 hb2=>hO.block b hb1 hb2
   have hng:∀ b t j,S b→ω b=some (t,j)→¬ b=g:=fun b t j hb1 hb2 he=>by
    rcases hb with ⟨_,_,_,h4⟩|⟨_,_,h5,_⟩
    ·have:=hlt b (.inl hb1)
     omega
    ·rw [he,h5] at hb2;cases hb2
   have hng2:∀ b,S2 b→¬ b=g:=fun b hb1 he=>by
    rcases hb with ⟨_,_,_,h4⟩|⟨_,hSg,_⟩
    ·have:=hlt b (.inr (.inl hb1))
     omega
    ·exact (hS g hSg).2 (by rw [← he];exact hb1)
   refine Ow.sl (g:=g') (cur:=cur') (fz:=(0,0)) ?_ hh' rfl (by rw [hlen];exact hn') hc' hs' ω2 ?_ (fun t es ht=>?_)
   ·rcases hg' with rfl|hg'
    ·rcases hb with ⟨_,_,_,rfl⟩|⟨_,hSg,_⟩
     ·exact .inr (.inr ⟨Nat.le_refl _,(Array.getElem?_eq_some_iff.1 hh').1⟩)
     ·exact .inl hSg
    ·exact .inr (.inr hg')
   ·show @ite _ (S2 g') (Classical.propDecidable _) _ _=_
    have hS2g:¬ S2 g':=fun h=>by
     rcases hg' with rfl|hg'
     ·exact hng2 _ h rfl
     ·have:=hlt g' (.inr (.inl h))
      omega
    rw [if_neg hS2g]
    by_cases hSg':S g'
    ·rw [if_pos hSg']
     rcases hg' with rfl|hg'
     ·rcases hb with ⟨_,_,_,h4⟩|⟨_,_,h5,_⟩
      ·have:=hlt _ (.inl hSg')
       omega
      ·rw [h5];rfl
     ·have:=hlt g' (.inl hSg')
      omega
    ·rw [if_neg hSg']
   ·rw [List.getElem?_map,Option.map_eq_some_iff] at ht
    obtain ⟨y,hy,rfl⟩:=ht
    have htl:(C.take (i*2)).length=i*2:=by rw [List.length_take];omega
    refine ⟨hK y,fun j d hd=>?_⟩
    have hj2:j < 2:=by rw [← hK y];exact (List.getElem?_eq_some_iff.1 hd).1
    rcases zzC l x i hi hy with ⟨h1,h2⟩|⟨rfl,rfl⟩|⟨h1,h2⟩
    ·obtain ⟨u,hu,hO1⟩:=hC t y h2 j d hd
     refine ⟨u,hcell _ _ ?_,Ow.mono hO1 (fun b hb1=>⟨.inl hb1.1,?_⟩) (fun b hb1 hb2=>hsame b hb1 (hng b t j hb2.1 hb2.2))⟩
     ·rw [List.append_assoc,List.getElem?_append_left (by omega),List.getElem?_take,if_pos (by omega)]
      exact hu
     ·rw [hω2S b t j hb1.1 hb1.2,if_pos h1]
    ·obtain ⟨u,hu,_,hO1⟩:=hV j d hd
     refine ⟨u,hcell _ _ ?_,Ow.mono hO1 (fun b hb1=>⟨.inr (.inl hb1.1),hω2V b j hb1.1 hb1.2⟩) (fun b hb1 hb2=>hsame b hb1 (hng2 b hb2.1))⟩
     rw [List.append_assoc,List.getElem?_append_right (by omega),htl,show t*2+j - t*2=j by omega,List.getElem?_append_left (by rw [hVl];exact hj2)]
     exact hu
    ·obtain ⟨u,hu,hO1⟩:=hC (t - 1) y h2 j d hd
     refine ⟨u,hcell _ _ ?_,Ow.mono hO1 (fun b hb1=>⟨.inl hb1.1,?_⟩) (fun b hb1 hb2=>hsame b hb1 (hng b (t - 1) j hb2.1 hb2.2))⟩
     ·rw [List.append_assoc,List.getElem?_append_right (by omega),htl,List.getElem?_append_right (by rw [hVl];omega),hVl,List.getElem?_drop,show i*2+(t*2+j - i*2 - 2)=(t - 1)*2+j by omega]
      exact hu
     ·rw [hω2S b (t - 1) j hb1.1 hb1.2,if_neg (by omega),show t - 1+1=t by omega]
 obtain ⟨N,hO⟩:=hOw
 cases N with
 | zero=>exact hO.elim
 | succ N =>
 rcases hO with ⟨rfl,hnil⟩|⟨g,c,cur,fz,rfl,hSg,hh,hf,hl1,hl2,hl3,ω,hω,hi2⟩
 ·have hl0:l=[]:=by simpa using hnil
  have:=key w.heap.size 0 none [] (fun _=>none) (.inl ⟨rfl,by rw [hl0];rfl,rfl,rfl⟩) (by rw [hl0];exact Nat.le_refl _) (by simp [maxLen]) (by rw [hl0];rfl) (fun h=>absurd rfl h) (fun t y hy=>by rw [hl0] at hy;simp at hy) (fun u hu=>by cases hu)
  rw [hl0] at this ⊢
  exact this
 ·have hfz:fz=(0,0):=hf
  subst hfz
  rw [List.length_map] at hl1 ⊢
  let C:List Value:=(List.range (l.length*2)).map fun j=>(cur[j]?).getD undef
  have hCl:C.length=l.length*2:=by simp [C]
  have hCj:∀ j u,C[j]?=some u→cur[j]?=some u:=fun j u hu=>by
   have hj:j < l.length*2:=by rw [← hCl];exact (List.getElem?_eq_some_iff.1 hu).1
   have hjc:j < cur.size:=by omega
   simp only [C,List.getElem?_map,List.getElem?_range hj,Option.map_some,Option.some.injEq] at hu
   rw [Array.getElem?_eq_getElem hjc] at hu ⊢
   simpa using hu
  have hCe:∀ t y,l[t]?=some y→∀ j d,(en y)[j]?=some d→∃ u,C[t*2+j]?=some u∧OwN w N (fun b=>S b∧ω b=some (t,j)) u d:=fun t y hy j d hd=>by
   obtain ⟨u,hu,hO1⟩:=(hi2 t (en y) (by rw [List.getElem?_map,hy];rfl)).2 j d hd
   have hj:j < 2:=by rw [← hK y];exact (List.getElem?_eq_some_iff.1 hd).1
   have ht:t < l.length:=(List.getElem?_eq_some_iff.1 hy).1
   refine ⟨u,?_,hO1⟩
   simp only [C,List.getElem?_map,List.getElem?_range (show t*2+j < l.length*2 by omega),Option.map_some,hu,Option.getD_some]
  refine key g c _ C ω (.inr ⟨rfl,hSg,hω,cur,hh,hl3⟩) hl1 hl2 hCl (fun _ j u hu=>by rw [zab hh];exact hCj j u hu) (fun t y hy j d hd=>by
   obtain ⟨u,h1,h2⟩:=hCe t y hy j d hd
   exact ⟨u,h1,N,h2⟩) (fun u hu=>?_)
  obtain ⟨q,hq⟩:=List.getElem?_of_mem hu
  have hql:q < l.length*2:=by rw [← hCl];exact (List.getElem?_eq_some_iff.1 hq).1
  have hqt:q / 2 < l.length:=by omega
  have hy:l[q / 2]?=some l[q / 2]:=List.getElem?_eq_getElem hqt
  have hd:(en l[q / 2])[q % 2]?=some ((en l[q / 2])[q % 2]'(by rw [hK];omega)):=List.getElem?_eq_getElem _
  obtain ⟨u',h1,h2⟩:=hCe (q / 2) _ hy (q % 2) _ hd
  rw [show q / 2*2+q % 2=q by omega,hq] at h1
  injection h1 with h1
  subst h1
  exact hone _ _ _ _ _ (List.mem_of_getElem? hd) h2
end Go.Proofs.YtifkepnfaggkiaaGreatDoor
namespace Go.Proofs.YtifkepnfaggkiaaGreatDoor
open Go.RowKit
set_option linter.unusedVariables false
set_option linter.unusedSimpArgs false
set_option maxRecDepth 100000
noncomputable section
theorem ziQ (x y:zb) (h:zf x=zf y):x=y:=by
 obtain ⟨x0,x1⟩:=x
 obtain ⟨y0,y1⟩:=y
 simp only [zf,List.cons.injEq,DT.at.injEq,DT.sl.injEq,Value.int.injEq,Value.bool.injEq,Value.string.injEq,true_and,and_true] at h
 obtain ⟨h0,h1⟩:=h
 obtain rfl:=zoL zzy h0
 obtain rfl:=h1
 rfl
def aIns (i:List zb×Int×zb):List Arg:=[.v (.sl 139 2 (List.map zf i.1)),.v (.at (.int .i64 i.2.1)),.v (.sl 139 2 [[.sl 9 1 (List.map eS i.2.2.name),.at (.int .i64 i.2.2.value)]])]
def rIns (i:List zb×Int×zb):Option (List Arg):=(zaL i.1 i.2.1 i.2.2).bind fun r=>some [.v (.sl 139 2 (List.map zf r))]
theorem zwK (i j:List zb×Int×zb) (h:aIns i=aIns j):i=j:=by
 obtain ⟨l1,c1,x1⟩:=i
 obtain ⟨l2,c2,x2⟩:=j
 have hx:zf x1=zf x2:=by
  have h2:=congrArg (fun q=>q[2]?) h
  simp only [aIns,List.getElem?_cons_succ,List.getElem?_cons_zero,Option.some.injEq,Arg.v.injEq,DT.sl.injEq,true_and,List.cons.injEq,and_true] at h2
  unfold zf
  simpa using h2
 obtain rfl:=ziQ _ _ hx
 simp only [aIns,List.cons.injEq,Arg.v.injEq,DT.sl.injEq,DT.at.injEq,Value.int.injEq,true_and,and_true] at h
 obtain ⟨h0,h1⟩:=h
 obtain rfl:=zoL ziQ h0
 obtain rfl:=h1
 rfl
theorem zyj (w0:World) (xs ys:List Arg) (h:xOf aIns rIns xs=some ys):znv Tryz.prog (bs0 w0) INSF xs ys:=by
 obtain ⟨⟨l,k,x⟩,rfl,hr⟩:=zsj h
 unfold rIns zaL insO at hr
 dsimp only at hr
 split at hr
 ·rename_i hc
  obtain ⟨h0,h1,h2⟩:=hc
  simp only [Option.bind_some,Option.some.injEq] at hr
  subst hr
  obtain ⟨i,rfl⟩:∃ i:Nat,k=(i:Int):=⟨k.toNat,by omega⟩
  exact zyB zf (fun _=>rfl) (fun x d hd=>by
   simp only [zf,List.mem_cons,List.not_mem_nil,or_false] at hd
   rcases hd with rfl|rfl<;>first|exact .inl ⟨_,rfl,by simp [oneV]⟩|exact .inr ⟨_,_,_,rfl⟩) (by simpa using h1) h2
 ·cases hr
end
end Go.Proofs.YtifkepnfaggkiaaGreatDoor
