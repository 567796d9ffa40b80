import Derived.Test.YtifkepnfaggkiaaGreatDoorEngUse
import Derived.Test.YtifkepnfaggkiaaGreatDoorBase
namespace Go.Proofs.YtifkepnfaggkiaaGreatDoor
open Go.RowKit
set_option linter.unusedVariables false
set_option linter.unusedSimpArgs false
def zot (w:World) (T:Nat→Prop) (ω:Nat→Option Nat) (cs:List Value) (ds:List DT):Prop:=cs.length=ds.length∧∀ (j:Nat) d u,ds[j]?=some d→cs[j]?=some u→Ow w (fun b=>T b∧ω b=some j) u d
structure EncOw {α:Type} (S:Shape α) (e:α→List DT):Prop where
 k:∀ x,(e x).length=S.k
 to:∀ w cs x fp,S.ow w cs x fp→∃ ω:Nat→Option Nat,(∀ b j,ω b=some j→b ∈ fp)∧zot w (fun _=>True) ω cs (e x)
 of:∀ w cs x T ω,(∀ b,T b→b < w.heap.size)→zot w T ω cs (e x)→∃ fp,S.ow w cs x fp∧∀ b ∈ fp,T b∧∃ j,j < S.k∧ω b=some j
theorem zrH {w:World} {S:Nat→Prop} {v u:Value} (h:Ow w S v (.at u)):v=u:=by
 obtain ⟨n,h⟩:=h
 cases n<;>(unfold OwN at h;exact h)
theorem EncOw.one {α:Type} (f:α→Value):EncOw (Shape.one f (fun _=>True)) (fun x=>[.at (f x)]) where
 k x:=rfl
 to w cs x fp h:=by
  obtain ⟨⟨rfl,_⟩,rfl⟩:=h
  refine ⟨fun _=>none,fun b j h=>(by cases h),rfl,fun j d u hd hu=>?_⟩
  cases j with
  | zero =>
   simp only [List.getElem?_cons_zero,Option.some.injEq] at hd hu
   subst hd;subst hu
   exact Ow.at _
  | succ j=>simp at hd
 of w cs x T ω hT h:=by
  obtain ⟨hl,hc⟩:=h
  match cs,hl with
  | [u],_ =>
   have:=zrH (hc 0 _ u rfl rfl)
   subst this
   exact ⟨[],⟨⟨rfl,trivial⟩,rfl⟩,fun b hb=>by cases hb⟩
theorem znP:∀ {fs:List (List Nat)},fs.flatten.Nodup→∀ {i i':Nat} {f f':List Nat} {b:Nat},fs[i]?=some f→fs[i']?=some f'→b ∈ f→b ∈ f'→i=i'
 | [],_,i,i',f,f',b,h,_,_,_=>by simp at h
 | g::fs,hn,i,i',f,f',b,h1,h2,hb,hb'=>by
  rw [List.flatten_cons,List.nodup_append] at hn
  have hmem:∀ {j:Nat} {q:List Nat},fs[j]?=some q→b ∈ q→b ∈ fs.flatten:=fun hj hq=>List.mem_flatten.2 ⟨_,List.mem_of_getElem? hj,hq⟩
  cases i with
  | zero =>
   cases i' with
   | zero=>rfl
   | succ i' =>
    simp only [List.getElem?_cons_zero,Option.some.injEq] at h1
    subst h1
    exact absurd rfl (hn.2.2 b hb b (hmem (by simpa using h2) hb'))
  | succ i =>
   cases i' with
   | zero =>
    simp only [List.getElem?_cons_zero,Option.some.injEq] at h2
    subst h2
    exact absurd rfl (hn.2.2 b hb' b (hmem (by simpa using h1) hb))
   | succ i'=>exact congrArg (·+1) (znP hn.2.1 (show fs[i]?=some f by simpa using h1) (show fs[i']?=some f' by simpa using h2) hb hb')
theorem znQ (tag:Nat→Option Nat):∀ (fs:List (List Nat)) (o:Nat),(∀ i f,fs[i]?=some f→f.Nodup∧∀ b ∈ f,tag b=some (o+i))→fs.flatten.Nodup
 | [],_,_=>List.nodup_nil
 | f::fs,o,h=>by
  rw [List.flatten_cons,List.nodup_append]
  refine ⟨(h 0 f rfl).1,znQ tag fs (o+1) fun i g hg=>?_,fun b hb c hc hbc=>?_⟩
  ·have:=h (i+1) g (by simpa using hg)
   rw [show o+(i+1)=o+1+i by omega] at this
   exact this
  ·subst hbc
   obtain ⟨g,hg,hbg⟩:=List.mem_flatten.1 hc
   obtain ⟨i,hi⟩:=List.getElem?_of_mem hg
   have e1:=(h 0 f rfl).2 b hb
   have e2:=(h (i+1) g (by simpa using hi)).2 b hbg
   rw [e1] at e2
   injection e2 with e2
   omega
theorem zvp {α:Type} (L:List α) (k:Nat):∀ n:Nat,((List.range n).map fun i=>(L.drop (i*k)).take k).flatten=L.take (n*k)
 | 0=>by simp
 | n+1=>by
  rw [List.range_succ,List.map_append,List.flatten_append,zvp L k n]
  simp only [List.map_cons,List.map_nil,List.flatten_cons,List.flatten_nil,List.append_nil]
  rw [Nat.add_mul,Nat.one_mul,List.take_add]
theorem zpM {α:Type} (S:Shape α) {w:World} (P:Nat→List Nat→Prop):∀ (l:List α) (o:Nat) (ci:Nat→List Value),(∀ i (h:i < l.length),∃ f,S.ow w (ci (o+i)) l[i] f∧P (o+i) f)→∃ fs,S.rows w ((List.range' o l.length).map ci) l fs∧∀ i f,fs[i]?=some f→P (o+i) f
 | [],o,ci,h=>⟨[],trivial,fun i f hf=>by simp at hf⟩
 | x::l,o,ci,h=>by
  obtain ⟨f,hf,hp⟩:=h 0 (by simp)
  obtain ⟨fs,hr,hfs⟩:=zpM S P l (o+1) ci (fun i hi=>by
   obtain ⟨g,hg,hq⟩:=h (i+1) (by simpa using hi)
   rw [show o+(i+1)=o+1+i by omega] at hg hq
   exact ⟨g,by simpa using hg,hq⟩)
  refine ⟨f::fs,?_,fun i g hg=>?_⟩
  ·rw [List.length_cons,List.range'_succ,List.map_cons]
   exact ⟨hf,hr⟩
  ·cases i with
   | zero =>
    simp only [List.getElem?_cons_zero,Option.some.injEq] at hg
    subst hg
    exact hp
   | succ i =>
    have:=hfs i g (by simpa using hg)
    rw [show o+1+i=o+(i+1) by omega] at this
    exact this
theorem EncOw.sl {α:Type} {S:Shape α} {e:α→List DT} (t:Nat) (h:EncOw S e) (h0:0 < S.k):EncOw (Shape.sl t S) (fun l=>[.sl t S.k (l.map e)]) where
 k l:=rfl
 to w cs l fp ho:=by
  obtain ⟨v,xs,fs,rfl,ho,hr,rfl,hn⟩:=ho
  have hlen:=Shape.rows_length S hr
  rcases ho.2 with ⟨rfl,hz⟩|⟨g,cap,cur,rfl,_,hg,hnc,hcm,hcs,htake⟩
  ·have hl:l=[]:=List.eq_nil_of_length_eq_zero hz
   subst hl
   refine ⟨fun _=>none,fun b j h=>(by cases h),rfl,fun j d u hd hu=>?_⟩
   cases j with
   | zero =>
    simp only [List.getElem?_cons_zero,Option.some.injEq] at hd hu
    subst hd;subst hu
    exact Ow.nil _ _
   | succ j=>simp at hd
  ·have hW:∀ i:Nat,∃ ωi:Nat→Option Nat,(∀ b j,ωi b=some j→∃ f,fs[i]?=some f∧b ∈ f)∧∀ (hi:i < l.length) c,xs[i]?=some c→zot w (fun _=>True) ωi c (e l[i]):=by
    intro i
    by_cases hi:i < l.length
    ·obtain ⟨c,f,h1,h2,h3⟩:=Shape.rows_at S hr i hi
     obtain ⟨ωi,hm,hc⟩:=h.to w c l[i] f h3
     refine ⟨ωi,fun b j hb=>⟨f,h2,hm b j hb⟩,fun _ c' hc'=>?_⟩
     rw [h1] at hc'
     injection hc' with hc'
     subst hc'
     exact hc
    ·exact ⟨fun _=>none,fun b j h=>(by cases h),fun hi'=>absurd hi' hi⟩
   obtain ⟨W,hW⟩:=Classical.axiomOfChoice hW
   have hfn:(g::fs.flatten).Nodup:=by simpa [Value.ownBlock] using hn
   rw [List.nodup_cons] at hfn
   have huniq:∀ b i j i' j',W i b=some j→W i' b=some j'→i=i'∧j=j':=fun b i j i' j' h1 h2=>by
    obtain ⟨f1,e1,m1⟩:=(hW i).1 b j h1
    obtain ⟨f2,e2,m2⟩:=(hW i').1 b j' h2
    have hii:=znP hfn.2 e1 e2 m1 m2
    subst hii
    rw [h1] at h2
    injection h2 with h2
    exact ⟨rfl,h2⟩
   let ωn:Nat→Option (Nat×Nat):=fun b=>open Classical in if hb:∃ p:Nat×Nat,W p.1 b=some p.2 then some hb.choose else none
   have hωn:∀ b i j,W i b=some j→ωn b=some (i,j):=fun b i j hb=>by
    have hx:∃ p:Nat×Nat,W p.1 b=some p.2:=⟨(i,j),hb⟩
    show @dite _ _ (Classical.propDecidable _) (fun hb:∃ p:Nat×Nat,W p.1 b=some p.2=>some hb.choose) (fun _=>none)=_
    rw [dif_pos hx]
    obtain ⟨h1,h2⟩:=huniq b _ _ i j hx.choose_spec hb
    exact congrArg some (Prod.ext h1 h2)
   have hωg:ωn g=none:=by
    show @dite _ _ (Classical.propDecidable _) (fun hb:∃ p:Nat×Nat,W p.1 g=some p.2=>some hb.choose) (fun _=>none)=_
    rw [dif_neg]
    rintro ⟨⟨i,j⟩,hb⟩
    obtain ⟨f,e1,m1⟩:=(hW i).1 g j hb
    exact hfn.1 (List.mem_flatten.2 ⟨f,List.mem_of_getElem? e1,m1⟩)
   refine ⟨fun b=>open Classical in if b ∈ g::fs.flatten then some 0 else none,fun b j hb=>?_,rfl,fun j d u hd hu=>?_⟩
   ·dsimp only at hb
    split at hb
    ·simpa [Value.ownBlock] using (by assumption:b ∈ g::fs.flatten)
    ·cases hb
   ·cases j with
    | succ j=>simp at hd
    | zero =>
     simp only [List.getElem?_cons_zero,Option.some.injEq] at hd hu
     subst hd;subst hu
     have hml:(l.map e).length=l.length:=List.length_map _
     rw [← hml]
     refine Ow.sl (g:=g) (cur:=cur) (fz:=(0,0)) ⟨trivial,by simp⟩ hg rfl (by rw [hml];exact hnc) hcm hcs ωn hωg fun i es hi=>?_
     rw [List.getElem?_map,Option.map_eq_some_iff] at hi
     obtain ⟨x,hx,rfl⟩:=hi
     obtain ⟨hlt,hxe⟩:=List.getElem?_eq_some_iff.1 hx
     refine ⟨h.k x,fun j d hd=>?_⟩
     obtain ⟨c,f,h1,h2,h3⟩:=Shape.rows_at S hr i hlt
     have hc:=(hW i).2 hlt c h1
     rw [hxe] at hc
     have hjl:j < c.length:=by rw [hc.1];exact (List.getElem?_eq_some_iff.1 hd).1
     have hu:c[j]?=some c[j]:=List.getElem?_eq_getElem hjl
     have hcell:=Shape.rows_cell S hr i c h1 j _ hu
     rw [← htake,List.getElem?_take] at hcell
     split at hcell
     ·refine ⟨c[j],by simpa using hcell,Ow.mono (hc.2 j d _ hd hu) (fun b hb=>?_) (zaa _ _)⟩
      obtain ⟨f',e1,m1⟩:=(hW i).1 b j hb.2
      refine ⟨⟨trivial,?_⟩,hωn b i j hb.2⟩
      exact if_pos (List.mem_cons_of_mem _ (List.mem_flatten.2 ⟨f',List.mem_of_getElem? e1,m1⟩))
     ·cases hcell
 of w cs l T ω hT hco:=by
  obtain ⟨hl,hc⟩:=hco
  match cs,hl with
  | [v],_ =>
   obtain ⟨N,hO⟩:=hc 0 _ v rfl rfl
   cases N with
   | zero=>exact hO.elim
   | succ N =>
    rcases hO with ⟨rfl,hz⟩|⟨g,c,cur,fz,rfl,hg,hh,hf,h1,h2,h3,ω',hω',hi⟩
    ·have hl:l=[]:=by cases l with
      | nil=>rfl
      | cons a b=>cases hz
     subst hl
     exact ⟨[],⟨_,[],[],rfl,⟨by simp,.inl ⟨rfl,rfl⟩⟩,trivial,rfl,List.nodup_nil⟩,fun b hb=>by cases hb⟩
    ·have hfz:fz=(0,0):=hf
     subst hfz
     have hml:(l.map e).length=l.length:=List.length_map _
     rw [hml] at h1
     have hwid:∀ i,i < l.length→i*S.k+S.k≤cur.size:=fun i hi=>by
      rw [h3]
      have:=Nat.mul_le_mul_right S.k (show i+1≤c by omega)
      rw [Nat.add_mul,Nat.one_mul] at this
      exact this
     obtain ⟨fs,hr,hP⟩:=zpM S (w:=w) (fun i f=>f.Nodup∧∀ b ∈ f,(T b∧ω b=some 0)∧∃ j,ω' b=some (i,j)) l 0 (fun i=>(cur.toList.drop (i*S.k)).take S.k) (fun i hil=>by
      rw [Nat.zero_add]
      have hes:(l.map e)[i]?=some (e l[i]):=by rw [List.getElem?_map,List.getElem?_eq_getElem hil];rfl
      obtain ⟨hk,hj⟩:=hi i _ hes
      have hw:=hwid i hil
      have hcl:((cur.toList.drop (i*S.k)).take S.k).length=S.k:=by
       rw [List.length_take,List.length_drop,Array.length_toList]
       omega
      obtain ⟨f,hof,hmf⟩:=h.of w _ l[i] (fun b=>(T b∧ω b=some 0)∧∃ j,ω' b=some (i,j)) (fun b=>(ω' b).map (·.2)) (fun b hb=>hT b hb.1.1) ⟨by rw [hcl,h.k],fun j d u hd hu=>by
       obtain ⟨u',hu',hOw⟩:=hj j d hd
       have hjk:j < S.k:=by rw [← h.k l[i]];exact (List.getElem?_eq_some_iff.1 hd).1
       rw [List.getElem?_take,if_pos hjk,List.getElem?_drop] at hu
       have:u'=u:=by
        have e1:cur.toList[i*S.k+j]?=some u':=by simpa using hu'
        rw [e1] at hu
        injection hu
       subst this
       exact Ow.mono ⟨N,hOw⟩ (fun b hb=>⟨⟨hb.1,j,hb.2⟩,by show (ω' b).map (·.2)=some j;rw [hb.2];rfl⟩) (zaa _ _)⟩
      exact ⟨f,hof,S.nodup hof,fun b hb=>(hmf b hb).1⟩)
     have hfl:fs.flatten.Nodup:=znQ (fun b=>(ω' b).map (·.1)) fs 0 fun i f hfi=>by
      obtain ⟨hn,hm⟩:=hP i f hfi
      refine ⟨hn,fun b hb=>?_⟩
      obtain ⟨_,j,hj⟩:=hm b hb
      rw [hj]
      rfl
     have hgf:g ∉ fs.flatten:=fun hm=>by
      obtain ⟨f,hf1,hb⟩:=List.mem_flatten.1 hm
      obtain ⟨i,hi'⟩:=List.getElem?_of_mem hf1
      obtain ⟨_,j,hj⟩:=(hP i f hi').2 g hb
      rw [hω'] at hj
      cases hj
     have hflat:=Shape.rows_flat S hr
     have hxs:((List.range' 0 l.length).map fun i=>(cur.toList.drop (i*S.k)).take S.k).flatten=cur.toList.take (l.length*S.k):=by
      rw [← List.range_eq_range']
      exact zvp _ _ _
     refine ⟨g::fs.flatten,⟨_,_,fs,rfl,⟨hflat,.inr ⟨g,c,cur,by rw [hml],Nat.zero_le _,hh,h1,h2,h3,hxs.symm⟩⟩,hr,by simp [Value.ownBlock],List.nodup_cons.2 ⟨hgf,hfl⟩⟩,fun b hb=>?_⟩
     rcases List.mem_cons.1 hb with rfl|hb
     ·exact ⟨hg.1,0,Nat.zero_lt_one,hg.2⟩
     ·obtain ⟨f,hf1,hbf⟩:=List.mem_flatten.1 hb
      obtain ⟨i,hi'⟩:=List.getElem?_of_mem hf1
      obtain ⟨⟨hb1,hb2⟩,_⟩:=(hP i f hi').2 b hbf
      exact ⟨hb1,0,Nat.zero_lt_one,hb2⟩
end Go.Proofs.YtifkepnfaggkiaaGreatDoor
