import Derived.Test.YtifkepnfaggkiaaGreatDoorPg2
import Derived.Test.YtifkepnfaggkiaaGreatDoorDw
namespace Go.Proofs.YtifkepnfaggkiaaGreatDoor
namespace Tp
open Go.RowKit
set_option linter.unusedVariables false
set_option linter.unusedSimpArgs false
attribute [local simp] zy zdS zdt zbE za6 zav zV zq zS zfk zp zrU zbD ziK znn zoV
noncomputable section
theorem zkO (l:List Int) (n:Int) (h:l.length < 2 ^ 61):zbu l n=some (l.any fun x=>decide (x=n)):=by
 unfold zbu
 rw [zu l (fun _ x=>decide (x=n)) (fun _ _=>true) .inr (.inl (l.length:Int)) h (fun i hi=>by simp [ze9,hi]) (by simp [ze9]),zcI]
 cases l.any fun x=>decide (x=n)<;>rfl
theorem zyY (l:List Int) (n:Int) (h:l.length < 2 ^ 61):zdm l n=some (idxI (fun x=>decide (n=x)) l):=by
 unfold zdm
 rw [zu l (fun _ x=>decide (n=x)) (fun i _=>(i:Int)) .inr (.inl (l.length:Int)) h (fun i hi=>by simp [zc9,hi]) (by simp [zc9])]
 unfold idxI
 cases scan (fun _ x=>decide (n=x)) (fun i _=>(i:Int)) 0 l<;>rfl
theorem zhx (l:List Int) (n:Int) (h:l.length < 2 ^ 61):zQ l n=some (l.any fun x=>decide (x=n)):=by
 unfold zQ
 rw [zyY l n h]
 simp only [Option.bind_some,zbE,ze6]
 congr 2
 funext x
 exact decide_eq_decide.2 eq_comm
def inSet (set a:Int):Bool:=decide (0≤a∧a≤30) && (decide (0≤set) && za.cmp .eql (za.arith .and .i64 (za.arith .shr .i64 set a) 1) 1)
theorem zy7 (set a:Int):zgA set a=some (inSet set a):=by
 unfold zgA inSet
 rw [zgT]
 by_cases h:0≤a∧a≤30
 ·by_cases h':0≤set<;>simp [h,h']
 ·simp [h]
theorem zy6 (set a:Int):zgz set a=some (inSet set a):=by
 unfold zgz inSet
 by_cases h':0≤set
 ·rw [zcm]
  by_cases h:0≤a∧a≤30<;>simp [h,h']
 ·simp [h']
def keepL (dead:List Int) (down:Int) (i:Nat) (x:zl):Bool:=!(dead.any fun y=>decide (y=(i:Int))) && (!inSet down x.a && !inSet down x.b)
def leftL (dead:List Int) (down:Int) (l:List zl):List zl:=gath (fun i x acc=>if keepL dead down i x then acc++[x] else acc) 0 l []
theorem zkS (t:zi) (dead:List Int) (down:Int) (h:t.links.length≤2 ^ 40) (hd:dead.length < 2 ^ 61):zcv t dead down=some ⟨t.size,leftL dead down t.links⟩:=by
 unfold zcv
 rw [zck t.links (fun i x acc=>if keepL dead down i x then acc++[x] else acc) (fun s=>((t.links.length:Int),s)) (fun i acc=>acc.length≤i) [] (by omega) (Nat.le_refl _) (fun i acc hi hI=>?_) (fun acc hI=>by simp [zdV])]
 ·rfl
 ·have hf:(acc.length+1)*16≤70368744177664:=by omega
  constructor
  ·cases h1:(dead.any fun y=>decide (y=(i:Int)))<;>cases h2:inSet down t.links[i].a<;>cases h3:inSet down t.links[i].b<;>simp [zdV,keepL,hi,zkO _ _ hd,zy7,h1,h2,h3,hf]
  ·split<;>first|(simp;omega)|omega
theorem p_impl_RemoveFailed (t:zi) (dead:List Int) (down:Int) (h:t.links.length≤2 ^ 40) (hd:dead.length < 2 ^ 61):zcr t dead down=some ⟨t.size,leftL dead down t.links⟩:=by
 unfold zcr
 rw [zck t.links (fun i x acc=>if keepL dead down i x then acc++[x] else acc) (fun s=>((t.links.length:Int),s)) (fun i acc=>acc.length≤i) [] (by omega) (Nat.le_refl _) (fun i acc hi hI=>?_) (fun acc hI=>by simp [zdU])]
 ·rfl
 ·have hf:(acc.length+1)*16≤70368744177664:=by omega
  constructor
  ·cases h1:(dead.any fun y=>decide (y=(i:Int)))<;>cases h2:inSet down t.links[i].a<;>cases h3:inSet down t.links[i].b<;>simp [zdU,keepL,hi,zhx _ _ hd,zy6,h1,h2,h3,hf]
  ·split<;>first|(simp;omega)|omega
theorem zvV (dead:List Int) (down:Int) (l:List zl):(leftL dead down l).length≤l.length:=by
 have:∀ (l:List zl) i acc,(gath (fun i x acc=>if keepL dead down i x then acc++[x] else acc) i l acc).length≤acc.length+l.length:=by
  intro l
  induction l with
  | nil=>intro i acc;simp [gath]
  | cons x l ih =>
   intro i acc
   simp only [gath]
   refine Nat.le_trans (ih _ _) ?_
   split<;>simp<;>omega
 have h:=this l 0 []
 simpa [leftL] using h
def linkP (a b:Int) (x:zl):Bool:=(decide (x.a=a) && decide (x.b=b)) || (decide (x.a=b) && decide (x.b=a))
theorem znk (t:zi) (a b:Int) (h:t.links.length≤2 ^ 40):zec t a b=some (idxI (linkP a b) t.links):=by
 unfold zec
 rw [zu t.links (fun _ x=>linkP a b x) (fun i _=>(i:Int)) .inr (.inl (t.links.length:Int)) (by omega) (fun i hi=>by
  simp only [zfu,linkP,zw _ hi,zt hi,cond_true,Option.bind_some,za6];cases decide (t.links[i].a=a)<;>cases decide (t.links[i].b=b)<;>cases decide (t.links[i].a=b)<;>cases decide (t.links[i].b=a)<;>rfl) (by simp [zfu])]
 unfold idxI
 cases scan (fun _ x=>linkP a b x) (fun i _=>(i:Int)) 0 t.links<;>rfl
theorem zlm (x:zl) (a b:Int):zcR x a b=some (linkP a b x):=by
 simp only [zcR,linkP,za6]
 cases decide (x.a=a)<;>cases decide (x.b=b)<;>cases decide (x.a=b)<;>cases decide (x.b=a)<;>rfl
theorem znc (t:zi) (a b:Int) (h:t.links.length≤2 ^ 40):zd4 t a b=some (idxI (linkP a b) t.links):=by
 unfold zd4 zai
 rw [zu t.links (fun _ x=>linkP a b x) (fun i _=>(i:Int)) .inr (.inl (t.links.length:Int)) (by omega) (fun i hi=>by
  simp [zaJ,hi,zlm]) (by simp [zaJ])]
 unfold idxI
 cases scan (fun _ x=>linkP a b x) (fun i _=>(i:Int)) 0 t.links<;>rfl
def nbrs (t:zi) (a:Int):List Int:=gath (fun i _ acc=>if t.links.any (linkP a (i:Int)) then acc++[(i:Int)] else acc) 0 (List.range (max 0 (min t.size 6)).toNat) []
theorem zlv (t:zi) (a:Int) (h:t.links.length≤2 ^ 40):zcW t a=some (nbrs t a):=by
 unfold zcW
 have hn:(max 0 (min t.size 6)).toNat≤6:=by omega
 rw [zck (List.range (max 0 (min t.size 6)).toNat) (fun i _ acc=>if t.links.any (linkP a (i:Int)) then acc++[(i:Int)] else acc) (fun s=>if 6 < t.size then .inl (((max 0 (min t.size 6)).toNat:Int),s) else if (6:Int)=t.size then .inr (((max 0 (min t.size 6)).toNat:Int),s) else .inr (((max 0 (min t.size 6)).toNat:Int),s)) (fun i acc=>acc.length≤i) [] (by simp;omega) (Nat.le_refl _) (fun i acc hi hI=>?_) (fun acc hI=>?_)]
 ·by_cases h1:6 < t.size
  ·simp [h1,nbrs]
  ·by_cases h2:(6:Int)=t.size<;>simp [h1,h2,nbrs]
 ·simp only [List.length_range] at hi
  have hf:(acc.length+1)*8≤70368744177664:=by omega
  have h1:(i:Int) < t.size:=by omega
  have h2:(i:Int) < 6:=by omega
  have hx:=ze6 (linkP a (i:Int)) t.links
  constructor
  ·simp only [zeB,zy,decide_eq_true h1,decide_eq_true h2,cond_true,znk t a _ h,Option.bind_some,zbE,hx]
   cases t.links.any (linkP a (i:Int))<;>simp [hf]
  ·split<;>first|(simp;omega)|omega
 ·simp only [List.length_range,zeB,zy]
  by_cases h1:6 < t.size
  ·have e1:(((max 0 (min t.size 6)).toNat:Nat):Int)=6:=by omega
   rw [e1]
   simp [h1]
  ·have e1:¬ (((max 0 (min t.size 6)).toNat:Nat):Int) < t.size:=by omega
   simp only [decide_eq_false e1,cond_false,h1,if_false]
   split<;>rfl
theorem zln (t:zi) (a:Int) (h:t.links.length≤2 ^ 40):zcS t a=some (nbrs t a):=by
 unfold zcS
 have hn:(max 0 (min t.size 6)).toNat≤6:=by omega
 have hm:za.max 0 (za.min t.size 6)=(((max 0 (min t.size 6)).toNat:Nat):Int):=by
  rw [zzS,zzT]
  split<;>split<;>omega
 rw [zck (List.range (max 0 (min t.size 6)).toNat) (fun i _ acc=>if t.links.any (linkP a (i:Int)) then acc++[(i:Int)] else acc) (fun s=>(((max 0 (min t.size 6)).toNat:Int),s)) (fun i acc=>acc.length≤i) [] (by simp;omega) (Nat.le_refl _) (fun i acc hi hI=>?_) (fun acc hI=>?_)]
 ·rfl
 ·simp only [List.length_range] at hi
  have hf:(acc.length+1)*8≤70368744177664:=by omega
  have h1:(i:Int) < (((max 0 (min t.size 6)).toNat:Nat):Int):=by omega
  have hx:=ze6 (linkP a (i:Int)) t.links
  constructor
  ·simp only [zev,hm,zy,decide_eq_true h1,cond_true,znc t a _ h,Option.bind_some,zbE,hx]
   cases t.links.any (linkP a (i:Int))<;>simp [hf]
  ·split<;>first|(simp;omega)|omega
 ·simp [zev,hm]
end
end Tp
end Go.Proofs.YtifkepnfaggkiaaGreatDoor
namespace Go.Proofs.YtifkepnfaggkiaaGreatDoor
namespace Tp
open Go.RowKit
set_option linter.unusedVariables false
set_option linter.unusedSimpArgs false
attribute [local simp] zy zdS zdt zbE za6 zav zV zq zS zfk zp zrU zbD ziK znn zoV
noncomputable section
def advs (t:zi):List zg:=if zaq t then gath (fun i _ acc=>acc++[(⟨(i:Int),1,nbrs t (i:Int),[]⟩:zg)]) 0 (List.range t.size.toNat) [] else []
theorem zrQ (v:Int):ze (zdG [] v) fuel (0,[])=some (.inr (0,[])):=by
 rw [show fuel=(2 ^ 62 - 1)+1 from rfl]
 exact zaU rfl
theorem zrM (v:Int):ze (zdF [] v) fuel (0,[])=some (0,[]):=by
 rw [show fuel=(2 ^ 62 - 1)+1 from rfl]
 exact zaU rfl
theorem zjg (t:zi) (h:t.links.length≤2 ^ 40):za9 t [] 1=some (advs t):=by
 unfold za9 advs
 rw [zfO t h]
 cases hv:zaq t
 ·rfl
 ·have hs:=zbN hv
  simp only [Option.bind_some,zp,Bool.not_true,cond_false,zgT,show decide ((1:Int)≤1∧(1:Int)≤1000)=true from rfl,if_true]
  rw [zck (List.range t.size.toNat) (fun i _ acc=>acc++[(⟨(i:Int),1,nbrs t (i:Int),[]⟩:zg)]) (fun s=>((t.size.toNat:Int),s)) (fun i acc=>acc.length≤i) [] (by simp;omega) (Nat.le_refl _) (fun i acc hi hI=>?_) (fun acc hI=>?_)]
  ·rfl
  ·simp only [List.length_range] at hi
   have hf:(acc.length+1)*64≤70368744177664:=by omega
   have h1:(i:Int) < t.size:=by omega
   refine ⟨?_,by simp;omega⟩
   simp only [zct,zy,decide_eq_true h1,cond_true,zlv t _ h,Option.bind_some,zrQ]
   simp [hf]
  ·have h1:¬ (t.size.toNat:Int) < t.size:=by omega
   simp only [List.length_range,zct,zy,decide_eq_false h1,cond_false]
theorem p_impl_AdvertisementsOf (t:zi) (h:t.links.length≤2 ^ 40):za7 t [] 1=some (advs t):=by
 unfold za7 advs
 rw [zfL t h]
 cases hv:zaq t
 ·rfl
 ·have hs:=zbN hv
  simp only [Option.bind_some,zp,Bool.not_true,cond_false,zcm,show decide ((1:Int)≤1∧(1:Int)≤1000)=true from rfl,if_true]
  rw [zck (List.range t.size.toNat) (fun i _ acc=>acc++[(⟨(i:Int),1,nbrs t (i:Int),[]⟩:zg)]) (fun s=>((t.size.toNat:Int),s)) (fun i acc=>acc.length≤i) [] (by simp;omega) (Nat.le_refl _) (fun i acc hi hI=>?_) (fun acc hI=>?_)]
  ·rfl
  ·simp only [List.length_range] at hi
   have hf:(acc.length+1)*64≤70368744177664:=by omega
   have h1:(i:Int) < t.size:=by omega
   refine ⟨?_,by simp;omega⟩
   simp only [zcp,zy,decide_eq_true h1,cond_true,zln t _ h,Option.bind_some,zrM]
   simp [hf]
  ·have h1:¬ (t.size.toNat:Int) < t.size:=by omega
   simp only [List.length_range,zcp,zy,decide_eq_false h1,cond_false]
def zjh (l:List zg):Prop:=l.length < 2 ^ 61∧∀ x ∈ l,x.neighbors.length < 2 ^ 61
theorem zxp (t:zi) (a:Int):(nbrs t a).length≤6:=by
 have:∀ (l:List Nat) i acc,(gath (fun i _ acc=>if t.links.any (linkP a (i:Int)) then acc++[(i:Int)] else acc) i l acc).length≤acc.length+l.length:=by
  intro l
  induction l with
  | nil=>intro i acc;simp [gath]
  | cons x l ih =>
   intro i acc
   simp only [gath]
   refine Nat.le_trans (ih _ _) ?_
   split<;>simp<;>omega
 have h:=this (List.range (max 0 (min t.size 6)).toNat) 0 []
 unfold nbrs
 simp only [List.length_nil,List.length_range] at h
 omega
theorem advs_ok (t:zi):zjh (advs t):=by
 unfold advs
 split
 ·rename_i hv
  have hs:=zbN hv
  have:∀ (l:List Nat) i acc,zjh acc→acc.length+l.length≤6→zjh (gath (fun i _ acc=>acc++[(⟨(i:Int),1,nbrs t (i:Int),[]⟩:zg)]) i l acc):=by
   intro l
   induction l with
   | nil=>intro i acc h _;exact h
   | cons x l ih =>
    intro i acc h hl
    simp only [gath]
    simp only [List.length_cons] at hl
    refine ih _ _ ⟨by simp;omega,fun y hy=>?_⟩ (by simp;omega)
    rcases List.mem_append.1 hy with hy|hy
    ·exact h.2 y hy
    ·simp only [List.mem_singleton] at hy
     subst hy
     have:=zxp t (i:Int)
     show (nbrs t (i:Int)).length < 2 ^ 61
     omega
  exact this _ _ _ ⟨by simp,fun x hx=>by cases hx⟩ (by simp;omega)
 ·exact ⟨by simp,fun x hx=>by cases hx⟩
theorem zf7 (l:List zg) (a:Int) (h:l.length < 2 ^ 61):z7 l a=some (idxI (fun x=>decide (x.origin=a)) l):=by
 unfold z7
 rw [zu l (fun _ x=>decide (x.origin=a)) (fun i _=>(i:Int)) .inr (.inl (l.length:Int)) h (fun i hi=>by simp only [zce,zw _ hi,zt hi,cond_true,Option.bind_some,za6]) (by simp only [zce,zz];rfl)]
 unfold idxI
 cases scan (fun _ (x:zg)=>decide (x.origin=a)) (fun i _=>(i:Int)) 0 l<;>rfl
theorem zf5 (l:List zg) (a:Int) (h:l.length < 2 ^ 61):zU l a=some (idxI (fun x=>decide (x.origin=a)) l):=by
 unfold zU zA
 rw [zu l (fun _ x=>decide (x.origin=a)) (fun i _=>(i:Int)) .inr (.inl (l.length:Int)) h (fun i hi=>by simp only [zO,za0,zw _ hi,zt hi,cond_true,Option.bind_some,za6]) (by simp only [zO,zz];rfl)]
 unfold idxI
 cases scan (fun _ (x:zg)=>decide (x.origin=a)) (fun i _=>(i:Int)) 0 l<;>rfl
def nbrB (l:List zg) (a b:Int):Bool:=match nthI l (idxI (fun x=>decide (x.origin=a)) l) with
 | some x=>x.neighbors.any fun y=>decide (y=b)
 | none=>false
def bidB (l:List zg) (a b:Int):Bool:=nbrB l a b && nbrB l b a
theorem zxw (l:List zg) (a b:Int) (h:zjh l):zfQ l a b=some (nbrB l a b):=by
 unfold zfQ nbrB
 rw [zf7 l a h.1]
 rcases zbd (fun x:zg=>decide (x.origin=a)) l with ⟨h1,_⟩|⟨j,x,h1,h2,_⟩
 ·rw [h1,zf4 _ _ (by decide)]
  rfl
 ·rw [h1]
  have hx:nthI l (j:Int)=some x:=by rw [zbD];exact h2
  simp only [Option.bind_some,zbE,decide_eq_true (show (0:Int)≤(j:Int) by omega),cond_true,hx,zkO _ _ (h.2 x (List.mem_of_getElem? h2))]
theorem zuJ (l:List zg) (a b:Int) (h:zjh l):zbp l a b=some (bidB l a b):=by
 unfold zbp bidB
 simp only [zxw l _ _ h,Option.bind_some]
 cases nbrB l a b<;>rfl
theorem zuE (l:List zg) (a b:Int) (h:zjh l):zbo l a b=some (bidB l a b):=by
 unfold zbo bidB nbrB
 simp only [zf5 l _ h.1,Option.bind_some,zbE]
 rcases zbd (fun x:zg=>decide (x.origin=a)) l with ⟨h1,_⟩|⟨j,x,h1,h2,_⟩
 ·rw [h1,zf4 l (-1) (by decide)]
  rfl
 ·rw [h1]
  have hx:nthI l (j:Int)=some x:=by rw [zbD];exact h2
  simp only [decide_eq_true (show (0:Int)≤(j:Int) by omega),cond_true,hx,Option.bind_some,zhx _ _ (h.2 x (List.mem_of_getElem? h2))]
  rcases zbd (fun x:zg=>decide (x.origin=b)) l with ⟨k1,_⟩|⟨j',x',k1,k2,_⟩
  ·rw [k1,zf4 l (-1) (by decide)]
   cases x.neighbors.any fun y=>decide (y=b)<;>rfl
  ·rw [k1]
   have hx':nthI l (j':Int)=some x':=by rw [zbD];exact k2
   simp only [decide_eq_true (show (0:Int)≤(j':Int) by omega),cond_true,hx',Option.bind_some,zhx _ _ (h.2 x' (List.mem_of_getElem? k2))]
   cases x.neighbors.any fun y=>decide (y=b)<;>rfl
end
end Tp
end Go.Proofs.YtifkepnfaggkiaaGreatDoor
namespace Go.Proofs.YtifkepnfaggkiaaGreatDoor
namespace Tp
open Go.RowKit
set_option linter.unusedVariables false
set_option linter.unusedSimpArgs false
set_option linter.unusedSectionVars false
noncomputable section
def gt (d:List Int) (x:Nat):Int:=d.getD x (-1)
theorem zlW {d:List Int} {x:Nat} (h:x < d.length):d[x]?=some (gt d x):=by
 simp [gt,List.getD,List.getElem?_eq_getElem h]
theorem zj0 {d:List Int} {x:Nat} (h:x < d.length) (v:Int) (y:Nat):gt (d.set x v) y=if y=x then v else gt d y:=by
 unfold gt
 rw [List.getD_eq_getElem?_getD,List.getD_eq_getElem?_getD]
 by_cases hy:y=x
 ·subst hy
  rw [List.getElem?_set_self h]
  simp
 ·rw [List.getElem?_set_ne (fun e=>hy e.symm),if_neg hy]
inductive Rch (R:Nat→Nat→Bool) (a:Nat):Nat→Prop
 | start:Rch R a a
 | step {b x:Nat}:Rch R a b→R b x=true→x < 6→Rch R a x
theorem zzW {R:Nat→Nat→Bool} {a x:Nat} (ha:a < 6) (h:Rch R a x):x < 6:=by
 cases h with
 | start=>exact ha
 | step _ _ h=>exact h
theorem zwl {R:Nat→Nat→Bool} {a:Nat} {d:List Int} (ha:a < 6) (h0:0≤gt d a) (hc:∀ b x,b < 6→x < 6→0≤gt d b→R b x=true→0≤gt d x) {x:Nat} (h:Rch R a x):0≤gt d x:=by
 induction h with
 | start=>exact h0
 | step hb hr hx ih=>exact hc _ _ (zzW ha hb) hx ih hr
def Dst (R:Nat→Nat→Bool) (on:Prop) (a:Nat) (d:List Int):Prop:=d.length=6∧∀ x,x < 6→(0≤gt d x↔on∧Rch R a x)
structure Mid (R:Nat→Nat→Bool) (a:Nat) (s:Int) (B:Nat) (d:List Int):Prop where
 len:d.length=6
 h0:gt d a=0
 ub:∀ x,x < 6→gt d x≤s
 snd:∀ x,x < 6→0≤gt d x→Rch R a x
 lev:∀ x k,x < 6→0≤k→gt d x=k+1→∃ b,b < 6∧gt d b=k
 cl:∀ b x,b < 6→x < 6→0≤gt d b→gt d b < s - 1→R b x=true→0≤gt d x
 done:∀ b x,b < B→b < 6→x < 6→gt d b=s - 1→R b x=true→0≤gt d x
theorem Mid.next {R:Nat→Nat→Bool} {a:Nat} {s:Int} {d:List Int} (h:Mid R a s 6 d) (hs:1≤s):Mid R a (s+1) 0 d :=
 ⟨h.len,h.h0,fun x hx=>by have:=h.ub x hx;omega,h.snd,h.lev,fun b x hb hx h1 h2 hr=>by
  by_cases he:gt d b=s - 1
  ·exact h.done b x hb hb hx he hr
  ·exact h.cl b x hb hx h1 (by omega) hr,fun b x hb=>by omega⟩
theorem Mid.more {R:Nat→Nat→Bool} {a:Nat} {s:Int} {B:Nat} {d:List Int} (h:Mid R a s B d) (hd:∀ y,y < 6→gt d B=s - 1→R B y=true→0≤gt d y):Mid R a s (B+1) d :=
 ⟨h.len,h.h0,h.ub,h.snd,h.lev,h.cl,fun c y hc hc6 hy h3 h5=>by
  by_cases hcb:c=B
  ·subst hcb;exact hd y hy h3 h5
  ·exact h.done c y (by omega) hc6 hy h3 h5⟩
theorem Mid.set {R:Nat→Nat→Bool} {a:Nat} {s:Int} {B b x:Nat} {d:List Int} (h:Mid R a s B d) (hs:1≤s) (hb:b < 6) (hx:x < 6) (h1:gt d b=s - 1) (h2:gt d x < 0) (hr:R b x=true):Mid R a s B (d.set x s):=by
 have hxl:x < d.length:=by rw [h.len];exact hx
 have g:=zj0 hxl s
 have up:∀ y,0≤gt d y→0≤gt (d.set x s) y:=fun y hy=>by rw [g];split<;>omega
 have hax:a≠x:=fun e=>by have:=h.h0;rw [e] at this;omega
 have hbx:b≠x:=fun e=>by rw [e] at h1;omega
 refine ⟨by rw [List.length_set];exact h.len,by rw [g,if_neg hax];exact h.h0,fun y hy=>?_,fun y hy h0=>?_,fun y k hy hk he=>?_,fun c y hc hy h3 h4 h5=>?_,fun c y hc hc6 hy h3 h5=>?_⟩
 ·rw [g]
  split
  ·omega
  ·exact h.ub y hy
 ·rw [g] at h0
  split at h0
  ·rename_i e
   subst e
   exact .step (h.snd b hb (by omega)) hr hx
  ·exact h.snd y hy h0
 ·rw [g] at he
  split at he
  ·exact ⟨b,hb,by rw [g,if_neg hbx];omega⟩
  ·obtain ⟨c,hc,hce⟩:=h.lev y k hy hk he
   exact ⟨c,hc,by rw [g,if_neg (fun e=>by rw [e] at hce;omega)];exact hce⟩
 ·rw [g] at h3 h4
  split at h4
  ·omega
  ·rename_i hne
   rw [if_neg hne] at h3
   exact up y (h.cl c y hc hy h3 h4 h5)
 ·rw [g] at h3
  split at h3
  ·omega
  ·exact up y (h.done c y hc hc6 hy h3 h5)
theorem znI (d:List Int) (k:Int):∀ l:List Nat,l.countP (fun x=>decide (0≤gt d x∧gt d x≤k))+l.countP (fun x=>decide (gt d x=k+1∧0≤k))≤l.countP (fun x=>decide (0≤gt d x∧gt d x≤k+1))
 | []=>by simp
 | x::l=>by
  have ih:=znI d k l
  simp only [List.countP_cons]
  by_cases h1:0≤gt d x∧gt d x≤k
  ·have h2:¬ (gt d x=k+1∧0≤k):=by omega
   have h3:0≤gt d x∧gt d x≤k+1:=by omega
   simp only [decide_eq_true h1,decide_eq_false h2,decide_eq_true h3,if_true,Bool.false_eq_true,if_false]
   omega
  ·by_cases h2:gt d x=k+1∧0≤k
   ·have h3:0≤gt d x∧gt d x≤k+1:=by omega
    simp only [decide_eq_false h1,decide_eq_true h2,decide_eq_true h3,if_true,Bool.false_eq_true,if_false]
    omega
   ·simp only [decide_eq_false h1,decide_eq_false h2,Bool.false_eq_true,if_false]
    omega
theorem zpj {d:List Int} (hlev:∀ x k,x < 6→0≤k→gt d x=k+1→∃ b,b < 6∧gt d b=k):∀ (k:Nat),(∃ x,x < 6∧gt d x=(k:Int))→k+1≤(List.range 6).countP (fun x=>decide (0≤gt d x∧gt d x≤(k:Int)))
 | 0,⟨x,hx,he⟩=>by
  have:0 < (List.range 6).countP (fun x=>decide (0≤gt d x∧gt d x≤((0:Nat):Int))):=List.countP_pos_iff.2 ⟨x,by simpa using hx,by simp [he]⟩
  omega
 | k+1,⟨x,hx,he⟩=>by
  have ih:=zpj hlev k (hlev x k hx (by omega) (by rw [he];omega))
  have h1:=znI d k (List.range 6)
  have h2:0 < (List.range 6).countP (fun x=>decide (gt d x=(k:Int)+1∧(0:Int)≤k)):=List.countP_pos_iff.2 ⟨x,by simpa using hx,by simp [he]⟩
  have e:(((k+1:Nat):Int))=(k:Int)+1:=by omega
  rw [e]
  omega
theorem Mid.dst {R:Nat→Nat→Bool} {a:Nat} {d:List Int} (ha:a < 6) (h:Mid R a 7 0 d):Dst R True a d:=by
 refine ⟨h.len,fun x hx=>⟨fun h0=>⟨trivial,h.snd x hx h0⟩,fun hr=>zwl ha (by rw [h.h0];exact Int.le_refl _) (fun b y hb hy h1 h2=>?_) hr.2⟩⟩
 by_cases h6:gt d b < 6
 ·exact h.cl b y hb hy h1 (by omega) h2
 ·exfalso
  obtain ⟨k,hk⟩:∃ k:Nat,gt d b=(k:Int):=⟨(gt d b).toNat,by omega⟩
  have h3:=zpj h.lev k ⟨b,hb,hk⟩
  have h4:(List.range 6).countP (fun x=>decide (0≤gt d x∧gt d x≤(k:Int)))≤(List.range 6).length:=List.countP_le_length
  simp only [List.length_range] at h4
  omega
section
variable (l:List zg) (hl:zjh l)
def RB (b x:Nat):Bool:=bidB l (b:Int) (x:Int)
include hl
theorem inc6 {i:Nat} (h:i < 6):za.arith .add .i64 (i:Int) 1=((i+1:Nat):Int):=zcc i 6 h (by decide)
theorem zzm {a:Nat} {s:Nat} (hs:1≤s) (hs6:s≤6) {b:Nat} (hb:b < 6) {d:List Int} (h:Mid (RB l) a s b d) :
  ∃ g,ze (zdh l s b) fuel (0,d)=some g∧Mid (RB l) a s (b+1) (match g with|.inl (_,d,_,_)=>d|.inr (_,d)=>d):=by
 have hsub:za.arith .sub .i64 (s:Int) 1=(s:Int) - 1:=zes _ _ (by omega) (by omega)
 refine ze3 (fun y:Int×List Int=>∃ i:Nat,y.1=(i:Int)∧i≤6∧Mid (RB l) a s b y.2∧(∀ x,x < i→gt y.2 b=(s:Int) - 1→RB l b x=true→0≤gt y.2 x)) (fun y=>6 - y.1.toNat) _ ?_ fuel (0,d) ⟨0,rfl,by omega,h,fun x hx=>by omega⟩ (by unfold fuel;simp)
 rintro ⟨v,d⟩ ⟨i,rfl,hi,hM,hdone⟩
 dsimp only at hM hdone ⊢
 by_cases h6:i < 6
 ·have hbl:b < d.length:=by rw [hM.len];exact hb
  have hil:i < d.length:=by rw [hM.len];exact h6
  have e1:za.cmp .lss (i:Int) 6=true:=by rw [zy];exact decide_eq_true (by omega)
  simp only [zdh,e1,cond_true,zaD eI hbl,zaD eI hil,Option.bind_some,zlW hbl,zlW hil,za6,hsub]
  by_cases h1:gt d b=(s:Int) - 1
  ·simp only [decide_eq_true h1,cond_true,zy]
   left
   by_cases h2:gt d i < 0
   ·simp only [decide_eq_true h2,cond_true,zuJ l _ _ hl,Option.bind_some]
    cases hr:bidB l (b:Int) (i:Int)
    ·refine ⟨_,rfl,⟨i+1,inc6 l hl h6,by omega,hM,fun x hx hb' hr'=>?_⟩,?_⟩
     ·by_cases hxi:x=i
      ·subst hxi
       have:RB l b x=false:=hr
       rw [this] at hr'
       cases hr'
      ·exact hdone x (by omega) hb' hr'
     ·dsimp only
      rw [inc6 l hl h6]
      simp only [Int.toNat_natCast]
      omega
    ·refine ⟨_,rfl,⟨i+1,inc6 l hl h6,by omega,hM.set (by omega) hb h6 h1 h2 hr,fun x hx hb' hr'=>?_⟩,?_⟩
     ·dsimp only
      rw [zj0 hil]
      split
      ·omega
      ·rename_i hne
       exact hdone x (by omega) h1 hr'
     ·dsimp only
      rw [inc6 l hl h6]
      simp only [Int.toNat_natCast]
      omega
   ·simp only [decide_eq_false h2,cond_false]
    refine ⟨_,rfl,⟨i+1,inc6 l hl h6,by omega,hM,fun x hx hb' hr'=>?_⟩,?_⟩
    ·by_cases hxi:x=i
     ·subst hxi;dsimp only;omega
     ·exact hdone x (by omega) hb' hr'
    ·dsimp only
     rw [inc6 l hl h6]
     simp only [Int.toNat_natCast]
     omega
  ·simp only [decide_eq_false h1,cond_false]
   right
   refine ⟨_,rfl,?_⟩
   exact hM.more fun y hy h3=>absurd h3 h1
 ·have hi6:i=6:=by omega
  subst hi6
  right
  refine ⟨_,rfl,?_⟩
  exact hM.more fun y hy h3 h5=>hdone y hy h3 h5
theorem zzl {a:Nat} {s:Nat} (hs:1≤s) (hs6:s≤6) {d:List Int} (h:Mid (RB l) a s 0 d) :
  ∃ g,ze (zdg l s) fuel (0,d)=some g∧Mid (RB l) a s 6 g.2:=by
 refine ze3 (fun y:Int×List Int=>∃ i:Nat,y.1=(i:Int)∧i≤6∧Mid (RB l) a s i y.2) (fun y=>6 - y.1.toNat) _ ?_ fuel (0,d) ⟨0,rfl,by omega,h⟩ (by unfold fuel;simp)
 rintro ⟨v,d⟩ ⟨i,rfl,hi,hM⟩
 dsimp only at hM ⊢
 by_cases h6:i < 6
 ·left
  have e1:za.cmp .lss (i:Int) 6=true:=by rw [zy];exact decide_eq_true (by omega)
  obtain ⟨g,hg,hM'⟩:=zzm l hl hs hs6 h6 hM
  simp only [zdg,e1,cond_true,hg,Option.bind_some]
  rcases g with ⟨g1,g2,g3,g4⟩|⟨g1,g2⟩
  ·refine ⟨_,rfl,⟨i+1,inc6 l hl h6,by omega,hM'⟩,?_⟩
   dsimp only
   rw [inc6 l hl h6]
   simp only [Int.toNat_natCast]
   omega
  ·refine ⟨_,rfl,⟨i+1,inc6 l hl h6,by omega,hM'⟩,?_⟩
   dsimp only
   rw [inc6 l hl h6]
   simp only [Int.toNat_natCast]
   omega
 ·right
  have hi6:i=6:=by omega
  subst hi6
  exact ⟨_,rfl,hM⟩
theorem zzk {a:Nat} {d:List Int} (h:Mid (RB l) a 1 0 d):∃ g,ze (zdf l) fuel (1,d)=some g∧Mid (RB l) a 7 0 g.2:=by
 refine ze3 (fun y:Int×List Int=>∃ i:Nat,y.1=(i:Int)∧1≤i∧i≤7∧Mid (RB l) a (i:Nat) 0 y.2) (fun y=>7 - y.1.toNat) _ ?_ fuel (1,d) ⟨1,rfl,by omega,by omega,h⟩ (by unfold fuel;simp)
 rintro ⟨v,d⟩ ⟨i,rfl,hi0,hi,hM⟩
 dsimp only at hM ⊢
 by_cases h6:i≤6
 ·left
  have e1:za.cmp .leq (i:Int) 6=true:=by rw [zdS];exact decide_eq_true (by omega)
  obtain ⟨g,hg,hM'⟩:=zzl l hl hi0 h6 hM
  obtain ⟨g1,g2⟩:=g
  simp only [zdf,e1,cond_true,hg,Option.bind_some]
  have e2:za.arith .add .i64 (i:Int) 1=((i+1:Nat):Int):=zcc i 7 (by omega) (by decide)
  have hn:=hM'.next (by omega)
  refine ⟨_,rfl,⟨i+1,e2,by omega,by omega,?_⟩,?_⟩
  ·rw [show (((i+1:Nat):Int))=(i:Int)+1 by omega]
   exact hn
  ·dsimp only
   rw [e2]
   simp only [Int.toNat_natCast]
   omega
 ·right
  have hi6:i=7:=by omega
  subst hi6
  exact ⟨_,rfl,hM⟩
end
end
end Tp
end Go.Proofs.YtifkepnfaggkiaaGreatDoor
namespace Go.Proofs.YtifkepnfaggkiaaGreatDoor
namespace Tp
open Go.RowKit
set_option linter.unusedVariables false
set_option linter.unusedSimpArgs false
set_option linter.unusedSectionVars false
noncomputable section
def negs (d:List Int):Nat:=(List.range 6).countP (fun x=>decide (gt d x < 0))
theorem zrw {d:List Int} {x:Nat} (hl:d.length=6) (hx:x < 6) (h:gt d x < 0) {v:Int} (hv:0≤v):negs (d.set x v)+1=negs d:=by
 have hxl:x < d.length:=by omega
 unfold negs
 rw [show List.range 6=[0,1,2,3,4,5] from rfl]
 simp only [List.countP_cons,List.countP_nil,zj0 hxl]
 have hv':¬ v < 0:=by omega
 rcases (show x=0∨x=1∨x=2∨x=3∨x=4∨x=5 by omega) with rfl|rfl|rfl|rfl|rfl|rfl<;>simp [h,hv']<;>omega
structure Bfs (R:Nat→Nat→Bool) (a k:Nat) (d w:List Int):Prop where
 len:d.length=6
 h0:0≤gt d a
 wk:∀ (i:Nat) (y:Int),w[i]?=some y→∃ n:Nat,y=(n:Int)∧n < 6∧0≤gt d n
 mem:∀ x:Nat,x < 6→0≤gt d x→∃ i:Nat,w[i]?=some (x:Int)
 snd:∀ x,x < 6→0≤gt d x→Rch R a x
 bd:∀ x,x < 6→gt d x≤(w.length:Int)
 cl:∀ (i n x:Nat),i < k→w[i]?=some (n:Int)→x < 6→R n x=true→0≤gt d x
 cnt:w.length+negs d=6
theorem Bfs.set {R:Nat→Nat→Bool} {a k n x:Nat} {d w:List Int} (h:Bfs R a k d w) (hk:k≤w.length) (hn:n < 6) (h1:0≤gt d n) (hx:x < 6) (h2:gt d x < 0) (hr:R n x=true):Bfs R a k (d.set x (gt d n+1)) (w++[(x:Int)]):=by
 have hxl:x < d.length:=by rw [h.len];exact hx
 have g:=zj0 hxl (gt d n+1)
 have up:∀ y,0≤gt d y→0≤gt (d.set x (gt d n+1)) y:=fun y hy=>by rw [g];split<;>omega
 refine ⟨by rw [List.length_set];exact h.len,up a h.h0,fun i y hi=>?_,fun y hy h0=>?_,fun y hy h0=>?_,fun y hy=>?_,fun i m y hi hm hy hr'=>?_,?_⟩
 ·by_cases hil:i < w.length
  ·rw [List.getElem?_append_left hil] at hi
   obtain ⟨m,h3,h4,h5⟩:=h.wk i y hi
   exact ⟨m,h3,h4,up m h5⟩
  ·rw [List.getElem?_append_right (by omega)] at hi
   cases hq:i - w.length with
   | succ q=>rw [hq] at hi;simp at hi
   | zero =>
    rw [hq] at hi
    simp only [List.getElem?_cons_zero,Option.some.injEq] at hi
    exact ⟨x,hi.symm,hx,by rw [g,if_pos rfl];omega⟩
 ·rw [g] at h0
  split at h0
  ·rename_i e
   subst e
   exact ⟨w.length,by simp⟩
  ·obtain ⟨i,hi⟩:=h.mem y hy h0
   exact ⟨i,by rw [List.getElem?_append_left (List.getElem?_eq_some_iff.1 hi).1];exact hi⟩
 ·rw [g] at h0
  split at h0
  ·rename_i e
   subst e
   exact .step (h.snd n hn h1) hr hx
  ·exact h.snd y hy h0
 ·have:=h.bd n hn
  rw [g]
  simp only [List.length_append,List.length_singleton]
  split
  ·omega
  ·have:=h.bd y hy
   omega
 ·rw [List.getElem?_append_left (by omega)] at hm
  exact up y (h.cl i m y hi hm hy hr')
 ·have:=zrw h.len hx h2 (show 0≤gt d n+1 by omega)
  have:=h.cnt
  simp only [List.length_append,List.length_singleton]
  omega
theorem zxr:zdv [(-1)] 6=some [-1,-1,-1,-1,-1,-1]:=by kernel_rfl
def places:Nat→List Int→List Int
 | _,[]=>[]
 | i,x::d=>if 0≤x then (i:Int)::places (i+1) d else places (i+1) d
theorem zjH:∀ (d:List Int) (i:Nat) (acc:List Int),gath (fun i x acc=>if 0≤x then acc++[(i:Int)] else acc) i d acc=acc++places i d
 | [],i,acc=>by simp [gath,places]
 | x::d,i,acc=>by
  simp only [gath,places,zjH d]
  split<;>simp
theorem zlx:∀ (d e:List Int) (i:Nat),d.length=e.length→(∀ x,x < d.length→(0≤gt d x↔0≤gt e x))→places i d=places i e
 | [],[],_,_,_=>rfl
 | [],_::_,_,h,_=>by simp at h
 | _::_,[],_,h,_=>by simp at h
 | x::d,y::e,i,h,hs=>by
  have h0:=hs 0 (by simp)
  have hr:=zlx d e (i+1) (by simpa using h) (fun z hz=>by
   have:=hs (z+1) (by simp;omega)
   simpa [gt] using this)
  simp only [gt,List.getD_cons_zero] at h0
  simp only [places,hr]
  by_cases hx:0≤x
  ·rw [if_pos hx,if_pos (h0.1 hx)]
  ·rw [if_neg hx,if_neg (fun h=>hx (h0.2 h))]
theorem ziA:∀ (d:List Int) (i:Nat),∀ y ∈ places i d,(i:Int)≤y∧y < (i:Int)+d.length
 | [],i,y,h=>by cases h
 | x::d,i,y,h=>by
  simp only [places] at h
  simp only [List.length_cons]
  split at h
  ·rcases List.mem_cons.1 h with rfl|h
   ·omega
   ·have:=ziA d (i+1) y h
    omega
  ·have:=ziA d (i+1) y h
   omega
theorem zii:∀ (d:List Int) (i:Nat),(places i d).Pairwise (· < ·)
 | [],i=>by simp [places]
 | x::d,i=>by
  simp only [places]
  split
  ·rw [List.pairwise_cons]
   refine ⟨fun y hy=>?_,zii d (i+1)⟩
   have:=(ziA d (i+1) y hy).1
   omega
  ·exact zii d (i+1)
theorem zoe:∀ (d:List Int) (i:Nat),(places i d).length≤d.length
 | [],i=>by simp [places]
 | x::d,i=>by
  simp only [places]
  have:=zoe d (i+1)
  split<;>simp<;>omega
section
variable (l:List zg) (hl:zjh l)
include hl
theorem zyA {a k n:Nat} {d w:List Int} (h:Bfs (RB l) a k d w) (hkl:k < w.length) (hn:w[k]?=some (n:Int)) :
  ∃ g,ze (zfn l k) fuel (0,d,w)=some g∧Bfs (RB l) a (k+1) g.2.1 g.2.2∧k+1≤g.2.2.length:=by
 refine ze3 (fun y:Int×List Int×List Int=>∃ i:Nat,y.1=(i:Int)∧i≤6∧Bfs (RB l) a k y.2.1 y.2.2∧y.2.2[k]?=some (n:Int)∧(∀ x,x < i→RB l n x=true→0≤gt y.2.1 x)) (fun y=>6 - y.1.toNat) _ ?_ fuel (0,d,w) ⟨0,rfl,by omega,h,hn,fun x hx=>by omega⟩ (by unfold fuel;simp)
 rintro ⟨v,d,w⟩ ⟨i,rfl,hi,hB,hnk,hdone⟩
 dsimp only at hB hnk hdone ⊢
 have hkl:k < w.length:=(List.getElem?_eq_some_iff.1 hnk).1
 obtain ⟨n',hn1,hn6,hn0⟩:=hB.wk k _ hnk
 have hnn:n'=n:=by omega
 subst hnn
 by_cases h6:i < 6
 ·left
  have hil:i < d.length:=by rw [hB.len];exact h6
  have hnl:n' < d.length:=by rw [hB.len];exact hn6
  have e1:za.cmp .lss (i:Int) 6=true:=by rw [zy];exact decide_eq_true (by omega)
  simp only [zfn,e1,cond_true,zaD eI hil,zaD eI hkl,zaD eI hnl,Option.bind_some,zlW hil,zlW hnl,hnk,zy]
  by_cases h2:gt d i < 0
  ·simp only [decide_eq_true h2,cond_true,zuE l _ _ hl,Option.bind_some]
   cases hr:bidB l (n':Int) (i:Int)
   ·refine ⟨_,rfl,⟨i+1,inc6 l hl h6,by omega,hB,hnk,fun x hx hr'=>?_⟩,?_⟩
    ·by_cases hxi:x=i
     ·subst hxi
      have:RB l n' x=false:=hr
      rw [this] at hr'
      cases hr'
     ·exact hdone x (by omega) hr'
    ·dsimp only
     rw [inc6 l hl h6]
     simp only [Int.toNat_natCast]
     omega
   ·have hw6:w.length≤6:=by have:=hB.cnt;omega
    have hb:=hB.bd n' hn6
    have e2:za.arith .add .i64 (gt d n') 1=gt d n'+1:=zf8 _ _ (by omega) (by omega)
    have hf:za.fits (za.len (List.map eI w)) (za.rlen (za.opn (List.map eI [(i:Int)]))) 8=true:=by
     rw [zq,zS,zfk]
     exact decide_eq_true (by simp;omega)
    simp only [cond_true,hf,e2]
    refine ⟨_,rfl,⟨i+1,inc6 l hl h6,by omega,hB.set (by omega) hn6 hn0 h6 h2 hr,?_,fun x hx hr'=>?_⟩,?_⟩
    ·dsimp only
     rw [List.getElem?_append_left hkl]
     exact hnk
    ·dsimp only
     rw [zj0 hil]
     split
     ·omega
     ·exact hdone x (by omega) hr'
    ·dsimp only
     rw [inc6 l hl h6]
     simp only [Int.toNat_natCast]
     omega
  ·simp only [decide_eq_false h2,cond_false]
   refine ⟨_,rfl,⟨i+1,inc6 l hl h6,by omega,hB,hnk,fun x hx hr'=>?_⟩,?_⟩
   ·by_cases hxi:x=i
    ·subst hxi;dsimp only;omega
    ·exact hdone x (by omega) hr'
   ·dsimp only
    rw [inc6 l hl h6]
    simp only [Int.toNat_natCast]
    omega
 ·right
  have hi6:i=6:=by omega
  subst hi6
  refine ⟨_,rfl,⟨hB.len,hB.h0,hB.wk,hB.mem,hB.snd,hB.bd,fun j m x hj hm hx hr=>?_,hB.cnt⟩,hkl⟩
  by_cases hjk:j=k
  ·subst hjk
   have:(m:Int)=(n':Int):=by
    have h3:w[j]?=some (m:Int):=hm
    rw [hnk] at h3
    injection h3 with h3
    exact h3.symm
   have hmn:m=n':=by omega
   subst hmn
   exact hdone x hx hr
  ·exact hB.cl j m x (by omega) hm hx hr
theorem zyz {a:Nat} (ha:a < 6) {d w:List Int} (h:Bfs (RB l) a 0 d w):∃ g,ze (zeh l) fuel (0,d,w)=some g∧Dst (RB l) True a g.2.1:=by
 refine ze3 (fun y:Int×List Int×List Int=>∃ k:Nat,y.1=(k:Int)∧k≤y.2.2.length∧Bfs (RB l) a k y.2.1 y.2.2) (fun y=>7 - y.1.toNat) _ ?_ fuel (0,d,w) ⟨0,rfl,by omega,h⟩ (by unfold fuel;simp)
 rintro ⟨v,d,w⟩ ⟨k,rfl,hk,hB⟩
 dsimp only at hk hB ⊢
 have hw6:w.length≤6:=by have:=hB.cnt;omega
 by_cases hkl:k < w.length
 ·left
  obtain ⟨n,hn,hn6,_⟩:=hB.wk k _ (List.getElem?_eq_getElem hkl)
  obtain ⟨g,hg,hB',hlen⟩:=zyA l hl hB hkl (by rw [← hn];exact List.getElem?_eq_getElem hkl)
  obtain ⟨g1,g2,g3⟩:=g
  simp only [zeh,zw eI hkl,cond_true,hg,Option.bind_some]
  have e2:za.arith .add .i64 (k:Int) 1=((k+1:Nat):Int):=zcc k 7 (by omega) (by decide)
  refine ⟨_,rfl,⟨k+1,e2,hlen,hB'⟩,?_⟩
  dsimp only
  rw [e2]
  simp only [Int.toNat_natCast]
  omega
 ·right
  have hke:k=w.length:=by omega
  subst hke
  refine ⟨((w.length:Int),d,w),?_,hB.len,fun x hx=>⟨fun h0=>⟨trivial,hB.snd x hx h0⟩,fun hr=>zwl ha hB.h0 (fun b y hb hy h1 h2=>?_) hr.2⟩⟩
  ·simp only [zeh,zz,cond_false]
  ·obtain ⟨i,hi⟩:=hB.mem b hb h1
   exact hB.cl i b y (List.getElem?_eq_some_iff.1 hi).1 hi hy h2
def onA (l:List zg) (a:Int):Prop:=(0≤a∧a≤5)∧0≤idxI (fun x:zg=>decide (x.origin=a)) l
def ini (l:List zg) (a:Int) (i:Nat):Int:=if (i:Int)=a∧0≤idxI (fun x:zg=>decide (x.origin=a)) l then 0 else -1
theorem zzj (a:Int):ze (zek l a) fuel (0,[])=some (6,(List.range 6).map (ini l a)):=by
 obtain ⟨g,hg,hq⟩:=ze3 (step:=zek l a) (fun y:Int×List Int=>∃ i:Nat,y.1=(i:Int)∧i≤6∧y.2=(List.range i).map (ini l a)) (fun y=>6 - y.1.toNat) (fun g=>g=(6,(List.range 6).map (ini l a))) (by
  rintro ⟨v,d⟩ ⟨i,rfl,hi,rfl⟩
  dsimp only
  by_cases h6:i < 6
  ·left
   have e1:za.cmp .lss (i:Int) 6=true:=by rw [zy];exact decide_eq_true (by omega)
   have hf:∀ z:Int,za.fits (za.len (List.map eI ((List.range i).map (ini l a)))) (za.rlen (za.opn (List.map eI [z]))) 8=true:=fun z=>by
    rw [zq,zS,zfk]
    exact decide_eq_true (by simp;omega)
   refine ⟨(za.arith .add .i64 (i:Int) 1,(List.range i).map (ini l a)++[ini l a i]),?_,⟨i+1,inc6 l hl h6,by omega,by rw [List.range_succ,List.map_append];rfl⟩,?_⟩
   ·simp only [zek,e1,cond_true,za6,zf7 l a hl.1,Option.bind_some,zbE,hf]
    unfold ini
    by_cases h1:(i:Int)=a
    ·by_cases h2:0≤idxI (fun x:zg=>decide (x.origin=a)) l
     ·rw [decide_eq_true h1,decide_eq_true h2,if_pos ⟨h1,h2⟩];rfl
     ·rw [decide_eq_true h1,decide_eq_false h2,if_neg (fun h=>h2 h.2)];rfl
    ·rw [decide_eq_false h1,if_neg (fun h=>h1 h.1)];rfl
   ·dsimp only
    rw [inc6 l hl h6]
    simp only [Int.toNat_natCast]
    omega
  ·right
   have hi6:i=6:=by omega
   subst hi6
   exact ⟨_,rfl,rfl⟩) fuel (0,[]) ⟨0,rfl,by omega,rfl⟩ (by unfold fuel;simp)
 rw [hg,hq]
theorem zk7 (a:Int) {x:Nat} (hx:x < 6):gt ((List.range 6).map (ini l a)) x=ini l a x:=by
 unfold gt
 rw [List.getD_eq_getElem?_getD,List.getElem?_map,List.getElem?_range hx]
 rfl
theorem zwz {d:List Int} (hd:d.length=6) (hn:∀ x,x < 6→gt d x < 0):∃ g,ze (zdf l) fuel (1,d)=some g∧g.2=d:=by
 have h4:∀ (s b:Nat),1≤s→s≤6→b < 6→ze (zdh l s b) fuel (0,d)=some (.inl (0,d,b,gt d b)):=by
  intro s b hs hs6 hb
  rw [show fuel=(2 ^ 62 - 1)+1 from rfl]
  refine zaU ?_
  have hsub:za.arith .sub .i64 (s:Int) 1=(s:Int) - 1:=zes _ _ (by omega) (by omega)
  have hbl:b < d.length:=by omega
  have:=hn b hb
  have h1:¬ gt d b=(s:Int) - 1:=by omega
  simp only [zdh,show za.cmp .lss 0 6=true from rfl,cond_true,zaD eI hbl,Option.bind_some,zlW hbl,za6,hsub,decide_eq_false h1,cond_false]
 have h3:∀ s:Nat,1≤s→s≤6→∃ g,ze (zdg l s) fuel (0,d)=some g∧g.2=d:=by
  intro s hs hs6
  refine ze3 (fun y:Int×List Int=>∃ i:Nat,y.1=(i:Int)∧i≤6∧y.2=d) (fun y=>6 - y.1.toNat) _ ?_ fuel (0,d) ⟨0,rfl,by omega,rfl⟩ (by unfold fuel;simp)
  rintro ⟨v,d'⟩ ⟨i,rfl,hi,hdd⟩
  dsimp only at hdd
  subst hdd
  dsimp only
  by_cases h6:i < 6
  ·left
   have e1:za.cmp .lss (i:Int) 6=true:=by rw [zy];exact decide_eq_true (by omega)
   simp only [zdg,e1,cond_true,h4 s i hs hs6 h6,Option.bind_some]
   refine ⟨_,rfl,⟨i+1,inc6 l hl h6,by omega,rfl⟩,?_⟩
   dsimp only
   rw [inc6 l hl h6]
   simp only [Int.toNat_natCast]
   omega
  ·right
   have hi6:i=6:=by omega
   subst hi6
   exact ⟨_,rfl,rfl⟩
 refine ze3 (fun y:Int×List Int=>∃ i:Nat,y.1=(i:Int)∧1≤i∧i≤7∧y.2=d) (fun y=>7 - y.1.toNat) _ ?_ fuel (1,d) ⟨1,rfl,by omega,by omega,rfl⟩ (by unfold fuel;simp)
 rintro ⟨v,d'⟩ ⟨i,rfl,hi0,hi,hdd⟩
 dsimp only at hdd
 subst hdd
 dsimp only
 by_cases h6:i≤6
 ·left
  have e1:za.cmp .leq (i:Int) 6=true:=by rw [zdS];exact decide_eq_true (by omega)
  obtain ⟨⟨g1,g2⟩,hg,hge⟩:=h3 i hi0 h6
  simp only [zdf,e1,cond_true,hg,Option.bind_some]
  have e2:za.arith .add .i64 (i:Int) 1=((i+1:Nat):Int):=zcc i 7 (by omega) (by decide)
  refine ⟨_,rfl,⟨i+1,e2,by omega,by omega,hge⟩,?_⟩
  dsimp only
  rw [e2]
  simp only [Int.toNat_natCast]
  omega
 ·right
  have hi6:i=7:=by omega
  subst hi6
  exact ⟨_,rfl,rfl⟩
theorem zo1 (a:Int):∃ d,zdo l a=some d∧Dst (RB l) (onA l a) a.toNat d:=by
 unfold zdo
 rw [zzj l hl a]
 simp only [Option.bind_some]
 by_cases h:onA l a
 ·obtain ⟨⟨h1,h2⟩,h3⟩:=h
  have ha:a.toNat < 6:=by omega
  have hea:((a.toNat:Nat):Int)=a:=by omega
  have hini:∀ x,x < 6→ini l a x=if x=a.toNat then 0 else -1:=by
   intro x hx
   unfold ini
   by_cases hxa:x=a.toNat
   ·rw [if_pos hxa,if_pos ⟨by omega,h3⟩]
   ·rw [if_neg hxa,if_neg (fun h=>hxa (by omega))]
  have hM:Mid (RB l) a.toNat 1 0 ((List.range 6).map (ini l a)):=by
   refine ⟨by simp,by rw [zk7 l hl a ha,hini _ ha,if_pos rfl],fun x hx=>?_,fun x hx h0=>?_,fun x k hx hk he=>?_,fun b x hb hx h4 h5=>by omega,fun b x hb=>by omega⟩
   ·rw [zk7 l hl a hx,hini x hx];split<;>omega
   ·rw [zk7 l hl a hx,hini x hx] at h0
    split at h0
    ·rename_i e;rw [e];exact .start
    ·omega
   ·rw [zk7 l hl a hx,hini x hx] at he
    split at he<;>omega
  obtain ⟨⟨g1,g2⟩,hg,hM'⟩:=zzk l hl hM
  rw [hg]
  refine ⟨g2,rfl,?_⟩
  have:=hM'.dst ha
  exact ⟨this.1,fun x hx=>(this.2 x hx).trans ⟨fun h=>⟨⟨⟨h1,h2⟩,h3⟩,h.2⟩,fun h=>⟨trivial,h.2⟩⟩⟩
 ·have hneg:∀ x,x < 6→gt ((List.range 6).map (ini l a)) x < 0:=by
   intro x hx
   rw [zk7 l hl a hx]
   unfold ini
   rw [if_neg (fun hh=>h ⟨by omega,hh.2⟩)]
   decide
  obtain ⟨⟨g1,g2⟩,hg,hge⟩:=zwz l hl (by simp) hneg
  dsimp only at hge
  subst hge
  rw [hg]
  exact ⟨_,rfl,by simp,fun x hx=>⟨fun h0=>absurd h0 (Int.not_le.2 (hneg x hx)),fun hh=>absurd hh.1 h⟩⟩
theorem impl_Distances (a:Int):∃ d,zdn l a=some d∧Dst (RB l) (onA l a) a.toNat d:=by
 unfold zdn
 rw [zxr,zcm]
 simp only [Option.bind_some,zp]
 have hneg:∀ x,x < 6→gt [-1,-1,-1,-1,-1,-1] x=-1:=by
  intro x hx
  rcases (show x=0∨x=1∨x=2∨x=3∨x=4∨x=5 by omega) with rfl|rfl|rfl|rfl|rfl|rfl<;>rfl
 by_cases h1:0≤a∧a≤5
 ·simp only [decide_eq_true h1,Bool.not_true,cond_false,zf5 l a hl.1,Option.bind_some,zy]
  by_cases h3:idxI (fun x:zg=>decide (x.origin=a)) l < 0
  ·simp only [decide_eq_true h3,cond_true]
   refine ⟨_,rfl,rfl,fun x hx=>⟨fun h0=>by rw [hneg x hx] at h0;omega,fun hh=>?_⟩⟩
   have:=hh.1.2
   omega
  ·simp only [decide_eq_false h3,cond_false]
   have ha:a.toNat < 6:=by omega
   have hea:a=((a.toNat:Nat):Int):=by omega
   have hr:za.ridx 0 (za.len (List.map eI [-1,-1,-1,-1,-1,-1])) a=some a.toNat:=by
    rw [hea]
    simp only [Int.toNat_natCast]
    exact zaD eI (l:=[-1,-1,-1,-1,-1,-1]) ha
   have hg1:([-1,-1,-1,-1,-1,-1]:List Int)[a.toNat]?=some (-1):=by
    rw [zlW (d:=[-1,-1,-1,-1,-1,-1]) ha,hneg _ ha]
   rw [hr]
   simp only [Option.bind_some,hg1]
   have g:=zj0 (d:=[-1,-1,-1,-1,-1,-1]) ha 0
   have hB:Bfs (RB l) a.toNat 0 (([-1,-1,-1,-1,-1,-1]:List Int).set a.toNat 0) [a]:=by
    refine ⟨by simp,by rw [g,if_pos rfl];omega,fun i y hi=>?_,fun x hx h0=>?_,fun x hx h0=>?_,fun x hx=>?_,fun i n x hi=>by omega,?_⟩
    ·cases i with
     | succ i=>simp at hi
     | zero =>
      simp only [List.getElem?_cons_zero,Option.some.injEq] at hi
      exact ⟨a.toNat,by omega,ha,by rw [g,if_pos rfl];omega⟩
    ·rw [g] at h0
     split at h0
     ·rename_i e;subst e;exact ⟨0,by simp;omega⟩
     ·rw [hneg x hx] at h0;omega
    ·rw [g] at h0
     split at h0
     ·rename_i e;subst e;exact .start
     ·rw [hneg x hx] at h0;omega
    ·rw [g]
     split
     ·simp
     ·rw [hneg x hx];simp
    ·have h4:=zrw (d:=[-1,-1,-1,-1,-1,-1]) rfl ha (by rw [hneg _ ha];omega) (Int.le_refl 0)
     have h5:negs [-1,-1,-1,-1,-1,-1]=6:=by kernel_rfl
     simp only [List.length_singleton]
     omega
   obtain ⟨⟨g1,g2,g3⟩,hg,hD⟩:=zyz l hl ha hB
   rw [hg]
   exact ⟨g2,rfl,hD.1,fun x hx=>(hD.2 x hx).trans ⟨fun h=>⟨⟨h1,by omega⟩,h.2⟩,fun h=>⟨trivial,h.2⟩⟩⟩
 ·simp only [decide_eq_false h1,Bool.not_false,cond_true]
  refine ⟨_,rfl,rfl,fun x hx=>⟨fun h0=>by rw [hneg x hx] at h0;omega,fun hh=>absurd hh.1.1 h1⟩⟩
theorem zrP {a:Int} {d:List Int} (h:zdo l a=some d) (hd:d.length=6):zbz l a=some (places 0 d):=by
 unfold zbz
 rw [h]
 simp only [Option.bind_some]
 rw [zck d (fun i x acc=>if 0≤x then acc++[(i:Int)] else acc) (fun s=>((d.length:Int),s)) (fun i acc=>acc.length≤i) [] (by omega) (Nat.le_refl _) (fun i acc hi hI=>?_) (fun acc hI=>by simp only [zdA,zz,cond_false])]
 ·simp [zjH]
 ·have hf:za.fits (za.len (List.map eI acc)) (za.rlen (za.opn (List.map eI [(i:Int)]))) 8=true:=by
   rw [zq,zS,zfk]
   exact decide_eq_true (by simp;omega)
  constructor
  ·simp only [zdA,zw eI hi,cond_true,zaD eI hi,Option.bind_some,List.getElem?_eq_getElem hi,zbE,hf]
   by_cases h0:0≤d[i]
   ·rw [decide_eq_true h0,if_pos h0];rfl
   ·rw [decide_eq_false h0,if_neg h0];rfl
  ·split<;>first|(simp;omega)|omega
theorem p_impl_Reach {a:Int} {d:List Int} (h:zdn l a=some d) (hd:d.length=6):zby l a=some (places 0 d):=by
 unfold zby
 rw [h]
 simp only [Option.bind_some]
 rw [zck d (fun i x acc=>if 0≤x then acc++[(i:Int)] else acc) (fun s=>((d.length:Int),s)) (fun i acc=>acc.length≤i) [] (by omega) (Nat.le_refl _) (fun i acc hi hI=>?_) (fun acc hI=>by simp only [zdw,zz,cond_false])]
 ·simp [zjH]
 ·have hf:za.fits (za.len (List.map eI acc)) (za.rlen (za.opn (List.map eI [(i:Int)]))) 8=true:=by
   rw [zq,zS,zfk]
   exact decide_eq_true (by simp;omega)
  constructor
  ·simp only [zdw,zw eI hi,cond_true,zaD eI hi,Option.bind_some,List.getElem?_eq_getElem hi,zbE,hf]
   by_cases h0:0≤d[i]
   ·rw [decide_eq_true h0,if_pos h0];rfl
   ·rw [decide_eq_false h0,if_neg h0];rfl
  ·split<;>first|(simp;omega)|omega
def Rising (r:List Int):Prop:=r.length≤6∧r.Pairwise (· < ·)∧∀ y ∈ r,0≤y∧y < 6
theorem zuN (a:Int):∃ r,zbz l a=some r∧zby l a=some r∧Rising r:=by
 obtain ⟨d,hd,hD⟩:=zo1 l hl a
 obtain ⟨e,he,hE⟩:=impl_Distances l hl a
 refine ⟨places 0 d,zrP l hl hd hD.1,?_,?_,zii d 0,fun y hy=>?_⟩
 ·rw [p_impl_Reach l hl he hE.1]
  refine congrArg some (zlx e d 0 (by rw [hD.1,hE.1]) fun x hx=>?_)
  rw [hE.1] at hx
  exact (hE.2 x hx).trans (hD.2 x hx).symm
 ·have:=zoe d 0
  rw [hD.1] at this
  exact this
 ·have:=ziA d 0 y hy
  rw [hD.1] at this
  omega
end
theorem connected_both (p:zd) (dead:List Int) (k:Int) (h:p.topology.links.length≤2 ^ 40) (hd:dead.length < 2 ^ 61):∃ r,zaP p dead k=some r∧zar p dead k=some r∧Rising r:=by
 have hl:=zvV dead 0 p.topology.links
 obtain ⟨r,h1,h2,h3⟩:=zuN _ (advs_ok ⟨p.topology.size,leftL dead 0 p.topology.links⟩) k
 refine ⟨r,?_,?_,h3⟩
 ·unfold zaP
  rw [zkS _ _ _ h hd]
  simp only [Option.bind_some]
  rw [zjg _ (by show (leftL dead 0 p.topology.links).length≤2 ^ 40;omega)]
  simp only [Option.bind_some,h1]
 ·unfold zar
  rw [p_impl_RemoveFailed _ _ _ h hd]
  simp only [Option.bind_some]
  rw [p_impl_AdvertisementsOf _ (by show (leftL dead 0 p.topology.links).length≤2 ^ 40;omega)]
  simp only [Option.bind_some,h2]
end
end Tp
end Go.Proofs.YtifkepnfaggkiaaGreatDoor
namespace Go.Proofs.YtifkepnfaggkiaaGreatDoor
namespace Tp
open Go.RowKit
set_option linter.unusedVariables false
set_option linter.unusedSimpArgs false
set_option linter.unusedSectionVars false
noncomputable section
theorem zzZ (x y:UInt8):(za.yI x=za.yI y)↔x=y:=by
 show ((x.toNat:Int)=(y.toNat:Int))↔_
 constructor
 ·intro h;exact UInt8.toNat_inj.1 (by omega)
 ·rintro rfl;rfl
theorem zrK (a b:List UInt8) (ha:a.length≤2 ^ 40):zdu a b=some (decide (a=b)):=by
 unfold zdu
 simp only [zav,zV,zq]
 by_cases h:a.length=b.length
 ·rw [decide_eq_true (show (a.length:Int)=b.length by omega)]
  simp only [Bool.not_true,cond_false]
  rw [zu a (offE (fun x y=>decide (x=y)) b) (fun _ _=>false) .inr (.inl (a.length:Int)) (by omega) (fun i hi=>by
   simp only [zeQ,zw _ hi,zt hi,zt (show i < b.length by omega),cond_true,Option.bind_some,zav,zzZ,offE,List.getElem?_eq_getElem (show i < b.length by omega)]) (by simp only [zeQ,zz];rfl),zh0 _ b a b 0 rfl h,zow]
  by_cases he:a=b<;>simp [he]
 ·rw [decide_eq_false (show ¬ (a.length:Int)=b.length by omega),decide_eq_false (fun he=>h (by rw [he]))]
  rfl
theorem zrJ (a b:List UInt8):zdz a b=some (decide (a=b)):=by
 unfold zdz
 rw [zzU]
 congr 1
 refine decide_eq_decide.2 ⟨fun h=>?_,fun h=>by rw [h]⟩
 have h':(⟨a.toArray⟩:ByteArray)=⟨b.toArray⟩:=h
 injection h' with h'
 simpa using congrArg Array.toList h'
def zfI (l:List zb):Prop:=l.length≤2 ^ 40∧∀ x ∈ l,x.name.length≤2 ^ 40
def tE (x y:zb):Bool:=decide (x.value=y.value) && decide (x.name=y.name)
theorem zlt (a b:List zb) (ha:zfI a):zcU a b=some (allE tE a b):=by
 unfold zcU
 simp only [zav,zV,zq]
 have hl:=ha.1
 by_cases h:a.length=b.length
 ·rw [decide_eq_true (show (a.length:Int)=b.length by omega)]
  simp only [Bool.not_true,cond_false]
  rw [zu a (offE tE b) (fun _ _=>false) .inr (.inl (a.length:Int)) (by omega) (fun i hi=>by
   have hn:=ha.2 a[i] (List.getElem_mem hi)
   simp only [zez,zw _ hi,zt hi,zt (show i < b.length by omega),cond_true,Option.bind_some,zav,zp,zfd _ _ hn,offE,tE,List.getElem?_eq_getElem (show i < b.length by omega)]
   cases decide (a[i].value=(b[i]'(by omega)).value)<;>cases decide (a[i].name=(b[i]'(by omega)).name)<;>rfl) (by simp only [zez,zz];rfl),zh0 _ b a b 0 rfl h]
  cases allE tE a b<;>rfl
 ·rw [decide_eq_false (show ¬ (a.length:Int)=b.length by omega),zmP _ _ _ h]
  rfl
theorem zlk (a b:List zb) (ha:zfI a):zcP a b=some (allE tE a b):=by
 unfold zcP zL
 simp only [zav,zV,zq]
 have hl:=ha.1
 by_cases h:a.length=b.length
 ·rw [decide_eq_true (show (a.length:Int)=b.length by omega)]
  simp only [Bool.not_true,cond_false]
  rw [zu a (offE tE b) (fun _ _=>false) .inr (.inl (a.length:Int)) (by omega) (fun i hi=>by
   have hn:=ha.2 a[i] (List.getElem_mem hi)
   simp only [zad,zcC,zw _ hi,zt hi,zt (show i < b.length by omega),cond_true,Option.bind_some,za6,zp,zfc _ _ hn,offE,tE,List.getElem?_eq_getElem (show i < b.length by omega)]
   cases decide (a[i].value=(b[i]'(by omega)).value)<;>cases decide (a[i].name=(b[i]'(by omega)).name)<;>rfl) (by simp only [zad,zz];rfl),zh0 _ b a b 0 rfl h]
  cases allE tE a b<;>rfl
 ·rw [decide_eq_false (show ¬ (a.length:Int)=b.length by omega),zmP _ _ _ h]
  rfl
def findPub (l:List zh) (n:List ByteArray) (i:Int):List UInt8×Bool:=match nthI l (idxI (pubP n i) l) with
 | some x=>(x.content,true)
 | none=>([],false)
theorem zjN (m:zc) (n:List ByteArray) (i:Int) (h:PubOk m.publications):zY m n i=some (findPub m.publications n i):=by
 unfold zY findPub
 rw [zlq _ _ _ h]
 rcases zbd (pubP n i) m.publications with ⟨h1,_⟩|⟨j,x,h1,h2,_⟩
 ·rw [h1,zf4 _ _ (by decide)]
  rfl
 ·rw [h1]
  have hx:nthI m.publications (j:Int)=some x:=by rw [zbD];exact h2
  have hc:=(h.2 x (List.mem_of_getElem? h2)).2
  have hf:za.fits 0 (za.rlen (za.opn (List.map eY x.content))) 1=true:=by
   rw [zS,zfk]
   exact decide_eq_true (by omega)
  simp only [Option.bind_some,zy,decide_eq_false (show ¬ (j:Int) < 0 by omega),cond_false,hx,hf,cond_true]
theorem zjM (m:zc) (n:List ByteArray) (i:Int) (h:PubOk m.publications):zX m n i=some (findPub m.publications n i):=by
 unfold zX findPub zal
 rw [zig _ _ _ h]
 rcases zbd (pubP n i) m.publications with ⟨h1,_⟩|⟨j,x,h1,h2,_⟩
 ·rw [h1,zf4 _ _ (by decide)]
  rfl
 ·rw [h1]
  have hx:nthI m.publications (j:Int)=some x:=by rw [zbD];exact h2
  have hc:=(h.2 x (List.mem_of_getElem? h2)).2
  have hf:za.fits 0 (za.rlen (za.opn (List.map eY x.content))) 1=true:=by
   rw [zS,zfk]
   exact decide_eq_true (by omega)
  simp only [Option.bind_some,zy,decide_eq_false (show ¬ (j:Int) < 0 by omega),cond_false,hx,hf,cond_true]
theorem zsC (l:List zh) (n:List ByteArray) (i:Int) (h:PubOk l):(findPub l n i).1.length≤2 ^ 40:=by
 unfold findPub
 split
 ·rename_i x hx
  have hm:x ∈ l:=by
   unfold nthI at hx
   split at hx
   ·exact List.mem_of_getElem? hx
   ·cases hx
  exact (h.2 x hm).2
 ·simp
def lacks (b:List zh) (x:zh):Bool:=!(findPub b x.publisher x.seq).2 || !decide ((findPub b x.publisher x.seq).1=x.content)
theorem zmA (a b:zc) (ha:PubOk a.publications) (hb:PubOk b.publications):zdq a b=some (!a.publications.any (lacks b.publications)):=by
 unfold zdq
 have hl:=ha.1
 rw [zu a.publications (fun _ x=>lacks b.publications x) (fun _ _=>false) .inr (.inl (a.publications.length:Int)) (by omega) (fun j hj=>by
  simp only [zfx,zw _ hj,zt hj,cond_true,Option.bind_some,zjN _ _ _ hb,zp,zrJ,lacks]
  cases (findPub b.publications a.publications[j].publisher a.publications[j].seq).2<;>cases decide ((findPub b.publications a.publications[j].publisher a.publications[j].seq).1=a.publications[j].content)<;>rfl) (by simp only [zfx,zz];rfl),zcI]
 cases a.publications.any (lacks b.publications)<;>rfl
theorem zod (a b:zc) (ha:PubOk a.publications) (hb:PubOk b.publications):zdZ a b=some (!b.publications.any (lacks a.publications)):=by
 unfold zdZ zI zR
 have hl:=hb.1
 rw [zu b.publications (fun _ x=>lacks a.publications x) (fun i _=>(i:Int)) .inr (.inl (b.publications.length:Int)) (by omega) (fun j hj=>by
  simp only [zam,zey,zw _ hj,zt hj,cond_true,Option.bind_some,zjM _ _ _ ha,zp,zrK _ _ (zsC _ _ _ ha),lacks]
  cases (findPub a.publications b.publications[j].publisher b.publications[j].seq).2<;>cases decide ((findPub a.publications b.publications[j].publisher b.publications[j].seq).1=b.publications[j].content)<;>rfl) (by simp only [zam,zz];rfl)]
 have hi:=ze6 (lacks a.publications) b.publications
 unfold idxI at hi
 cases hc:scan (fun _ x=>lacks a.publications x) (fun i _=>(i:Int)) 0 b.publications with
 | none =>
  rw [hc] at hi
  rw [← hi]
  rfl
 | some i =>
  rw [hc] at hi
  rw [← hi]
  rfl
def MemOk (m:zc):Prop:=zfI m.vector∧PubOk m.publications
def inS (a b:zc):Bool:=allE tE a.vector b.vector && (!a.publications.any (lacks b.publications) && !b.publications.any (lacks a.publications))
theorem zp6 (a b:zc) (ha:MemOk a) (hb:MemOk b):zgc a b=some (inS a b):=by
 unfold zgc inS
 simp only [zlt _ _ ha.1,zmA _ _ ha.2 hb.2,zmA _ _ hb.2 ha.2,Option.bind_some]
 cases allE tE a.vector b.vector<;>cases a.publications.any (lacks b.publications)<;>cases b.publications.any (lacks a.publications)<;>rfl
theorem zp5 (a b:zc) (ha:MemOk a) (hb:MemOk b):zgb a b=some (inS a b):=by
 unfold zgb inS
 simp only [zlk _ _ ha.1,zod _ _ ha.2 hb.2,zod _ _ hb.2 ha.2,Option.bind_some]
 cases allE tE a.vector b.vector<;>cases a.publications.any (lacks b.publications)<;>cases b.publications.any (lacks a.publications)<;>rfl
theorem zzq (x y:zb):tE x y=tE y x:=by
 unfold tE
 rw [decide_eq_decide.2 (eq_comm (a:=x.value) (b:=y.value)),decide_eq_decide.2 (eq_comm (a:=x.name) (b:=y.name))]
theorem zo9 {α:Type} {e:α→α→Bool} (h:∀ x y,e x y=e y x):∀ a b:List α,allE e a b=allE e b a
 | [],[]=>rfl
 | [],_::_=>rfl
 | _::_,[]=>rfl
 | x::a,y::b=>by simp only [allE,h x y,zo9 h a b]
theorem zw5 (a b:zc):inS a b=inS b a:=by
 unfold inS
 rw [zo9 zzq a.vector b.vector,Bool.and_comm (!a.publications.any (lacks b.publications))]
end
end Tp
end Go.Proofs.YtifkepnfaggkiaaGreatDoor
namespace Go.Proofs.YtifkepnfaggkiaaGreatDoor
namespace Tp
open Go.RowKit
set_option linter.unusedVariables false
set_option linter.unusedSimpArgs false
set_option linter.unusedSectionVars false
noncomputable section
def okP (ms:List zc) (x y:Int):Bool:=match nthI ms x,nthI ms y with
 | some a,some b=>inS a b
 | _,_=>false
theorem zrE (ms:List zc) (x y:Int):okP ms x y=okP ms y x:=by
 unfold okP
 cases nthI ms x<;>cases nthI ms y<;>try rfl
 exact zw5 _ _
theorem zl6 {α:Type} {l:List α} {x:Int} (h0:0≤x) (h:x < l.length):∃ a,nthI l x=some a∧a ∈ l:=by
 refine ⟨l[x.toNat]'(by omega),?_,List.getElem_mem _⟩
 unfold nthI
 rw [if_pos h0]
 exact List.getElem?_eq_getElem _
theorem zm8 {α:Type} {l:List α} {x:Int} (h:(l.length:Int)≤x):nthI l x=none:=by
 unfold nthI
 rw [if_pos (by omega),List.getElem?_eq_none (by omega)]
section
variable (p:zd) (hp:p.members.length≤2 ^ 40) (hm:∀ m ∈ p.members,MemOk m) {r:List Int} (hr:Rising r)
include hp hm hr
theorem zl9 {i:Nat} (hi:i < r.length):0≤r[i]∧r[i] < 6:=hr.2.2 _ (List.getElem_mem hi)
theorem zwn {i j:Nat} (hi:i < r.length) (hj:j < i):r[j]'(by omega) < r[i]:=List.pairwise_iff_getElem.1 hr.2.1 j i (by omega) hi hj
theorem zzi {i:Nat} (hi:i < r.length):ze (zde p r i) fuel 0=some (if (r.take i).any (fun y=>!okP p.members r[i] y) then .inr false else .inl (i:Int)):=by
 have hlen:(r.take i).length=i:=by rw [List.length_take];omega
 have h6:=hr.1
 have hw:=zu (step:=zde p r i) (r.take i) (fun _ y=>!okP p.members r[i] y) (fun _ _=>false) .inr (.inl (i:Int)) (by omega) (fun j hj=>by
  rw [hlen] at hj
  have hjr:j < r.length:=by omega
  have hx:=zl9 p hp hm hr hi
  have hy:=zl9 p hp hm hr hjr
  have hlt:=zwn p hp hm hr hi hj
  have e1:za.cmp .lss (j:Int) (i:Int)=true:=by rw [zy];exact decide_eq_true (by omega)
  have e2:(r.take i)[j]'(by omega)=r[j]:=List.getElem_take
  simp only [zde,e1,cond_true,zaD eI hi,zaD eI hjr,Option.bind_some,List.getElem?_eq_getElem hi,List.getElem?_eq_getElem hjr]
  simp only [zbE,zV,zq,e2]
  by_cases hn:(p.members.length:Int)≤r[i]
  ·rw [decide_eq_true hn]
   have:okP p.members r[i] r[j]=false:=by unfold okP;rw [zm8 hn]
   rw [this]
   rfl
  ·rw [decide_eq_false hn]
   obtain ⟨a,ha,hma⟩:=zl6 (l:=p.members) hx.1 (by omega)
   obtain ⟨b,hb,hmb⟩:=zl6 (l:=p.members) hy.1 (by omega)
   have:okP p.members r[i] r[j]=inS a b:=by unfold okP;rw [ha,hb]
   simp only [cond_false,ha,hb,Option.bind_some,zp6 a b (hm a hma) (hm b hmb),zp,this]) (by
  rw [hlen]
  have e1:za.cmp .lss (i:Int) (i:Int)=false:=by rw [zy];simp
  simp only [zde,e1,cond_false])
 rw [hw,zcI]
 by_cases hq:(r.take i).any (fun y=>!okP p.members r[i] y)=true
 ·rw [if_pos hq,if_pos hq]
 ·rw [if_neg hq,if_neg hq]
theorem zyy {i:Nat} (hi:i < r.length):ze (zdb p r r[i]) fuel 0=some (if r.any (fun y=>!decide (r[i]=y) && !okP p.members r[i] y) then .inr false else .inl (r.length:Int)):=by
 have h6:=hr.1
 have hx:=zl9 p hp hm hr hi
 have hw:=zu (step:=zdb p r r[i]) r (fun _ y=>!decide (r[i]=y) && !okP p.members r[i] y) (fun _ _=>false) .inr (.inl (r.length:Int)) (by omega) (fun j hj=>by
  have hy:=zl9 p hp hm hr hj
  have es:za.arith .sub .i64 (p.members.length:Int) 1=(p.members.length:Int) - 1:=zes _ _ (by omega) (by omega)
  simp only [zdb,zw eI hj,cond_true,zaD eI hj,Option.bind_some,List.getElem?_eq_getElem hj]
  simp only [zav,zcm,zV,zq,zp,es,Option.bind_some]
  by_cases he:r[i]=r[j]
  ·rw [decide_eq_true he]
   rfl
  ·rw [decide_eq_false he]
   by_cases h1:r[i] < p.members.length
   ·by_cases h2:r[j] < p.members.length
    ·obtain ⟨a,ha,hma⟩:=zl6 (l:=p.members) hx.1 h1
     obtain ⟨b,hb,hmb⟩:=zl6 (l:=p.members) hy.1 h2
     have:okP p.members r[i] r[j]=inS a b:=by unfold okP;rw [ha,hb]
     rw [decide_eq_true (show 0≤r[i]∧r[i]≤(p.members.length:Int) - 1 by omega),decide_eq_true (show 0≤r[j]∧r[j]≤(p.members.length:Int) - 1 by omega)]
     simp only [Bool.not_false,Bool.not_true,cond_true,cond_false,ha,hb,Option.bind_some,zp5 a b (hm a hma) (hm b hmb),this,Bool.true_and]
    ·have:okP p.members r[i] r[j]=false:=by rw [zrE];unfold okP;rw [zm8 (by omega)]
     rw [decide_eq_true (show 0≤r[i]∧r[i]≤(p.members.length:Int) - 1 by omega),decide_eq_false (show ¬ (0≤r[j]∧r[j]≤(p.members.length:Int) - 1) by omega),this]
     rfl
   ·have:okP p.members r[i] r[j]=false:=by unfold okP;rw [zm8 (by omega)]
    rw [decide_eq_false (show ¬ (0≤r[i]∧r[i]≤(p.members.length:Int) - 1) by omega),this]
    rfl) (by simp only [zdb,zz,cond_false])
 rw [hw,zcI]
 by_cases hq:r.any (fun y=>!decide (r[i]=y) && !okP p.members r[i] y)=true
 ·rw [if_pos hq,if_pos hq]
 ·rw [if_neg hq,if_neg hq]
theorem zxO:ze (zdd p r) fuel 0=some (match scan (fun i x=>(r.take i).any (fun y=>!okP p.members x y)) (fun _ _=>false) 0 r with|some b=>.inr b|none=>.inl (r.length:Int)):=by
 have h6:=hr.1
 have hw:=zu (step:=zdd p r) r (fun i x=>(r.take i).any (fun y=>!okP p.members x y)) (fun _ _=>false) .inr (.inl (r.length:Int)) (by omega) (fun i hi=>by
  simp only [zdd,zw eI hi,cond_true,zzi p hp hm hr hi,Option.bind_some]
  cases (r.take i).any (fun y=>!okP p.members r[i] y)<;>rfl) (by simp only [zdd,zz,cond_false])
 rw [hw]
 cases scan (fun i x=>(r.take i).any (fun y=>!okP p.members x y)) (fun _ _=>false) 0 r<;>rfl
theorem impl_out:ze (zda p r) fuel 0=some (if r.any (fun x=>r.any (fun y=>!decide (x=y) && !okP p.members x y)) then .inr false else .inl (r.length:Int)):=by
 have h6:=hr.1
 have hw:=zu (step:=zda p r) r (fun _ x=>r.any (fun y=>!decide (x=y) && !okP p.members x y)) (fun _ _=>false) .inr (.inl (r.length:Int)) (by omega) (fun i hi=>by
  simp only [zda,zw eI hi,cond_true,zaD eI hi,Option.bind_some,List.getElem?_eq_getElem hi,zyy p hp hm hr hi]
  cases r.any (fun y=>!decide (r[i]=y) && !okP p.members r[i] y)<;>rfl) (by simp only [zda,zz,cond_false])
 rw [hw,zcI]
 by_cases hq:r.any (fun x=>r.any (fun y=>!decide (x=y) && !okP p.members x y))=true
 ·rw [if_pos hq,if_pos hq]
 ·rw [if_neg hq,if_neg hq]
theorem zxJ:(match scan (fun i x=>(r.take i).any (fun y=>!okP p.members x y)) (fun _ _=>false) 0 r with|some b=>b|none=>true)=!r.any (fun x=>r.any (fun y=>!decide (x=y) && !okP p.members x y)):=by
 cases hc:scan (fun i x=>(r.take i).any (fun y=>!okP p.members x y)) (fun _ _=>false) 0 r with
 | some b =>
  obtain ⟨i,x,h1,h2,h3⟩:=zbs _ _ r 0 b hc
  subst h3
  rw [Nat.zero_add] at h2
  obtain ⟨y,hy,hb⟩:=List.any_eq_true.1 h2
  have hi:i < r.length:=(List.getElem?_eq_some_iff.1 h1).1
  have hx:r[i]=x:=(List.getElem?_eq_some_iff.1 h1).2
  obtain ⟨j,hj⟩:=List.getElem?_of_mem hy
  have hji:j < i:=by
   have:=(List.getElem?_eq_some_iff.1 hj).1
   rw [List.length_take] at this
   omega
  have hyj:r[j]'(by omega)=y:=by
   rw [List.getElem?_take_of_lt hji] at hj
   exact (List.getElem?_eq_some_iff.1 hj).2
  have hlt:=zwn p hp hm hr hi hji
  have:r.any (fun x=>r.any (fun y=>!decide (x=y) && !okP p.members x y))=true:=List.any_eq_true.2 ⟨x,List.mem_of_getElem? h1,List.any_eq_true.2 ⟨y,List.mem_of_mem_take hy,by
   rw [decide_eq_false (show ¬ x=y by omega)]
   exact hb⟩⟩
  rw [this]
  rfl
 | none =>
  have hn:=ze1 _ _ r 0 hc
  have:r.any (fun x=>r.any (fun y=>!decide (x=y) && !okP p.members x y))=false:=by
   rw [List.any_eq_false]
   intro x hx
   rw [Bool.not_eq_true,List.any_eq_false]
   intro y hy
   rw [Bool.not_eq_true]
   by_cases he:x=y
   ·rw [decide_eq_true he];rfl
   ·obtain ⟨i,hi⟩:=List.getElem?_of_mem hx
    obtain ⟨j,hj⟩:=List.getElem?_of_mem hy
    have hij:i≠j:=fun e=>he (by rw [e,hj] at hi;injection hi with hi;exact hi.symm)
    have hgo:∀ (i j:Nat) (x y:Int),r[i]?=some x→r[j]?=some y→j < i→okP p.members x y=true:=by
     intro i j x y hi hj hji
     have h1:=hn i x hi
     rw [Nat.zero_add,List.any_eq_false] at h1
     have h2:=h1 y (by
      refine List.mem_of_getElem? (i:=j) ?_
      rw [List.getElem?_take_of_lt hji]
      exact hj)
     simpa using h2
    have hok:okP p.members x y=true:=by
     rcases Nat.lt_or_gt_of_ne hij with h|h
     ·rw [zrE]
      exact hgo j i y x hj hi h
     ·exact hgo i j x y hi hj h
    rw [hok]
    simp
  rw [this]
  rfl
end
theorem all_both (p:zd) (dead:List Int) (k:Int) (h:p.topology.links.length≤2 ^ 40) (hd:dead.length < 2 ^ 61) (hp:p.members.length≤2 ^ 40) (hm:∀ m ∈ p.members,MemOk m):∃ b,zeb p dead k=some b∧zcd p dead k=some b:=by
 obtain ⟨r,h1,h2,hr⟩:=connected_both p dead k h hd
 have hs:=zxJ p hp hm hr
 refine ⟨!r.any (fun x=>r.any (fun y=>!decide (x=y) && !okP p.members x y)),?_,?_⟩
 ·unfold zeb
  rw [h1]
  simp only [Option.bind_some,zxO p hp hm hr]
  rw [← hs]
  cases scan (fun i x=>(r.take i).any (fun y=>!okP p.members x y)) (fun _ _=>false) 0 r<;>rfl
 ·unfold zcd
  rw [h2]
  simp only [Option.bind_some,impl_out p hp hm hr]
  cases r.any (fun x=>r.any (fun y=>!decide (x=y) && !okP p.members x y))<;>rfl
end
end Tp
end Go.Proofs.YtifkepnfaggkiaaGreatDoor
