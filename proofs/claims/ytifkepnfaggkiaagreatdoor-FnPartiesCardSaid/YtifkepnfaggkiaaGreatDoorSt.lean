import Derived.Test.YtifkepnfaggkiaaGreatDoorTab
import Derived.Test.YtifkepnfaggkiaaGreatDoorEnc
namespace Go.Proofs.YtifkepnfaggkiaaGreatDoor
open Go.RowKit
set_option linter.unusedVariables false
set_option linter.unusedSimpArgs false
def ze {ι γ:Type} (step:ι→Option (ι ⊕ γ)):Nat→ι→Option γ
 | 0,_=>none
 | n+1,x=>match step x with
  | none=>none
  | some (.inl y)=>ze step n y
  | some (.inr g)=>some g
theorem zsr {β ι γ:Type} {F:St→(Ex→St→Option β)→Option β} {lv:List Nat} {K:Ex→St→Option β} (st:ι→St) (step:ι→Option (ι ⊕ γ)) (kont:γ→Option β)
  (h:∀ x (R:St→Option β),F (st x) (fun e σ'=>match e with|.normal=>R (zc0 lv σ')|.exit j=>K (.exit j) σ'|.ret=>K .ret σ')=(step x).bind fun s=>match s with|.inl y=>R (st y)|.inr g=>kont g) :
  ∀ n x σ,zc0 lv σ=st x→zb1 F lv n σ K=(ze step n x).bind kont:=by
 have A:∀ n x,F (st x) (fun e σ'=>match e with|.normal=>zb1 F lv n σ' K|e=>K e σ')=(ze step (n+1) x).bind kont:=by
  intro n
  induction n with
  | zero =>
   intro x
   have e:(fun (e:Ex) (σ':St)=>match e with|.normal=>zb1 F lv 0 σ' K|e=>K e σ')=(fun e σ'=>match e with|.normal=>(fun _=>none:St→Option β) (zc0 lv σ')|.exit j=>K (.exit j) σ'|.ret=>K .ret σ'):=by
    funext e σ'
    cases e<;>rfl
   rw [e,h x (fun _=>none)]
   unfold ze
   cases step x with
   | none=>rfl
   | some s=>cases s<;>rfl
  | succ n ih =>
   intro x
   have e:(fun (e:Ex) (σ':St)=>match e with|.normal=>zb1 F lv (n+1) σ' K|e=>K e σ')=(fun e σ'=>match e with|.normal=>(fun τ=>F τ fun e σ'=>match e with|.normal=>zb1 F lv n σ' K|e=>K e σ') (zc0 lv σ')|.exit j=>K (.exit j) σ'|.ret=>K .ret σ'):=by
    funext e σ'
    cases e<;>rfl
   rw [e]
   refine (h x (fun τ=>F τ fun e σ'=>match e with|.normal=>zb1 F lv n σ' K|e=>K e σ')).trans ?_
   conv=>rhs;unfold ze
   cases step x with
   | none=>rfl
   | some s =>
    cases s with
    | inl y=>exact ih y
    | inr g=>rfl
 intro n x σ hσ
 cases n with
 | zero=>rfl
 | succ n =>
  unfold zb1
  rw [hσ]
  exact A n x
theorem zl0 {β ι γ:Type} {al:zgK β} (hal:(fun F lv=>zb1 F lv fuel)=al) {F:St→(Ex→St→Option β)→Option β} {lv:List Nat} {K0:Ex→St→Option β} (st:ι→St) (step:ι→Option (ι ⊕ γ)) (kont:(Ex→St→Option β)→γ→Option β)
  (h:∀ K:Ex→St→Option β,(∀ σ,K .ret σ=K0 .ret σ)→∀ x (R:St→Option β),F (st x) (fun e σ'=>match e with|.normal=>R (zc0 lv σ')|.exit j=>K (.exit j) σ'|.ret=>K .ret σ')=(step x).bind fun s=>match s with|.inl y=>R (st y)|.inr g=>kont K g)
  (x:ι) (σ:St) (hσ:zc0 lv σ=st x):al F lv σ K0=(ze step fuel x).bind (kont K0):=by
 subst hal
 exact zsr st step (kont K0) (h K0 fun _=>rfl) fuel x σ hσ
theorem cC {α β:Type} {c:Bool} {A B:Option α} {k:α→Option β} {L:Option β} (h1:c=true→L=A.bind k) (h0:c=false→L=B.bind k):L=(bif c then A else B).bind k:=by
 cases c
 ·exact h0 rfl
 ·exact h1 rfl
theorem cD {α β:Type} {c:Bool} {A B:Option α} {k:α→Option β} {L:Option β} (h0:c=false→L=B.bind k) (h1:c=true→L=A.bind k):L=(bif c then A else B).bind k:=cC h1 h0
theorem gn {α:Sort _} (x:α):∃ y,y=x:=⟨x,rfl⟩
theorem cO {α α' β:Type} {o:Option α'} {f:α'→Option α} {k:α→Option β} {L:Option β} (h0:o=none→L=none) (h1:∀ x,o=some x→L=(f x).bind k):L=(o.bind f).bind k:=by
 cases o with
 | none=>exact h0 rfl
 | some x=>exact h1 x rfl
theorem cL {α α' β:Type} {o:Option α'} {f:α'→Option α} {k:α→Option β} {L:α'→Option β} (h:∀ g,L g=(f g).bind k):o.bind L=(o.bind f).bind k:=by
 cases o with
 | none=>rfl
 | some x=>exact h x
abbrev dd:PV:=.c .dead
def nthI {α:Type} (l:List α) (i:Int):Option α:=if 0≤i then l[i.toNat]? else none
def subI {α:Type} (l:List α) (lo hi:Option Int):Option (List α):=match zak lo 0,zak hi l.length with
 | some a,some h=>if a≤h∧h≤l.length then some ((l.drop a).take (h - a)) else none
 | _,_=>none
def za3 {α:Type} (l:List α) (i n:Nat):Option (List α):=if i+n≤l.length then some ((l.drop i).take n) else none
section
variable {α:Type} (e:α→List DT)
def zjB {α:Type} (l:List α) (a b i n:Nat):Option (List α):=if a+b≤i∨i+n≤a∨b=0∨n=0 then za3 l i n else none
theorem zyX (l:List α) (i:Int):za.nth (l.map e) i=(nthI l i).map e:=by
 show (if 0≤i then (l.map e)[i.toNat]? else none)=_
 unfold nthI
 split
 ·rw [List.getElem?_map]
 ·rfl
theorem zr6 (l:List α) (j:Nat):za.rnth (za.opn (l.map e)) j=(l[j]?).map fun x=>(e x).map zE:=by
 show ((l.map e).map (·.map zE))[j]?=_
 rw [List.getElem?_map,List.getElem?_map]
 cases l[j]?<;>rfl
theorem zg6 {β γ δ:Type} (f:γ→Option δ) (g:β→γ) (h:β→δ):∀ l:List β,(∀ x,f (g x)=some (h x))→mapO f (l.map g)=some (l.map h)
 | [],_=>rfl
 | x::l,H=>by
  show (match f (g x) with|some y=>(mapO f (l.map g)).map (y::·)|none=>none)=_
  rw [H x,zg6 f g h l H]
  rfl
theorem zgx (he:∀ x,mapO own0 ((e x).map zE)=some (e x)) (l:List α):za.own (za.opn (l.map e))=some (l.map e):=by
 show mapO (mapO own0) ((l.map e).map (·.map zE))=_
 rw [List.map_map]
 exact zg6 _ _ e l he
theorem zc8 (l:List α):za.len (l.map e)=l.length:=List.length_map _
theorem zhj (l:List α):(za.opn (l.map e)).length=l.length:=by
 show ((l.map e).map (·.map zE)).length=_
 rw [List.length_map,List.length_map]
theorem zf1 (l:List α):za.full 0 (za.len (l.map e)) (za.opn (l.map e))=true:=by
 show decide (0=0∧_=_)=true
 rw [zc8,zhj]
 simp
theorem zrX (a b:List α):za.rapp (za.opn (a.map e)) (za.opn (b.map e))=za.opn ((a++b).map e):=by
 show (a.map e).map (·.map zE)++(b.map e).map (·.map zE)=((a++b).map e).map (·.map zE)
 rw [List.map_append,List.map_append]
theorem zkt (l:List α):za.rlen (za.opn (l.map e))=za.len (l.map e):=by
 rw [zc8];exact zhj e l
theorem zqH (a b:List α):za.addN (za.len (a.map e)) (za.rlen (za.opn (b.map e)))=za.len ((a++b).map e):=by
 rw [zkt,zc8,zc8,zc8,List.length_append];rfl
theorem zjk (b:List α):za.addN 0 (za.rlen (za.opn (b.map e)))=za.len (b.map e):=by
 rw [zkt];exact Nat.zero_add _
theorem zm1 (l:List α) (h:za.len (l.map e)=0):l=[]:=by
 rw [zc8] at h
 exact List.eq_nil_of_length_eq_zero h
theorem zk3 (b:Nat):za.fits 0 (za.rlen (za.opn (([]:List α).map e))) b=true:=by
 show decide ((0+0)*b≤2 ^ 46)=true
 simp
theorem zhJ (he:∀ s x,mapO (zdj s) (e x)=some ((e x).map zE)) (s:Bool) (l:List α):za.lend s (l.map e)=some (za.opn (l.map e)):=by
 show mapO (mapO (zdj s)) (l.map e)=some ((l.map e).map (·.map zE))
 rw [List.map_map]
 exact zg6 _ _ _ l (he s)
theorem zmX (he:∀ x,mapO frz0 ((e x).map zE)=some (e x)) (l:List α) (i n:Nat):za.frz (za.opn (l.map e)) i n=match za3 l i n with|none=>none|some y=>some (y.map e):=by
 show (if i+n≤(za.opn (l.map e)).length then mapO (mapO frz0) ((((l.map e).map (·.map zE)).drop i).take n) else none)=_
 unfold za3
 rw [zhj]
 split
 ·rw [List.map_map,← List.map_drop,← List.map_take]
  exact zg6 _ _ e _ he
 ·rfl
theorem zrT (l:List α):za3 l 0 l.length=some l:=by simp [za3]
theorem ziI (he:∀ x,mapO frz0 ((e x).map zE)=some (e x)) (l:List α):za.frz (za.opn (l.map e)) 0 (za.len (l.map e))=some (l.map e):=by
 rw [zmX e he,zc8,zrT]
theorem zjC (he:∀ x,mapO zfK ((e x).map zE)=some ((e x).map zE)) (l:List α) (i n:Nat):za.rmov (za.opn (l.map e)) i n=match za3 l i n with|none=>none|some y=>some (za.opn (y.map e)):=by
 show (if i+n≤(za.opn (l.map e)).length then mapO (mapO zfK) ((((l.map e).map (·.map zE)).drop i).take n) else none)=_
 unfold za3
 rw [zhj]
 split
 ·rw [List.map_map,← List.map_drop,← List.map_take]
  refine (zg6 _ _ _ _ he).trans ?_
  show _=some ((((l.drop i).take n).map e).map (·.map zE))
  rw [List.map_map]
  rfl
 ·rfl
theorem zxH (he:∀ x,((e x).map zE).map outC=(e x).map zE) (l:List α):za.rout (za.opn (l.map e)) 0 (za.len (l.map e))=za.opn (l.map e):=by
 show ((l.map e).map (·.map zE)).take 0++((((l.map e).map (·.map zE)).drop 0).take (l.map e).length).map (·.map outC)++((l.map e).map (·.map zE)).drop (0+(l.map e).length)=(l.map e).map (·.map zE)
 rw [List.take_zero,List.nil_append,List.drop_zero,List.take_of_length_le (by simp),List.drop_eq_nil_of_le (by simp),List.append_nil]
 simp only [List.map_map]
 exact List.map_congr_left fun x _=>he x
theorem zxG (he:∀ x,mapO zfK ((e x).map zE)=some ((e x).map zE)) (l:List α):za.rmov (za.opn (l.map e)) 0 (za.len (l.map e))=some (za.opn (l.map e)):=by
 rw [zjC e he,zc8,zrT]
theorem zpF {α β:Type} {f:α→Option β} {x:α}:∀ {l:List α},x ∈ l→f x=none→mapO f l=none
 | y::l,hm,hx=>by
  rcases List.mem_cons.1 hm with rfl|hm
  ·simp only [mapO,hx]
  ·simp only [mapO,zpF hm hx]
   cases f y<;>rfl
theorem zy9 {l x:List α} {i n:Nat} (h:za3 l i n=some x):i+n≤l.length:=by
 unfold za3 at h
 split at h
 ·assumption
 ·cases h
theorem zwo (he:∀ x,mapO zfK ((e x).map zE)=some ((e x).map zE)) (hn:∀ x,mapO zfK (((e x).map zE).map outC)=none) (l:List α) (a b i n:Nat) (hab:a+b≤l.length):za.rmov (za.rout (za.opn (l.map e)) a b) i n=match zjB l a b i n with|none=>none|some y=>some (za.opn (y.map e)):=by
 have hL:(za.opn (l.map e)).length=l.length:=zhj e l
 have hR:(za.rout (za.opn (l.map e)) a b).length=l.length:=by
  show (List.take a _++(List.take b (List.drop a _)).map _++List.drop (a+b) _).length=_
  simp only [List.length_append,List.length_map,List.length_take,List.length_drop,hL]
  omega
 have hat:∀ j,(za.rout (za.opn (l.map e)) a b)[j]?=if a≤j∧j < a+b then ((za.opn (l.map e))[j]?).map (·.map outC) else (za.opn (l.map e))[j]?:=fun j=>by
  show (List.take a (za.opn (l.map e))++(List.take b (List.drop a (za.opn (l.map e)))).map (·.map outC)++List.drop (a+b) (za.opn (l.map e)))[j]?=_
  have h1:(List.take a (za.opn (l.map e))).length=a:=by rw [List.length_take,hL];omega
  have h2:((List.take b (List.drop a (za.opn (l.map e)))).map (·.map outC)).length=b:=by rw [List.length_map,List.length_take,List.length_drop,hL];omega
  rw [List.append_assoc]
  by_cases h3:j < a
  ·rw [List.getElem?_append_left (by omega),List.getElem?_take,if_pos h3,if_neg (by omega)]
  ·rw [List.getElem?_append_right (by omega),h1]
   by_cases h4:j < a+b
   ·rw [List.getElem?_append_left (by omega),if_pos ⟨by omega,h4⟩,List.getElem?_map,List.getElem?_take,if_pos (by omega),List.getElem?_drop,show a+(j - a)=j by omega]
   ·rw [List.getElem?_append_right (by omega),h2,if_neg (by omega),List.getElem?_drop,show a+b+(j - a - b)=j by omega]
 unfold zjB
 by_cases hd:a+b≤i∨i+n≤a∨b=0∨n=0
 ·rw [if_pos hd,← zjC e he l i n]
  show (if i+n≤_ then mapO (mapO zfK) (((za.rout (za.opn (l.map e)) a b).drop i).take n) else none)=(if i+n≤_ then mapO (mapO zfK) (((za.opn (l.map e)).drop i).take n) else none)
  rw [hR,hL]
  congr 2
  apply List.ext_getElem?
  intro j
  rw [List.getElem?_take,List.getElem?_take]
  split
  ·rw [List.getElem?_drop,List.getElem?_drop,hat]
   rw [if_neg (by omega)]
  ·rfl
 ·rw [if_neg hd]
  show (if i+n≤_ then mapO (mapO zfK) (((za.rout (za.opn (l.map e)) a b).drop i).take n) else none)=none
  split
  ·rename_i hle
   rw [hR] at hle
   have hj:max a i < l.length:=by omega
   refine zpF (x:=((e (l[max a i])).map zE).map outC) (List.mem_of_getElem? (i:=max a i - i) ?_) (hn _)
   rw [List.getElem?_take,if_pos (by omega),List.getElem?_drop,show i+(max a i - i)=max a i by omega,hat,if_pos ⟨by omega,by omega⟩]
   show ((((l.map e).map (·.map zE))[max a i]?).map (·.map outC))=_
   rw [List.getElem?_map,List.getElem?_map,List.getElem?_eq_getElem hj]
   rfl
  ·rfl
theorem zr7 (l:List α) (j:Nat) (x:α):za.rset (za.opn (l.map e)) j ((e x).map zE)=za.opn ((l.set j x).map e):=by
 show ((l.map e).map (·.map zE)).set j _=((l.set j x).map e).map (·.map zE)
 rw [List.map_set,List.map_set]
theorem zzo (l:List α) (lo hi:Option Int):za.sub (l.map e) lo hi=match subI l lo hi with|none=>none|some y=>some (y.map e):=by
 show (match zak lo 0,zak hi (l.map e).length with|some a,some h=>if a≤h∧h≤(l.map e).length then some (((l.map e).drop a).take (h - a)) else none|_,_=>none)=_
 unfold subI
 rw [List.length_map]
 cases zak lo 0 with
 | none=>rfl
 | some a =>
  cases zak hi l.length with
  | none=>rfl
  | some h =>
   show (if _ then _ else _)=match (if _ then _ else _:Option (List α)) with|none=>none|some y=>some (y.map e)
   split
   ·rw [← List.map_drop,← List.map_take]
   ·rfl
def mkSl {α:Type} (z:α) (a b:Int) (c:Nat):Option (List α):=if 0≤a∧a=b∧a*c≤2 ^ 46∧a≤2 ^ 46 then some (List.replicate a.toNat z) else none
def zit {α:Type} (a:List α) (i n:Nat) (b:List α):Option (Nat×List α):=if i+n≤a.length then some (min b.length n,a.take i++b.take n++a.drop (i+min b.length n)) else none
theorem ztq (z:α) (a b:Int) (c:Nat):za.mkN a b c=match mkSl z a b c with|none=>none|some y=>some (za.len (y.map e)):=by
 show (if 0≤a∧a=b∧a*c≤2 ^ 46∧a≤2 ^ 46 then some a.toNat else none)=_
 unfold mkSl
 split
 ·show some a.toNat=some (za.len ((List.replicate a.toNat z).map e))
  rw [zc8,List.length_replicate]
 ·rfl
theorem ztv (z:α) (a b:Int) (c:Nat) (l:List α) (h:mkSl z a b c=some l):za.rep (za.len (l.map e)) ((e z).map zE)=za.opn (l.map e):=by
 unfold mkSl at h
 split at h
 ·injection h with h
  subst h
  rw [zc8]
  show List.replicate _ _=((List.replicate _ z).map e).map (·.map zE)
  simp
 ·cases h
theorem zyr (he:∀ x,zir (e x)=some ((e x).map zE)) (a:List α) (i n:Nat) (b:List α):za.copy (za.opn (a.map e)) i n (b.map e)=match zit a i n b with|none=>none|some y=>some (y.1,za.opn (y.2.map e)):=by
 show (match mapO zir (b.map e) with|some c=>if i+n≤(za.opn (a.map e)).length then some (min c.length n,(za.opn (a.map e)).take i++c.take n++(za.opn (a.map e)).drop (i+min c.length n)) else none|none=>none)=_
 rw [zg6 zir e (fun x=>(e x).map zE) b he]
 unfold zit
 dsimp only
 rw [zhj,List.length_map]
 split
 ·show some (_,((a.map e).map (·.map zE)).take i++_++((a.map e).map (·.map zE)).drop _)=some (_,((a.take i++b.take n++a.drop (i+min b.length n)).map e).map (·.map zE))
  simp [List.map_take,List.map_drop,List.map_append,Function.comp_def]
 ·rfl
theorem zxd (a:List α) (i n:Nat) (b:List α) (y:Nat×List α) (h:zit a i n b=some y):za.len (y.2.map e)=za.len (a.map e):=by
 unfold zit at h
 split at h
 ·injection h with h
  subst h
  rw [zc8,zc8]
  simp only [List.length_append,List.length_take,List.length_drop]
  omega
 ·cases h
theorem zm4 (a:List α) (j:Nat) (x:α):za.len ((a.set j x).map e)=za.len (a.map e):=by
 rw [zc8,zc8,List.length_set]
end
theorem zwI (x:Int):za.wrap .u8 x=za.yI (za.byW x):=by
 show IntKind.u8.wrap x=((UInt8.ofNat (IntKind.u8.wrap x).toNat).toNat:Int)
 have h:IntKind.u8.wrap x=x % 256:=by simp [IntKind.wrap,IntKind.signed,IntKind.bits]
 rw [h]
 simp
 omega
theorem ztD (l:List UInt8):za.str (List.map eY l)=some (za.ofB l):=by
 have h:mapO (fun es=>match es with|[DT.at (.int .u8 n)]=>some (UInt8.ofNat n.toNat)|_=>none) (List.map eY l)=some (l.map id):=zg6 _ eY id l fun b=>by
  show some (UInt8.ofNat (b.toNat:Int).toNat)=some b
  simp
 show (mapO (fun es=>match es with|[DT.at (.int .u8 n)]=>some (UInt8.ofNat n.toNat)|_=>none) (List.map eY l)).map (fun l=>(⟨l.toArray⟩:ByteArray))=_
 rw [h,List.map_id]
 rfl
def insO {α:Type} (l:List α) (i:Int) (x:α):Option (List α):=if 0≤i∧i.toNat≤l.length∧l.length < 2 ^ 40 then some (l.take i.toNat++x::l.drop i.toNat) else none
end Go.Proofs.YtifkepnfaggkiaaGreatDoor
namespace Go.Proofs.YtifkepnfaggkiaaGreatDoor
open Go.RowKit
set_option linter.unusedVariables false
set_option linter.unusedSimpArgs false
set_option maxRecDepth 100000
noncomputable section
structure zk where
 b:(List UInt8)
 i:Int
 h:Int
def zvz (x:zk):List DT:=[.sl 5 1 (List.map eY x.b),.at (.int .i64 x.i),.at (.int .i64 x.h)]
def ziu (x:(List ByteArray)):List DT:=[.sl 9 1 (List.map eS x)]
def zk2 (x:(List zb)):List DT:=[.sl 139 2 (List.map zf x)]
structure zg where
 origin:Int
 version:Int
 neighbors:(List Int)
 prefixes:(List (List ByteArray))
def zbj (x:zg):List DT:=[.at (.int .i64 x.origin),.at (.int .i64 x.version),.sl 3 1 (List.map eI x.neighbors),.sl 30 1 (List.map ziu x.prefixes)]
def alp:zgK (List Arg):=fun F lv=>zb1 F lv fuel
noncomputable def EvF (F:Fns) (f:Func) (live:Nat→List Nat) (xs:List Arg):Option (List Arg):=ziR za alp TY F ⟨f,f.body.getD .skip,live⟩ xs
theorem zsp:∀ (l:List zl),za.addN 0 (za.rlen (za.opn (List.map zP l)))=za.len (List.map zP l):=zjk zP
theorem zmf:∀ (l:List zb),za.addN 0 (za.rlen (za.opn (List.map zf l)))=za.len (List.map zf l):=zjk zf
theorem zsq:∀ (l:List UInt8),za.addN 0 (za.rlen (za.opn (List.map eY l)))=za.len (List.map eY l):=zjk eY
theorem zpW:∀ (l:List ByteArray),za.addN 0 (za.rlen (za.opn (List.map eS l)))=za.len (List.map eS l):=zjk eS
theorem zwX:∀ (a:List Int) (i n:Nat) (b:List Int),za.copy (za.opn (List.map eI a)) i n (List.map eI b)=match zit a i n b with|none=>none|some y=>some (y.1,za.opn (List.map eI y.2)):=fun a i n b=>(zyr eI (fun _=>rfl) a i n b).trans (by cases zit a i n b<;>rfl)
theorem zsD:∀ b:Nat,za.fits 0 (za.rlen (za.opn (List.map zP []))) b=true:=zk3 zP
theorem zsE:∀ b:Nat,za.fits 0 (za.rlen (za.opn (List.map eY []))) b=true:=zk3 eY
theorem zp4:∀ b:Nat,za.fits 0 (za.rlen (za.opn (List.map eS []))) b=true:=zk3 eS
theorem zvL:∀ (l:List Int) (i n:Nat),za.frz (za.opn (List.map eI l)) i n=match za3 l i n with|none=>none|some y=>some (List.map eI y):=fun l i n=>(zmX eI (fun _=>rfl) l i n).trans (by cases za3 l i n<;>rfl)
theorem zvU:∀ (a:List Int) (i n:Nat) (b:List Int) (y:Nat×List Int),zit a i n b=some y→za.len (List.map eI y.2)=za.len (List.map eI a):=zxd eI
theorem zur:∀ (s:Bool) (l:List zl),za.lend s (List.map zP l)=some (za.opn (List.map zP l)):=zhJ zP (fun _ _=>rfl)
theorem zus:∀ (s:Bool) (l:List UInt8),za.lend s (List.map eY l)=some (za.opn (List.map eY l)):=zhJ eY (fun _ _=>rfl)
theorem zrm:∀ (s:Bool) (l:List ByteArray),za.lend s (List.map eS l)=some (za.opn (List.map eS l)):=zhJ eS (fun _ _=>rfl)
theorem zut:∀ (l:List zl),za.len (List.map zP l)=0→l=[]:=zm1 zP
theorem zuu:∀ (l:List UInt8),za.len (List.map eY l)=0→l=[]:=zm1 eY
theorem zro:∀ (l:List ByteArray),za.len (List.map eS l)=0→l=[]:=zm1 eS
theorem zn4:∀ (z0:(List ByteArray)) (z1:Int),[[Cell.own 9 1 (List.map eS z0),.at (.int .i64 z1)]]=za.opn (List.map zf [(⟨z0,z1⟩:zb)]):=fun z0 z1=>rfl
theorem zsF:∀ (z0:UInt8) (l:List UInt8),List.map eY (z0::l)=[.at (.int .u8 (za.yI z0))]::List.map eY l:=fun z0 l=>rfl
theorem zxm:∀ (a b:Int) (c:Nat),za.mkN a b c=match mkSl (0:Int) a b c with|none=>none|some y=>some (za.len (List.map eI y)):=fun a b c=>(ztq eI (0:Int) a b c).trans (by cases mkSl (0:Int) a b c<;>rfl)
theorem zuA:List.map zP []=[]:=rfl
theorem zn8:List.map eY []=[]:=rfl
theorem zrC:List.map eS []=[]:=rfl
theorem zsS:∀ (l:List zl),za.rapp [] (za.opn (List.map zP l))=za.opn (List.map zP l):=fun _=>rfl
theorem zmh:∀ (l:List zb),za.rapp [] (za.opn (List.map zf l))=za.opn (List.map zf l):=fun _=>rfl
theorem zsT:∀ (l:List UInt8),za.rapp [] (za.opn (List.map eY l))=za.opn (List.map eY l):=fun _=>rfl
theorem zp7:∀ (l:List ByteArray),za.rapp [] (za.opn (List.map eS l))=za.opn (List.map eS l):=fun _=>rfl
theorem zxE:∀ (a b:Int) (c:Nat) {l:List Int},mkSl (0:Int) a b c=some l→za.rep (za.len (List.map eI l)) [.at (.int .i64 0)]=za.opn (List.map eI l):=fun a b c l h=>ztv eI (0:Int) a b c l h
theorem zmi:∀ (l:List zb) (a b i n:Nat) x,za3 l a b=some x→za.rmov (za.rout (za.opn (List.map zf l)) a b) i n=match zjB l a b i n with|none=>none|some y=>some (za.opn (List.map zf y)):=fun l a b i n x h=>(zwo zf (fun _=>rfl) (fun _=>rfl) l a b i n (zy9 h)).trans (by cases zjB l a b i n<;>rfl)
theorem zmj:∀ (l:List zb) (i n:Nat),za.rmov (za.opn (List.map zf l)) i n=match za3 l i n with|none=>none|some y=>some (za.opn (List.map zf y)):=fun l i n=>(zjC zf (fun _=>rfl) l i n).trans (by cases za3 l i n<;>rfl)
theorem zi6:∀ (l:List zb) (j:Nat),za.rnth (za.opn (List.map zf l)) j=match l[j]? with|none=>none|some x=>some [.own 9 1 (List.map eS x.name),.at (.int .i64 x.value)]:=fun l j=>(zr6 zf l j).trans (by cases l[j]?<;>rfl)
theorem zi7:∀ (l:List zb) (j:Nat) (z0:(List ByteArray)) (z1:Int),za.rset (za.opn (List.map zf l)) j [.own 9 1 (List.map eS z0),.at (.int .i64 z1)]=za.opn (List.map zf (l.set j (⟨z0,z1⟩:zb))):=fun l j z0 z1=>zr7 zf l j (⟨z0,z1⟩:zb)
theorem zwE:∀ (l:List UInt8),za.str (List.map eY l)=some (za.ofB l):=ztD
theorem zxW:∀ x:Int,za.wrap .u8 x=za.yI (za.byW x):=zwI
end
end Go.Proofs.YtifkepnfaggkiaaGreatDoor
