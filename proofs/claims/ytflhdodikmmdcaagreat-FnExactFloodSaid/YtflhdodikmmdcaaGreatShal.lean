import Derived.Test.YtflhdodikmmdcaaGreatEngUse
import Derived.Test.YtflhdodikmmdcaaGreatProg
namespace Go.Proofs.YtflhdodikmmdcaaGreat
open Go.RowKit
set_option maxRecDepth 100000
def TY:TT:=fun t=>match t with
 | 3=>some ⟨.int .i64,1,[.at (.int .i64 0)]⟩
 | 4=>some ⟨.bool,1,[.at (.bool false)]⟩
 | 5=>some ⟨.int .u8,1,[.at (.int .u8 0)]⟩
 | 8=>some ⟨.struct [(0,1,false),(1,1,false),(2,1,false),(3,1,false)],4,[.at (.int .i64 0),.at (.int .i64 0),.at (.bool false),.at (.int .u8 0)]⟩
 | 9=>some ⟨.string,1,[.at (.string .empty)]⟩
 | 10=>some ⟨.string,1,[.at (.string .empty)]⟩
 | 11=>some ⟨.string,1,[.at (.string .empty)]⟩
 | 14=>some ⟨.struct [(0,1,false),(1,1,false)],2,[.at (.string .empty),.at (.int .u64 0)]⟩
 | 19=>some ⟨.struct [(0,1,false)],1,[.at (.pointer none)]⟩
 | 22=>some ⟨.slice 98 5 88,1,[.nil 98 5]⟩
 | 23=>some ⟨.slice 172 6 96,1,[.nil 172 6]⟩
 | 25=>some ⟨.struct [(0,1,false),(1,1,false)],2,[.at (.int .i64 0),.nil 172 6]⟩
 | 26=>some ⟨.slice 103 3 56,1,[.nil 103 3]⟩
 | 27=>some ⟨.slice 106 2 32,1,[.nil 106 2]⟩
 | 28=>some ⟨.slice 109 3 40,1,[.nil 109 3]⟩
 | 29=>some ⟨.slice 112 3 40,1,[.nil 112 3]⟩
 | 31=>some ⟨.struct [(0,1,false),(1,2,true),(3,1,false),(4,1,false),(5,1,false),(6,1,false),(7,1,false)],8,[.nil 98 5,.at (.int .i64 0),.nil 172 6,.nil 103 3,.nil 106 2,.nil 109 3,.nil 112 3,.at (.int .i64 0)]⟩
 | 32=>some ⟨.slice 65 4 48,1,[.nil 65 4]⟩
 | 35=>some ⟨.slice 125 5 88,1,[.nil 125 5]⟩
 | 36=>some ⟨.slice 176 6 96,1,[.nil 176 6]⟩
 | 38=>some ⟨.struct [(0,1,false),(1,1,false)],2,[.at (.int .i64 0),.nil 176 6]⟩
 | 39=>some ⟨.slice 147 3 56,1,[.nil 147 3]⟩
 | 40=>some ⟨.slice 150 2 32,1,[.nil 150 2]⟩
 | 41=>some ⟨.slice 153 3 40,1,[.nil 153 3]⟩
 | 42=>some ⟨.slice 156 3 40,1,[.nil 156 3]⟩
 | 44=>some ⟨.struct [(0,1,false),(1,2,true),(3,1,false),(4,1,false),(5,1,false),(6,1,false),(7,1,false)],8,[.nil 125 5,.at (.int .i64 0),.nil 176 6,.nil 147 3,.nil 150 2,.nil 153 3,.nil 156 3,.at (.int .i64 0)]⟩
 | 47=>some ⟨.slice 73 4 48,1,[.nil 73 4]⟩
 | 61=>some ⟨.slice 9 1 16,1,[.nil 9 1]⟩
 | 63=>some ⟨.struct [(0,1,false)],1,[.nil 9 1]⟩
 | 65=>some ⟨.struct [(0,1,true),(1,1,false),(2,1,false),(3,1,false)],4,[.nil 9 1,.at (.int .i64 0),.at (.int .i64 0),.at (.int .i64 0)]⟩
 | 67=>some ⟨.slice 129 11 152,1,[.nil 129 11]⟩
 | 69=>some ⟨.struct [(0,8,true),(8,1,false)],9,[.nil 125 5,.at (.int .i64 0),.nil 176 6,.nil 147 3,.nil 150 2,.nil 153 3,.nil 156 3,.at (.int .i64 0),.nil 129 11]⟩
 | 71=>some ⟨.struct [(0,1,false)],1,[.nil 9 1]⟩
 | 73=>some ⟨.struct [(0,1,true),(1,1,false),(2,1,false),(3,1,false)],4,[.nil 9 1,.at (.int .i64 0),.at (.int .i64 0),.at (.int .i64 0)]⟩
 | 96=>some ⟨.slice 5 1 1,1,[.nil 5 1]⟩
 | 98=>some ⟨.struct [(0,1,true),(1,1,false),(2,1,true),(3,1,false),(4,1,false)],5,[.nil 9 1,.nil 5 1,.nil 9 1,.at (.int .i64 0),.at (.int .i64 0)]⟩
 | 101=>some ⟨.slice 215 3 24,1,[.nil 215 3]⟩
 | 103=>some ⟨.struct [(0,1,true),(1,1,false),(2,1,false)],3,[.nil 9 1,.nil 215 3,.at (.int .i64 0)]⟩
 | 106=>some ⟨.struct [(0,1,true),(1,1,false)],2,[.nil 9 1,.at (.int .i64 0)]⟩
 | 109=>some ⟨.struct [(0,1,true),(1,1,false),(2,1,false)],3,[.nil 9 1,.at (.int .i64 0),.at (.int .i64 0)]⟩
 | 112=>some ⟨.struct [(0,1,true),(1,1,false),(2,1,false)],3,[.nil 9 1,.at (.int .i64 0),.at (.int .i64 0)]⟩
 | 125=>some ⟨.struct [(0,1,true),(1,1,false),(2,1,true),(3,1,false),(4,1,false)],5,[.nil 9 1,.nil 5 1,.nil 9 1,.at (.int .i64 0),.at (.int .i64 0)]⟩
 | 129=>some ⟨.struct [(0,1,false),(1,1,false),(2,4,true),(6,5,true)],11,[.at (.int .i64 0),.at (.bool false),.nil 9 1,.at (.int .i64 0),.at (.int .i64 0),.at (.int .i64 0),.nil 9 1,.nil 5 1,.nil 9 1,.at (.int .i64 0),.at (.int .i64 0)]⟩
 | 137=>some ⟨.slice 3 1 8,1,[.nil 3 1]⟩
 | 145=>some ⟨.slice 180 3 24,1,[.nil 180 3]⟩
 | 147=>some ⟨.struct [(0,1,true),(1,1,false),(2,1,false)],3,[.nil 9 1,.nil 180 3,.at (.int .i64 0)]⟩
 | 150=>some ⟨.struct [(0,1,true),(1,1,false)],2,[.nil 9 1,.at (.int .i64 0)]⟩
 | 153=>some ⟨.struct [(0,1,true),(1,1,false),(2,1,false)],3,[.nil 9 1,.at (.int .i64 0),.at (.int .i64 0)]⟩
 | 156=>some ⟨.struct [(0,1,true),(1,1,false),(2,1,false)],3,[.nil 9 1,.at (.int .i64 0),.at (.int .i64 0)]⟩
 | 172=>some ⟨.struct [(0,5,true),(5,1,false)],6,[.nil 9 1,.nil 5 1,.nil 9 1,.at (.int .i64 0),.at (.int .i64 0),.at (.int .i64 0)]⟩
 | 176=>some ⟨.struct [(0,5,true),(5,1,false)],6,[.nil 9 1,.nil 5 1,.nil 9 1,.at (.int .i64 0),.at (.int .i64 0),.at (.int .i64 0)]⟩
 | 180=>some ⟨.struct [(0,1,false),(1,1,false),(2,1,false)],3,[.at (.int .i64 0),.at (.int .i64 0),.at (.int .i64 0)]⟩
 | 215=>some ⟨.struct [(0,1,false),(1,1,false),(2,1,false)],3,[.at (.int .i64 0),.at (.int .i64 0),.at (.int .i64 0)]⟩
 | 246=>some ⟨.int .u64,1,[.at (.int .u64 0)]⟩
 | 256=>some ⟨.int .u8,1,[.at (.int .u8 0)]⟩
 | _=>none
theorem zn1 (t:Nat) (ti:TI) (h:TY t=some ti):ttOf Tryz.prog t=some ti:=by
 unfold TY at h
 split at h
 all_goals first|(injection h with h;subst h;kernel_rfl)|cases h
end Go.Proofs.YtflhdodikmmdcaaGreat
namespace Go.Proofs.YtflhdodikmmdcaaGreat
open Go.RowKit
set_option linter.unusedVariables false
set_option linter.unusedSimpArgs false
def zd {ι γ:Type} (step:ι→Option (ι ⊕ γ)):Nat→ι→Option γ
 | 0,_=>none
 | n+1,x=>match step x with
  | none=>none
  | some (.inl y)=>zd step n y
  | some (.inr g)=>some g
theorem zvt {β ι γ:Type} {F:St→(Ex→St→Option β)→Option β} {lv:List Nat} {K:Ex→St→Option β} (st:ι→St) (step:ι→Option (ι ⊕ γ)) (kont:γ→Option β)
  (h:∀ x (R:St→Option β),F (st x) (fun e σ'=>match e with|.normal=>R (zek lv σ')|.exit j=>K (.exit j) σ'|.ret=>K .ret σ')=(step x).bind fun s=>match s with|.inl y=>R (st y)|.inr g=>kont g) :
  ∀ n x σ,zek lv σ=st x→zdb F lv n σ K=(zd step n x).bind kont:=by
 have A:∀ n x,F (st x) (fun e σ'=>match e with|.normal=>zdb F lv n σ' K|e=>K e σ')=(zd step (n+1) x).bind kont:=by
  intro n
  induction n with
  | zero =>
   intro x
   have e:(fun (e:Ex) (σ':St)=>match e with|.normal=>zdb F lv 0 σ' K|e=>K e σ')=(fun e σ'=>match e with|.normal=>(fun _=>none:St→Option β) (zek lv σ')|.exit j=>K (.exit j) σ'|.ret=>K .ret σ'):=by
    funext e σ'
    cases e<;>rfl
   rw [e,h x (fun _=>none)]
   unfold zd
   cases step x with
   | none=>rfl
   | some s=>cases s<;>rfl
  | succ n ih =>
   intro x
   have e:(fun (e:Ex) (σ':St)=>match e with|.normal=>zdb F lv (n+1) σ' K|e=>K e σ')=(fun e σ'=>match e with|.normal=>(fun τ=>F τ fun e σ'=>match e with|.normal=>zdb F lv n σ' K|e=>K e σ') (zek lv σ')|.exit j=>K (.exit j) σ'|.ret=>K .ret σ'):=by
    funext e σ'
    cases e<;>rfl
   rw [e]
   refine (h x (fun τ=>F τ fun e σ'=>match e with|.normal=>zdb F lv n σ' K|e=>K e σ')).trans ?_
   conv=>rhs;unfold zd
   cases step x with
   | none=>rfl
   | some s =>
    cases s with
    | inl y=>exact ih y
    | inr g=>rfl
 intro n x σ hσ
 cases n with
 | zero=>rfl
 | succ n =>
  unfold zdb
  rw [hσ]
  exact A n x
theorem zrR {β ι γ:Type} {al:zjw β} (hal:(fun F lv=>zdb F lv fuel)=al) {F:St→(Ex→St→Option β)→Option β} {lv:List Nat} {K0:Ex→St→Option β} (st:ι→St) (step:ι→Option (ι ⊕ γ)) (kont:(Ex→St→Option β)→γ→Option β)
  (h:∀ K:Ex→St→Option β,(∀ σ,K .ret σ=K0 .ret σ)→∀ x (R:St→Option β),F (st x) (fun e σ'=>match e with|.normal=>R (zek lv σ')|.exit j=>K (.exit j) σ'|.ret=>K .ret σ')=(step x).bind fun s=>match s with|.inl y=>R (st y)|.inr g=>kont K g)
  (x:ι) (σ:St) (hσ:zek lv σ=st x):al F lv σ K0=(zd step fuel x).bind (kont K0):=by
 subst hal
 exact zvt st step (kont K0) (h K0 fun _=>rfl) fuel x σ hσ
theorem cC {α β:Type} {c:Bool} {A B:Option α} {k:α→Option β} {L:Option β} (h1:c=true→L=A.bind k) (h0:c=false→L=B.bind k):L=(bif c then A else B).bind k:=by
 cases c
 ·exact h0 rfl
 ·exact h1 rfl
theorem cD {α β:Type} {c:Bool} {A B:Option α} {k:α→Option β} {L:Option β} (h0:c=false→L=B.bind k) (h1:c=true→L=A.bind k):L=(bif c then A else B).bind k:=cC h1 h0
theorem gn {α:Sort _} (x:α):∃ y,y=x:=⟨x,rfl⟩
theorem cO {α α' β:Type} {o:Option α'} {f:α'→Option α} {k:α→Option β} {L:Option β} (h0:o=none→L=none) (h1:∀ x,o=some x→L=(f x).bind k):L=(o.bind f).bind k:=by
 cases o with
 | none=>exact h0 rfl
 | some x=>exact h1 x rfl
theorem cL {α α' β:Type} {o:Option α'} {f:α'→Option α} {k:α→Option β} {L:α'→Option β} (h:∀ g,L g=(f g).bind k):o.bind L=(o.bind f).bind k:=by
 cases o with
 | none=>rfl
 | some x=>exact h x
abbrev dd:PV:=.c .dead
def nthI {α:Type} (l:List α) (i:Int):Option α:=if 0≤i then l[i.toNat]? else none
def subI {α:Type} (l:List α) (lo hi:Option Int):Option (List α):=match zb4 lo 0,zb4 hi l.length with
 | some a,some h=>if a≤h∧h≤l.length then some ((l.drop a).take (h - a)) else none
 | _,_=>none
def zdQ {α:Type} (l:List α) (i n:Nat):Option (List α):=if i+n≤l.length then some ((l.drop i).take n) else none
section
variable {α:Type} (e:α→List DT)
theorem zB9 (l:List α) (i:Int):za.nth (l.map e) i=(nthI l i).map e:=by
 show (if 0≤i then (l.map e)[i.toNat]? else none)=_
 unfold nthI
 split
 ·rw [yl]
 ·rfl
theorem zvc (l:List α) (j:Nat):za.rnth (za.opn (l.map e)) j=(l[j]?).map fun x=>(e x).map zab:=by
 show ((l.map e).map (·.map zab))[j]?=_
 rw [yl,yl]
 cases l[j]?<;>rfl
theorem zjZ {β γ δ:Type} (f:γ→Option δ) (g:β→γ) (h:β→δ):∀ l:List β,(∀ x,f (g x)=some (h x))→mapO f (l.map g)=some (l.map h)
 | [],_=>rfl
 | x::l,H=>by
  show (match f (g x) with|some y=>(mapO f (l.map g)).map (y::·)|none=>none)=_
  rw [H x,zjZ f g h l H]
  rfl
theorem zzO {α:Type} (e:α→List DT) (he:∀ x,((e x).map zab).map outC=(e x).map zab) (l:List α) (a n:Nat):za.rout (za.opn (l.map e)) a n=za.opn (l.map e):=by
 have hid:∀ L:List α,((L.map e).map (·.map zab)).map (·.map outC)=(L.map e).map (·.map zab):=fun L=>by
  rw [ybl,ybl,ybl]
  exact List.map_congr_left fun x _=>he x
 show ((l.map e).map (·.map zab)).take a++((((l.map e).map (·.map zab)).drop a).take n).map (·.map outC)++((l.map e).map (·.map zab)).drop (a+n)=(l.map e).map (·.map zab)
 have h:((((l.map e).map (·.map zab)).drop a).take n).map (·.map outC)=(((l.map e).map (·.map zab)).drop a).take n:=by
  rw [← ybN,← ybN,← ybO,← ybO]
  exact hid _
 rw [h,← yb5,yal,ya8,ya8]
theorem zjc {α:Type} (e:α→List DT) (l:List α):za.calm (za.opn (l.map e))=true:=by
 refine yR.2 fun es hes=>yR.2 fun c hc=>?_
 obtain ⟨ds,_,rfl⟩:=yak.1 (show es ∈ List.map _ _ from hes)
 obtain ⟨d,_,rfl⟩:=yak.1 hc
 cases d<;>rfl
theorem zf2 (he:∀ x,mapO own0 ((e x).map zab)=some (e x)) (l:List α):za.own (za.opn (l.map e))=some (l.map e):=by
 show mapO (mapO own0) ((l.map e).map (·.map zab))=_
 rw [ybl]
 exact zjZ _ _ e l he
theorem zf1 (l:List α):za.len (l.map e)=l.length:=yN _
theorem zkT (l:List α):(za.opn (l.map e)).length=l.length:=by
 show ((l.map e).map (·.map zab)).length=_
 rw [yN,yN]
theorem zfn (l:List α):za.full 0 (za.len (l.map e)) (za.opn (l.map e))=true:=by
 show decide (0=0∧_=_)=true
 rw [zf1,zkT]
 simp
theorem zAO (a b:List α):za.rapp (za.opn (a.map e)) (za.opn (b.map e))=za.opn ((a++b).map e):=by
 show (a.map e).map (·.map zab)++(b.map e).map (·.map zab)=((a++b).map e).map (·.map zab)
 rw [ybj,ybj]
theorem zmz (l:List α):za.rlen (za.opn (l.map e))=za.len (l.map e):=by
 rw [zf1];exact zkT e l
theorem zAb (a b:List α):za.addN (za.len (a.map e)) (za.rlen (za.opn (b.map e)))=za.len ((a++b).map e):=by
 rw [zmz,zf1,zf1,zf1,yO];rfl
theorem zlk (b:List α):za.addN 0 (za.rlen (za.opn (b.map e)))=za.len (b.map e):=by
 rw [zmz];exact yaq _
theorem zmn (l:List α) (h:za.len (l.map e)=0):l=[]:=by
 rw [zf1] at h
 exact ybv h
theorem zlr (b:Nat):za.fits 0 (za.rlen (za.opn (([]:List α).map e))) b=true:=by
 show decide ((0+0)*b≤2 ^ 46)=true
 simp
theorem zh9 (he:∀ s x,mapO (zdO s) (e x)=some ((e x).map zab)) (s:Bool) (l:List α):za.lend s (l.map e)=some (za.opn (l.map e)):=by
 show mapO (mapO (zdO s)) (l.map e)=some ((l.map e).map (·.map zab))
 rw [ybl]
 exact zjZ _ _ _ l (he s)
theorem zud (he:∀ x,mapO frz0 ((e x).map zab)=some (e x)) (l:List α) (i n:Nat):za.frz (za.opn (l.map e)) i n=match zdQ l i n with|none=>none|some y=>some (y.map e):=by
 show (if i+n≤(za.opn (l.map e)).length then mapO (mapO frz0) ((((l.map e).map (·.map zab)).drop i).take n) else none)=_
 unfold zdQ
 rw [zkT]
 split
 ·rw [ybl,← ybN,← ybO]
  exact zjZ _ _ e _ he
 ·rfl
theorem zu1 (l:List α):zdQ l 0 l.length=some l:=by simp [zdQ]
theorem zix (he:∀ x,mapO frz0 ((e x).map zab)=some (e x)) (l:List α):za.frz (za.opn (l.map e)) 0 (za.len (l.map e))=some (l.map e):=by
 rw [zud e he,zf1,zu1]
theorem zsO (he:∀ x,mapO zki ((e x).map zab)=some ((e x).map zab)) (l:List α) (i n:Nat):za.rmov (za.opn (l.map e)) i n=match zdQ l i n with|none=>none|some y=>some (za.opn (y.map e)):=by
 show (if i+n≤(za.opn (l.map e)).length then mapO (mapO zki) ((((l.map e).map (·.map zab)).drop i).take n) else none)=_
 unfold zdQ
 rw [zkT]
 split
 ·rw [ybl,← ybN,← ybO]
  refine (zjZ _ _ _ _ he).trans ?_
  show _=some ((((l.drop i).take n).map e).map (·.map zab))
  rw [ybl]
  rfl
 ·rfl
theorem zAS (he:∀ x,mapO zki ((e x).map zab)=some ((e x).map zab)) (l:List α):za.rmov (za.opn (l.map e)) 0 (za.len (l.map e))=some (za.opn (l.map e)):=by
 rw [zsO e he,zf1,zu1]
theorem zvd (l:List α) (j:Nat) (x:α):za.rset (za.opn (l.map e)) j ((e x).map zab)=za.opn ((l.set j x).map e):=by
 show ((l.map e).map (·.map zab)).set j _=((l.set j x).map e).map (·.map zab)
 rw [yck,yck]
theorem zCq (l:List α) (lo hi:Option Int):za.sub (l.map e) lo hi=match subI l lo hi with|none=>none|some y=>some (y.map e):=by
 show (match zb4 lo 0,zb4 hi (l.map e).length with|some a,some h=>if a≤h∧h≤(l.map e).length then some (((l.map e).drop a).take (h - a)) else none|_,_=>none)=_
 unfold subI
 rw [yN]
 cases zb4 lo 0 with
 | none=>rfl
 | some a =>
  cases zb4 hi l.length with
  | none=>rfl
  | some h =>
   show (if _ then _ else _)=match (if _ then _ else _:Option (List α)) with|none=>none|some y=>some (y.map e)
   split
   ·rw [← ybN,← ybO]
   ·rfl
def mkSl {α:Type} (z:α) (a b:Int) (c:Nat):Option (List α):=if 0≤a∧a=b∧a*c≤2 ^ 46∧a≤2 ^ 46 then some (List.replicate a.toNat z) else none
theorem zB4 (z:α) (a b:Int) (c:Nat):za.mkN a b c=match mkSl z a b c with|none=>none|some y=>some (za.len (y.map e)):=by
 show (if 0≤a∧a=b∧a*c≤2 ^ 46∧a≤2 ^ 46 then some a.toNat else none)=_
 unfold mkSl
 split
 ·show some a.toNat=some (za.len ((List.replicate a.toNat z).map e))
  rw [zf1,ybR]
 ·rfl
theorem zCl (z:α) (a b:Int) (c:Nat) (l:List α) (h:mkSl z a b c=some l):za.rep (za.len (l.map e)) ((e z).map zab)=za.opn (l.map e):=by
 unfold mkSl at h
 split at h
 ·injection h with h
  subst h
  rw [zf1]
  show List.replicate _ _=((List.replicate _ z).map e).map (·.map zab)
  simp
 ·cases h
theorem zux (a:List α) (j:Nat) (x:α):za.len ((a.set j x).map e)=za.len (a.map e):=by
 rw [zf1,zf1,ybX]
end
theorem zz5 (x:Int):za.wrap .u8 x=za.yI (za.byW x):=by
 show IntKind.u8.wrap x=((UInt8.ofNat (IntKind.u8.wrap x).toNat).toNat:Int)
 have h:IntKind.u8.wrap x=x % 256:=by simp [IntKind.wrap,IntKind.signed,IntKind.bits]
 rw [h]
 simp
 omega
theorem zwI (l:List UInt8):za.str (List.map eY l)=some (za.ofB l):=by
 have h:mapO (fun es=>match es with|[DT.at (.int .u8 n)]=>some (UInt8.ofNat n.toNat)|_=>none) (List.map eY l)=some (l.map id):=zjZ _ eY id l fun b=>by
  show some (UInt8.ofNat (b.toNat:Int).toNat)=some b
  simp
 show (mapO (fun es=>match es with|[DT.at (.int .u8 n)]=>some (UInt8.ofNat n.toNat)|_=>none) (List.map eY l)).map (fun l=>(⟨l.toArray⟩:ByteArray))=_
 rw [h,List.map_id]
 rfl
def delL {α:Type} (f:α→Option Bool):List α→Option (List α)
 | []=>some []
 | x::l=>(f x).bind fun b=>(delL f l).map fun r=>bif b then r else x::r
def delO {α:Type} (f:α→Option Bool) (l:List α):Option (List α):=if l.length < 2 ^ 40 then delL f l else none
def insO {α:Type} (l:List α) (i:Int) (x:α):Option (List α):=if 0≤i∧i.toNat≤l.length∧l.length < 2 ^ 40 then some (l.take i.toNat++x::l.drop i.toNat) else none
end Go.Proofs.YtflhdodikmmdcaaGreat
