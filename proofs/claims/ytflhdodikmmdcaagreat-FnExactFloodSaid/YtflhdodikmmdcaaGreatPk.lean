import Derived.Test.YtflhdodikmmdcaaGreatPh
import Derived.Test.YtflhdodikmmdcaaGreatFh
namespace Go.Proofs.YtflhdodikmmdcaaGreat
open Go.RowKit
set_option linter.unusedVariables false
set_option linter.unusedSimpArgs false
set_option maxRecDepth 100000
noncomputable section
def zmc (x:zq):zq:=⟨x.locals,x.cache,x.pending,x.seen,x.routes,x.measurements,za.arith .add .i64 x.dropped 1⟩
def zge (x:zq) (p:List zb):zq:=⟨x.locals,x.cache,p,x.seen,x.routes,x.measurements,x.dropped⟩
open Classical in
def ziy (x:zq) (face:Int) (w:ze) (now:Int):zq :=
 bif vInt w then bif decide (0≤face∧face≤6) then bif zkJ x.pending x.seen w then zmc x else
  bif (zkG x w.name now).2 then ⟨x.locals,⟨x.cache.capacity,zio x.cache.entries w.name now⟩,x.pending,zjb x.seen w.name w.nonce,x.routes,x.measurements,x.dropped⟩ else
  bif (addR x.pending w face now).2 then
   bif zjG x.pending w.name && decide (now≤lastSent x.pending w.name) then zge x (addR x.pending w face now).1 else
   bif (zfW w).2 then if outP x w.name face then zge x (zh1 (addR x.pending w face now).1 w.name now) else zge x (addR x.pending w face now).1
   else zge x (addR x.pending w face now).1
  else zmc x
 else zmc x else zmc x
theorem zzz (x:zq) (h:NOk x):zfb x=some ⟨zmc x,[]⟩:=by
 unfold zfb
 rw [znH x h];rfl
structure NB (k:Nat) (x:zq):Prop where
 ok:NOk x
 p:x.pending.length≤k
 r:∀ y ∈ x.pending,y.requesters.length≤k
 s:x.seen.length≤k
theorem zrw (k:Nat) (hk:k+1≤2 ^ 24) (l:List zb) (w:ze) (face now:Int) (h1:l.length≤k) (h2:∀ y ∈ l,y.requesters.length≤k) (h3:∀ y ∈ l,y.name.length≤2 ^ 24) (hw:w.name.length≤2 ^ 24) :
  (addR l w face now).1.length≤k+1∧∀ y ∈ (addR l w face now).1,y.name.length≤2 ^ 24∧y.requesters.length≤k+1:=by
 have hl:l.length≤k+1∧∀ y ∈ l,y.name.length≤2 ^ 24∧y.requesters.length≤k+1:=⟨by omega,fun y hy=>⟨h3 y hy,by have:=h2 y hy;omega⟩⟩
 unfold addR
 split
 ·split
  ·split
   ·exact hl
   ·refine ⟨by simp;omega,fun y hy=>?_⟩
    simp only [yG,yU] at hy
    rcases hy with hy|rfl
    ·exact hl.2 y hy
    ·exact ⟨hw,by simp⟩
  ·cases hq:l[(idxI (penP w.name) l).toNat]? with
   | none=>exact hl
   | some x =>
    have hx:=yy hq
    refine ⟨by simp;omega,fun y hy=>?_⟩
    rcases yaL hy with hy|rfl
    ·exact hl.2 y hy
    ·refine ⟨h3 x hx,?_⟩
     have:=zu5 x.requesters ⟨face,w.nonce,za.arith .add .i64 now w.lifetime⟩
     have:=h2 x hx
     dsimp only
     omega
 ·exact hl
theorem zAx (k:Nat) (l:List zb) (n:List ByteArray) (now:Int) (h:l.length≤k∧∀ y ∈ l,y.name.length≤2 ^ 24∧y.requesters.length≤k):(zh1 l n now).length≤k∧∀ y ∈ zh1 l n now,y.name.length≤2 ^ 24∧y.requesters.length≤k:=by
 unfold zh1
 split
 ·exact h
 ·cases hq:l[(idxI (penP n) l).toNat]? with
  | none=>exact h
  | some x =>
   have hx:=yy hq
   refine ⟨by simp;exact h.1,fun y hy=>?_⟩
   rcases yaL hy with hy|rfl
   ·exact h.2 y hy
   ·exact h.2 x hx
theorem zz1 (l:List zi) (n:List ByteArray) (now:Int):(zio l n now).length=l.length∧∀ y ∈ zio l n now,∃ z ∈ l,y.data=z.data:=by
 unfold zio
 cases hq:scan (fun _ x=>entP n x) (fun i (x:zi)=>(i,x)) 0 l with
 | none=>exact ⟨rfl,fun y hy=>⟨y,hy,rfl⟩⟩
 | some g =>
  obtain ⟨j,x,h1,-,rfl⟩:=zju _ _ _ _ _ hq
  refine ⟨by simp,fun y hy=>?_⟩
  rcases yaL hy with hy|rfl
  ·exact ⟨y,hy,rfl⟩
  ·exact ⟨x,yy h1,rfl⟩
theorem zAV (k:Nat) (s:List zg) (n:List ByteArray) (c:Int) (h1:s.length≤k) (h2:∀ y ∈ s,y.name.length≤2 ^ 24) (hn:n.length≤2 ^ 24):(zjb s n c).length≤k+1∧∀ y ∈ zjb s n c,y.name.length≤2 ^ 24:=by
 have h:(s++[(⟨n,c⟩:zg)]).length≤k+1∧∀ y ∈ s++[(⟨n,c⟩:zg)],y.name.length≤2 ^ 24:=by
  refine ⟨by simp;omega,fun y hy=>?_⟩
  simp only [yG,yU] at hy
  rcases hy with hy|rfl
  ·exact h2 y hy
  ·exact hn
 unfold zjb
 split
 ·exact ⟨by rw [yam];omega,fun y hy=>h.2 y (yaJ hy)⟩
 ·exact h
theorem NB.up {k:Nat} {x:zq} (h:NB k x):NB (k+1) x:=⟨h.ok,by have:=h.p;omega,fun y hy=>by have:=h.r y hy;omega,by have:=h.s;omega⟩
theorem NB.pen {k:Nat} (hk:k+1≤2 ^ 24) {x:zq} (h:NB k x) {p:List zb} (hp:p.length≤k+1∧∀ y ∈ p,y.name.length≤2 ^ 24∧y.requesters.length≤k+1):NB (k+1) (zge x p) :=
 ⟨⟨h.ok.lo,h.ok.lod,h.ok.ca,h.ok.cad,by show p.length≤_;omega,fun y hy=>⟨(hp.2 y hy).1,by have:=(hp.2 y hy).2;omega⟩,h.ok.se,h.ok.sed,h.ok.ro,h.ok.rod,h.ok.me,h.ok.med⟩,hp.1,fun y hy=>(hp.2 y hy).2,by have:=h.s;show x.seen.length≤_;omega⟩
theorem NB.drop {k:Nat} {x:zq} (h:NB k x):NB (k+1) (zmc x) :=
 ⟨⟨h.ok.lo,h.ok.lod,h.ok.ca,h.ok.cad,h.ok.pe,h.ok.ped,h.ok.se,h.ok.sed,h.ok.ro,h.ok.rod,h.ok.me,h.ok.med⟩,h.up.p,h.up.r,h.up.s⟩
theorem zu4 (k:Nat) (hk:k+1≤2 ^ 24) (x:zq) (face:Int) (w:ze) (now:Int) (h:NB k x) (hw:w.name.length≤2 ^ 24):NB (k+1) (ziy x face w now):=by
 have ha:=zrw k hk x.pending w face now h.p h.r (fun y hy=>(h.ok.ped y hy).1) hw
 have hm:=zAx (k+1) _ w.name now ha
 have hp:=NB.pen hk h ha
 have hq:=NB.pen hk h hm
 unfold ziy
 cases vInt w
 ·exact h.drop
 cases decide (0≤face∧face≤6)
 ·exact h.drop
 cases zkJ x.pending x.seen w
 ·simp only [yg,yf]
  cases (zkG x w.name now).2
  ·simp only [yf]
   cases (addR x.pending w face now).2
   ·exact h.drop
   ·simp only [yg]
    cases zjG x.pending w.name && decide (now≤lastSent x.pending w.name)
    ·simp only [yf]
     cases (zfW w).2
     ·exact hp
     ·simp only [yg]
      split
      ·exact hq
      ·exact hp
    ·exact hp
  ·simp only [yg]
   have ht:=zz1 x.cache.entries w.name now
   have hs:=zAV k x.seen w.name w.nonce h.s h.ok.sed hw
   exact ⟨⟨h.ok.lo,h.ok.lod,by rw [ht.1];exact h.ok.ca,fun y hy=>by obtain ⟨z,hz,e⟩:=ht.2 y hy;rw [e];exact h.ok.cad z hz,h.ok.pe,h.ok.ped,by have:=hs.1;show (zjb x.seen w.name w.nonce).length≤_;omega,hs.2,h.ok.ro,h.ok.rod,h.ok.me,h.ok.med⟩,h.up.p,h.up.r,hs.1⟩
 ·exact h.drop
theorem zng (w:ze):(zfW w).1.name=w.name:=by unfold zfW;split<;>rfl
theorem so1 (y:ze) (hy:y.name.length≤2 ^ 24) (l:List Int) (hl:l.length≤2 ^ 24) (b:Bool):∃ g,zd (za7 y l) fuel (b,0,[])=some g:=by
 have hw:∃ g,zd (za7 y l) fuel (b,0,[])=some g∧True:=by
  refine zbt _ (fun s=>∃ i:Nat,s.2.1=(i:Int)∧i≤l.length∧s.2.2.length≤i) (fun s=>l.length - s.2.1.toNat) _ ⟨0,rfl,by omega,by simp⟩ (by simp;unfold fuel;omega) ?_
  rintro ⟨c,v,o⟩ ⟨i,h1,h2,h3⟩
  dsimp only at h1 h3
  subst h1
  have hf:∀ z:zD,za.fits (za.len (List.map za1 o)) (za.rlen (za.opn (List.map za1 [z]))) 152=true:=fun z=>by
   rw [zA,zaz];exact zaL _ _ _ (by simp only [yF];omega)
  by_cases hi:i < l.length
  ·cases c
   ·by_cases h0:i=0
    ·refine .inl ⟨(false,((i+1:Nat):Int),o++[⟨l[i],true,y,⟨[],[],[],0,0⟩⟩]),?_,⟨i+1,rfl,by omega,by simp;omega⟩,by simp only [yq];omega⟩
     simp only [za7,zJ _ hi,yg,yf,zeU,ym (show (i:Int)=0 by omega),zaj eI hi,ya,yb hi,zpD _ hy,hf,zar i l.length hi (by omega)]
    ·refine .inr ⟨.inl ((i:Int),o),?_,trivial⟩
     simp only [za7,zJ _ hi,yg,yf,zeU,yo (show ¬ (i:Int)=0 by omega)]
   ·refine .inl ⟨(true,((i+1:Nat):Int),o++[⟨l[i],true,y,⟨[],[],[],0,0⟩⟩]),?_,⟨i+1,rfl,by omega,by simp;omega⟩,by simp only [yq];omega⟩
    simp only [za7,zJ _ hi,yg,zaj eI hi,ya,yb hi,zpD _ hy,hf,zar i l.length hi (by omega)]
  ·have hil:i=l.length:=by omega
   subst hil
   refine .inr ⟨.inr (c,(l.length:Int),o),?_,trivial⟩
   simp only [za7,zaa,yf]
 obtain ⟨g,hg,-⟩:=hw
 exact ⟨g,hg⟩
theorem so2 (y:ze) (hy:y.name.length≤2 ^ 24) (l:List Int) (hl:l.length≤2 ^ 24) (b:Bool):∃ g,zd (zfy y l) fuel (b,0,[])=some g:=so1 y hy l hl b
theorem io2 (y:ze) (hy:y.name.length≤2 ^ 24) (l:List Int) (hl:l.length≤2 ^ 24):∃ g,zd (zbZ y l) fuel (0,[])=some g :=
 ⟨_,zb3 (step:=zbZ y l) l (fun f=>[(⟨f,true,y,⟨[],[],[],0,0⟩⟩:zD)]) (by omega) (fun x=>by simp) (fun i x out hm hx hi ho=>by
  have hx':l[i]?=some x:=by rw [← zbH];exact hx
  simp only [zbZ,zJ _ hi,yg,zaj eI hi,hx',ya,zj3 _ hy]
  simp only [zA,zaz,zar i l.length hi (by omega)]
  rw [zaL _ _ _ (by simp only [yF];omega)]
  rfl) (fun out=>by simp only [zbZ,zaa];rfl)⟩
theorem io4 (y:ze) (hy:y.name.length≤2 ^ 24) (l:List Int) (hl:l.length≤2 ^ 24):∃ g,zd (zfv y l) fuel (0,[])=some g:=io2 y hy l hl
theorem io1 (y:ze) (hy:y.name.length≤2 ^ 24) (l:List Int) (hl:l≠[]):∃ g,zd (zbY y l 0 1) fuel (0,[])=some g:=by
 obtain ⟨f,r,rfl⟩:=List.exists_cons_of_ne_nil hl
 refine ⟨(1,[⟨f,true,y,⟨[],[],[],0,0⟩⟩]),?_⟩
 have e1:zbY y (f::r) 0 1 (0,[])=some (.inl (1,[⟨f,true,y,⟨[],[],[],0,0⟩⟩])):=by
  simp only [zbY,zj3 _ hy]
  rfl
 have e2:zbY y (f::r) 0 1 (1,[⟨f,true,y,⟨[],[],[],0,0⟩⟩])=some (.inr (1,[⟨f,true,y,⟨[],[],[],0,0⟩⟩])):=rfl
 show zd _ ((fuel - 2)+1+1) _=_
 rw [ziG e1,zck e2]
theorem io3 (y:ze) (hy:y.name.length≤2 ^ 24) (l:List Int) (hl:l≠[]):∃ g,zd (zfu y l 0 1) fuel (0,[])=some g:=io1 y hy l hl
theorem zzM (l:List Int):za.cmp .eql (za.int (za.len (List.map eI l))) 0=decide (l=[]):=by
 rw [zA,zaV,zeU]
 congr 1
 rw [← yay]
 exact propext ⟨fun h=>by omega,fun h=>by omega⟩
theorem zlK (k:Nat) (hk:k+1≤2 ^ 24) (x:zq) (face:Int) (w:ze) (now:Int) (h:NB k x) (hw:zhQ w.name) (hw2:w.name.length≤2 ^ 24):∃ o,zce x face w now=some ⟨ziy x face w now,o⟩:=by
 have hN:=h.ok
 have hP:PenOk x.pending:=⟨hN.pe,hN.ped⟩
 have ha:=zrw k hk x.pending w face now h.p h.r (fun y hy=>(h.ok.ped y hy).1) hw2
 have hA:PenOk (addR x.pending w face now).1:=⟨by omega,fun y hy=>⟨(ha.2 y hy).1,by have:=(ha.2 y hy).2;omega⟩⟩
 have hdn:(zfW w).1.name.length≤2 ^ 24:=by rw [zng];exact hw2
 unfold zce ziy
 rw [zjM _ hw,ya,zzz x hN]
 cases vInt w
 ·exact ⟨_,rfl⟩
 simp only [zat,yT,yf,yg]
 rw [znI,ya]
 cases decide (0≤face∧face≤6)
 ·exact ⟨_,rfl⟩
 simp only [yT,yf,yg]
 rw [ztd _ _ _ (by have:=hN.pe;omega) (fun y hy=>⟨by have:=(hN.ped y hy).1;omega,by have:=(hN.ped y hy).2;omega⟩) (by have:=hN.se;omega) (fun y hy=>by have:=hN.sed y hy;omega),ya]
 cases zkJ x.pending x.seen w
 case true=>exact ⟨_,rfl⟩
 simp only [yf]
 rw [znH x hN,ya,zqU x _ now hN,ya]
 generalize zkG x w.name now=q
 obtain ⟨d,ok⟩:=q
 dsimp only
 cases ok
 case true =>
  simp only [yg]
  rw [zaz,zdN _ _ (by simp) (by decide),yg,zuW _ _ _ hN.ca hN.cad,ya,zm6 _ _ _ hN.se hN.sed hw2,ya]
  exact ⟨_,rfl⟩
 simp only [yf]
 rw [zm5 _ _ _ _ hP hw hw2,ya]
 revert ha hA
 generalize addR x.pending w face now=q
 obtain ⟨p,ok⟩:=q
 intro ha hA
 dsimp only at ha hA ⊢
 cases ok
 ·exact ⟨_,rfl⟩
 simp only [yT,yf,yg]
 obtain ⟨b,hb⟩:=zli x.pending w.name face hP
 obtain ⟨r,hr,hrl,hro⟩:=zmK x w.name face hN hw2
 rw [hb,ya,zmv _ hw2,ya,hr,ya,zoz _ _ hP,ya,zoA _ _ hP,ya,zqV _ _ _ hA]
 revert hdn
 generalize zfW w=q
 obtain ⟨y,ok⟩:=q
 intro hdn
 dsimp only at hdn ⊢
 have fin:∀ (o:Option zax),(ok=true→decide (r=[])=false→∃ g,o=some ⟨zge x (zh1 p w.name now),g⟩)→∃ g,(bif !ok then (some (⟨zge x p,[]⟩:zax)) else (bif decide (r=[]) then (some (⟨zge x p,[]⟩:zax)) else o))=some ⟨bif ok then @ite _ (outP x w.name face) (Classical.propDecidable _) (zge x (zh1 p w.name now)) (zge x p) else zge x p,g⟩:=fun o ho=>by
  cases ok
  ·exact ⟨_,rfl⟩
  ·by_cases hr0:r=[]
   ·rw [ym hr0]
    have hno:¬ outP x w.name face:=fun hh=>(hro.2 hh) hr0
    exact ⟨[],by simp only [yT,yf,yg,if_neg hno]⟩
   ·obtain ⟨g,hg⟩:=ho rfl (yo hr0)
    exact ⟨g,by rw [yo hr0,hg];simp only [yT,yf,yg,if_pos (hro.1 hr0)]⟩
 rw [zcp,zzM]
 cases zjG x.pending w.name
 ·simp only [ycs,yf]
  refine fin _ fun _ _=>?_
  obtain ⟨g,hg⟩:=so2 y hdn r hrl b
  rw [ya,hg,ya]
  rcases g with ⟨u1,u2⟩|⟨u1,u2,u3⟩<;>exact ⟨_,rfl⟩
 ·simp only [yca,yg]
  cases decide (now≤lastSent x.pending w.name)
  ·simp only [yf]
   refine fin _ fun _ _=>?_
   obtain ⟨g,hg⟩:=so1 y hdn r hrl b
   rw [ya,hg,ya]
   rcases g with ⟨u1,u2⟩|⟨u1,u2,u3⟩<;>exact ⟨_,rfl⟩
  ·exact ⟨_,rfl⟩
end
end Go.Proofs.YtflhdodikmmdcaaGreat
namespace Go.Proofs.YtflhdodikmmdcaaGreat
open Go.RowKit
set_option linter.unusedVariables false
set_option linter.unusedSimpArgs false
set_option maxRecDepth 100000
noncomputable section
theorem zlJ (k:Nat) (hk:k+1≤2 ^ 24) (x:zq) (face:Int) (w:ze) (now:Int) (h:NB k x) (hw:zhQ w.name) (hw2:w.name.length≤2 ^ 24):∃ o,zcd x face w now=some ⟨ziy x face w now,o⟩:=by
 have hN:=h.ok
 have hP:PenOk x.pending:=⟨hN.pe,hN.ped⟩
 have ha:=zrw k hk x.pending w face now h.p h.r (fun y hy=>(h.ok.ped y hy).1) hw2
 have hA:PenOk (addR x.pending w face now).1:=⟨by omega,fun y hy=>⟨(ha.2 y hy).1,by have:=(ha.2 y hy).2;omega⟩⟩
 have hdn:(zfW w).1.name.length≤2 ^ 24:=by rw [zng];exact hw2
 unfold zcd ziy
 rw [zqN x hN,ya,zjL _ hw,ya]
 cases vInt w
 ·exact ⟨_,rfl⟩
 simp only [zat,yT,yf,yg]
 rw [zlx,ya]
 cases decide (0≤face∧face≤6)
 ·exact ⟨_,rfl⟩
 simp only [yT,yf,yg]
 rw [ztc _ _ _ (by have:=hN.pe;omega) (fun y hy=>⟨by have:=(hN.ped y hy).1;omega,by have:=(hN.ped y hy).2;omega⟩) (by have:=hN.se;omega) (fun y hy=>by have:=hN.sed y hy;omega),ya]
 cases zkJ x.pending x.seen w
 case true=>exact ⟨_,rfl⟩
 simp only [yf]
 rw [zqR x _ now hN,ya]
 generalize zkG x w.name now=q
 obtain ⟨d,ok⟩:=q
 dsimp only
 cases ok
 case true =>
  simp only [yg]
  rw [zuS _ _ _ hN.ca hN.cad,ya,zm4 _ _ _ hN.se hN.sed hw2,ya]
  exact ⟨_,rfl⟩
 simp only [yf]
 rw [zm3 _ _ _ _ hP hw hw2,ya]
 revert ha hA
 generalize addR x.pending w face now=q
 obtain ⟨p,ok⟩:=q
 intro ha hA
 dsimp only at ha hA ⊢
 cases ok
 ·exact ⟨_,rfl⟩
 simp only [yT,yf,yg]
 obtain ⟨b,hb⟩:=zlh x.pending w.name face hP
 obtain ⟨r,hr,hrl,hro⟩:=zmJ x w.name face hN hw2
 rw [zmt _ hw2,ya,hr,ya,zow _ _ hP,ya,zox _ _ hP,ya,zqS _ _ _ hA,hb]
 revert hdn
 generalize zfW w=q
 obtain ⟨y,ok⟩:=q
 intro hdn
 dsimp only at hdn ⊢
 have fin:∀ (o:Option zax),(ok=true→r≠[]→∃ g,o=some ⟨zge x (zh1 p w.name now),g⟩)→∃ g,(bif !ok then (some (⟨zge x p,[]⟩:zax)) else (bif decide (r=[]) then (some (⟨zge x p,[]⟩:zax)) else o))=some ⟨bif ok then @ite _ (outP x w.name face) (Classical.propDecidable _) (zge x (zh1 p w.name now)) (zge x p) else zge x p,g⟩:=fun o ho=>by
  cases ok
  ·exact ⟨_,rfl⟩
  ·by_cases hr0:r=[]
   ·rw [ym hr0]
    have hno:¬ outP x w.name face:=fun hh=>(hro.2 hh) hr0
    exact ⟨[],by simp only [yT,yf,yg,if_neg hno]⟩
   ·obtain ⟨g,hg⟩:=ho rfl hr0
    exact ⟨g,by rw [yo hr0,hg];simp only [yT,yf,yg,if_pos (hro.1 hr0)]⟩
 rw [zcp,zzM]
 have hsub:r≠[]→za.rsub 0 (za.len (List.map eI r)) none (some 1)=some (0,1):=fun hne=>by
  rw [zA]
  exact zu2 r.length 1 (by have:=ybA.2 hne;omega)
 cases zjG x.pending w.name
 ·simp only [ycs,yf]
  refine fin _ fun _ hne=>?_
  rw [ya,ya]
  cases b
  ·obtain ⟨⟨g1,g2⟩,hg⟩:=io3 y hdn r hne
   rw [show (!false)=true from rfl,yg,hsub hne,ya]
   dsimp only
   rw [hg]
   exact ⟨_,rfl⟩
  ·obtain ⟨⟨g1,g2⟩,hg⟩:=io4 y hdn r hrl
   rw [show (!true)=false from rfl,yf,hg]
   exact ⟨_,rfl⟩
 ·simp only [yca,yg]
  cases decide (now≤lastSent x.pending w.name)
  ·simp only [yf]
   refine fin _ fun _ hne=>?_
   rw [ya,ya]
   cases b
   ·obtain ⟨⟨g1,g2⟩,hg⟩:=io1 y hdn r hne
    rw [show (!false)=true from rfl,yg,hsub hne,ya]
    dsimp only
    rw [hg]
    exact ⟨_,rfl⟩
   ·obtain ⟨⟨g1,g2⟩,hg⟩:=io2 y hdn r hrl
    rw [show (!true)=false from rfl,yf,hg]
    exact ⟨_,rfl⟩
  ·exact ⟨_,rfl⟩
def zjE (x:zq) (face:Int) (l:List ze) (now:Int):zq:=l.foldl (fun x w=>ziy x face w now) x
def stN (i:Nat) (x:zq):Int×Int×Int×(List zp)×(List zi)×(List zb)×(List zg)×(List zh)×(List zc):=((i:Int),x.cache.capacity,x.dropped,x.locals,x.cache.entries,x.pending,x.seen,x.routes,x.measurements)
theorem zuV (x:zq) (face:Int) (l:List ze) (now:Int) (k:Nat) (hk:k+l.length≤2 ^ 23) (h:NB k x) (hw:∀ w ∈ l,zhQ w.name∧w.name.length≤2 ^ 24):zkV x face l now=some (zjE x face l now):=by
 unfold zkV
 rw [znH x h.ok,ya]
 have hl:zd (zgy face l now) fuel (stN 0 x)=some (stN l.length (zjE x face l now)) :=
  zda (step:=zgy face l now) l stN (fun i rest s=>stN l.length (zjE s face rest now)) (fun i s=>NB (k+i) s) x (by unfold fuel;omega) h (fun s _=>by
   simp only [stN,zgy,zaa];rfl) (fun i w rest s hd hi hx hI=>by
   have hm:w ∈ l:=by
    have:l[i]?=some w:=by rw [← zbH];exact hx
    exact yy this
   have hok:=zu4 (k+i) (by omega) s face w now hI (hw w hm).2
   obtain ⟨o,ho⟩:=zlK (k+i) (by omega) s face w now hI (hw w hm).1 (hw w hm).2
   refine .inl ⟨ziy s face w now,?_,hok,rfl⟩
   obtain ⟨lo,⟨cap,en⟩,pe,se,ro,me,dr⟩:=s
   simp only [stN,zgy,zJ _ hi,yg,hx,ya,ho,zar i l.length hi (by omega)])
 show ((zd (zgy face l now) fuel (stN 0 x)).bind _)=_
 rw [hl]
 rfl
theorem zuR (x:zq) (face:Int) (l:List ze) (now:Int) (k:Nat) (hk:k+l.length≤2 ^ 23) (h:NB k x) (hw:∀ w ∈ l,zhQ w.name∧w.name.length≤2 ^ 24):zkU x face l now=some (zjE x face l now):=by
 unfold zkU
 rw [zqN x h.ok,ya]
 have hl:zd (zgq face l now) fuel (stN 0 x)=some (stN l.length (zjE x face l now)) :=
  zda (step:=zgq face l now) l stN (fun i rest s=>stN l.length (zjE s face rest now)) (fun i s=>NB (k+i) s) x (by unfold fuel;omega) h (fun s _=>by
   simp only [stN,zgq,zaa];rfl) (fun i w rest s hd hi hx hI=>by
   have hm:w ∈ l:=by
    have:l[i]?=some w:=by rw [← zbH];exact hx
    exact yy this
   have hok:=zu4 (k+i) (by omega) s face w now hI (hw w hm).2
   obtain ⟨o,ho⟩:=zlJ (k+i) (by omega) s face w now hI (hw w hm).1 (hw w hm).2
   refine .inl ⟨ziy s face w now,?_,hok,rfl⟩
   obtain ⟨lo,⟨cap,en⟩,pe,se,ro,me,dr⟩:=s
   simp only [stN,zgq,zJ _ hi,yg,hx,ya,ho,zar i l.length hi (by omega)])
 show ((zd (zgq face l now) fuel (stN 0 x)).bind _)=_
 rw [hl]
 rfl
end
end Go.Proofs.YtflhdodikmmdcaaGreat
namespace Go.Proofs.YtflhdodikmmdcaaGreat
open Go.RowKit
set_option linter.unusedVariables false
set_option linter.unusedSimpArgs false
set_option maxRecDepth 100000
noncomputable section
theorem zol {α:Type} (f:α→Nat) (c:Nat):∀ (l:List α) (i:Nat) (x y:α),l[i]?=some x→f y≤f x+c→szL f (l.set i y)≤szL f l+c
 | [],i,x,y,h,_=>by simp at h
 | z::l,0,x,y,h,hc=>by
  simp only [yD,yd] at h
  subst h
  simp only [yag,szL]
  omega
 | z::l,i+1,x,y,h,hc=>by
  have:=zol f c l i x y (by simpa using h) hc
  simp only [yah,szL]
  omega
theorem zz0 {α:Type} (f:α→Nat):∀ l:List α,szL f (l.drop 1)≤szL f l
 | []=>yz _
 | x::l=>by simp only [List.drop_succ_cons,yau,szL];omega
theorem zBx (l:List zb) (w:ze) (face now:Int):szL zt (addR l w face now).1≤szL zt l+(zak w+2):=by
 unfold addR
 split
 ·split
  ·split
   ·exact ybk _ _
   ·dsimp only
    rw [zpW]
    show szL zt l+(szL ByteArray.size w.name+szL (fun _=>0) [(⟨face,w.nonce,za.arith .add .i64 now w.lifetime⟩:zf)]+1)≤_+(szL ByteArray.size w.name+2)
    rw [zjk]
    simp only [yF]
    omega
  ·cases hq:l[(idxI (penP w.name) l).toNat]? with
   | none=>exact ybk _ _
   | some x =>
    have h1:=zu5 x.requesters ⟨face,w.nonce,za.arith .add .i64 now w.lifetime⟩
    have h2:=zol zt 1 l _ x ⟨x.name,putL x.requesters ⟨face,w.nonce,za.arith .add .i64 now w.lifetime⟩,x.lastSent⟩ hq (by
     show szL ByteArray.size x.name+szL (fun _=>0) (putL x.requesters ⟨face,w.nonce,za.arith .add .i64 now w.lifetime⟩)≤szL ByteArray.size x.name+szL (fun _=>0) x.requesters+1
     rw [zjk,zjk]
     omega)
    dsimp only
    omega
 ·exact ybk _ _
theorem zAy (l:List zb) (n:List ByteArray) (now:Int):szL zt (zh1 l n now)≤szL zt l:=by
 unfold zh1
 split
 ·exact yz _
 ·cases hq:l[(idxI (penP n) l).toNat]? with
  | none=>exact yz _
  | some x=>exact zol zt 0 l _ x ⟨x.name,x.requesters,now⟩ hq (yz _)
theorem zz2 (l:List zi) (n:List ByteArray) (now:Int):szL zW (zio l n now)≤szL zW l:=by
 unfold zio
 cases hq:scan (fun _ x=>entP n x) (fun i (x:zi)=>(i,x)) 0 l with
 | none=>exact yz _
 | some g =>
  obtain ⟨j,x,h1,-,rfl⟩:=zju _ _ _ _ _ hq
  dsimp only
  rw [yaq]
  exact zol zW 0 l j x ⟨x.data,now⟩ h1 (yz _)
theorem zAW (s:List zg) (w:ze):szL zH (zjb s w.name w.nonce)≤szL zH s+(zak w+2):=by
 have h:szL zH (s++[(⟨w.name,w.nonce⟩:zg)])≤szL zH s+(zak w+2):=by
  rw [zpW]
  show szL zH s+(szL ByteArray.size w.name+1)≤_+(szL ByteArray.size w.name+2)
  omega
 unfold zjb
 split
 ·exact yaj (zz0 _ _) h
 ·exact h
theorem zAM (x:zq) (face:Int) (w:ze) (now:Int):zcL (ziy x face w now)≤zcL x+(zak w+2):=by
 have ha:=zBx x.pending w face now
 have hm:=zAy (addR x.pending w face now).1 w.name now
 have hd:zcL (zmc x)≤zcL x+(zak w+2):=ybk _ _
 have hp:∀ p,szL zt p≤szL zt x.pending+(zak w+2)→zcL (zge x p)≤zcL x+(zak w+2):=fun p h=>by
  show szL zaw x.locals+zac x.cache+szL zt p+szL zH x.seen+szL za5 x.routes+szL zR x.measurements≤szL zaw x.locals+zac x.cache+szL zt x.pending+szL zH x.seen+szL za5 x.routes+szL zR x.measurements+(zak w+2)
  omega
 have hp1:=hp _ ha
 have hp2:=hp _ (yaj hm ha)
 unfold ziy
 cases vInt w
 ·exact hd
 cases decide (0≤face∧face≤6)
 ·exact hd
 cases zkJ x.pending x.seen w
 ·simp only [yg,yf]
  cases (zkG x w.name now).2
  ·simp only [yf]
   cases (addR x.pending w face now).2
   ·exact hd
   ·simp only [yg]
    cases zjG x.pending w.name && decide (now≤lastSent x.pending w.name)
    ·simp only [yf]
     cases (zfW w).2
     ·exact hp1
     ·simp only [yg]
      split
      ·exact hp2
      ·exact hp1
    ·exact hp1
  ·simp only [yg]
   have ht:=zz2 x.cache.entries w.name now
   have hs:=zAW x.seen w
   show szL zaw x.locals+szL zW (zio x.cache.entries w.name now)+szL zt x.pending+szL zH (zjb x.seen w.name w.nonce)+szL za5 x.routes+szL zR x.measurements≤szL zaw x.locals+szL zW x.cache.entries+szL zt x.pending+szL zH x.seen+szL za5 x.routes+szL zR x.measurements+(zak w+2)
   omega
 ·exact hd
theorem zsv (face now:Int):∀ (l:List ze) (x:zq),zcL (zjE x face l now)≤zcL x+2*szL zak l
 | [],x=>ybk _ _
 | w::l,x=>by
  have h1:=zsv face now l (ziy x face w now)
  have h2:=zAM x face w now
  show zcL (zjE (ziy x face w now) face l now)≤_
  simp only [szL]
  omega
theorem zit {α:Type} (c f:α→Nat) (h:∀ x,c x≤64*(f x+1)):∀ l:List α,cntL c l≤64*szL f l
 | []=>yz _
 | x::l=>by
  have ih:=zit c f h l
  have:=h x
  simp only [szL,cntL]
  omega
theorem zAj (x:zp):zS x≤64*(zaw x+1):=by
 have e:zaw x=szL ByteArray.size x.name+szL (fun _=>0) x.content+szL ByteArray.size x.keyName:=rfl
 have:=zaH ByteArray.size x.name
 have:=zaH (fun _=>0) x.content
 have:=zaH ByteArray.size x.keyName
 unfold zS
 omega
theorem zry (x:zi):zm x≤64*(zW x+1):=by
 have e:zW x=szL ByteArray.size x.data.name+szL (fun _=>0) x.data.content+szL ByteArray.size x.data.keyName:=rfl
 have:=zaH ByteArray.size x.data.name
 have:=zaH (fun _=>0) x.data.content
 have:=zaH ByteArray.size x.data.keyName
 unfold zm
 omega
theorem zs0 (x:zf):zy x≤64*((fun _=>0) x+1):=by show 3≤64*(0+1);decide
theorem zmV (x:zb):zn x≤64*(zt x+1):=by
 have e:zt x=szL ByteArray.size x.name+szL (fun _=>0) x.requesters:=rfl
 have:=zaH ByteArray.size x.name
 have:=zit zy (fun _=>0) zs0 x.requesters
 unfold zn
 omega
theorem zs1 (x:zg):zB x≤64*(zH x+1):=by
 have e:zH x=szL ByteArray.size x.name:=rfl
 have:=zaH ByteArray.size x.name
 unfold zB
 omega
theorem zyC (x:zh):zai x≤64*(za5 x+1):=by
 have e:za5 x=szL ByteArray.size x.pfx:=rfl
 have:=zaH ByteArray.size x.pfx
 unfold zai
 omega
theorem zqa (x:zc):zw x≤64*(zR x+1):=by
 have e:zR x=szL ByteArray.size x.pfx:=rfl
 have:=zaH ByteArray.size x.pfx
 unfold zw
 omega
theorem ztX (x:ze):zL x≤64*(zak x+1):=by
 have e:zak x=szL ByteArray.size x.name:=rfl
 have:=zaH ByteArray.size x.name
 unfold zL
 omega
def zfV (x:zq):Nat:=cntL zS x.locals+cntL zm x.cache.entries+cntL zn x.pending+cntL zB x.seen+cntL zai x.routes+cntL zw x.measurements
theorem zuI (x:zq):zfV x≤64*zcL x:=by
 have e:zcL x=szL zaw x.locals+szL zW x.cache.entries+szL zt x.pending+szL zH x.seen+szL za5 x.routes+szL zR x.measurements:=rfl
 have:=zit zS zaw zAj x.locals
 have:=zit zm zW zry x.cache.entries
 have:=zit zn zt zmV x.pending
 have:=zit zB zH zs1 x.seen
 have:=zit zai za5 zyC x.routes
 have:=zit zw zR zqa x.measurements
 unfold zfV
 omega
theorem zB8 (x:zq) (h:zcL x≤1048576):NB 1048576 x:=by
 have e:zcL x=szL zaw x.locals+szL zW x.cache.entries+szL zt x.pending+szL zH x.seen+szL za5 x.routes+szL zR x.measurements:=rfl
 have l1:=zaH zaw x.locals
 have l2:=zaH zW x.cache.entries
 have l3:=zaH zt x.pending
 have l4:=zaH zH x.seen
 have l5:=zaH za5 x.routes
 have l6:=zaH zR x.measurements
 have hD:∀ y:zp,zaw y≤1048576→DatS y:=fun y hy=>by
  have e:zaw y=szL ByteArray.size y.name+szL (fun _=>0) y.content+szL ByteArray.size y.keyName:=rfl
  have h1:=zaH ByteArray.size y.name
  have h2:=zaH (fun _=>0) y.content
  have h3:=zaH ByteArray.size y.keyName
  exact ⟨by omega,by omega,by omega⟩
 have hP:∀ y ∈ x.pending,y.name.length≤1048576∧y.requesters.length≤1048576:=fun y hy=>by
  have h0:=zhY zt hy
  have e:zt y=szL ByteArray.size y.name+szL (fun _=>0) y.requesters:=rfl
  have h1:=zaH ByteArray.size y.name
  have h2:=zaH (fun _=>0) y.requesters
  exact ⟨by omega,by omega⟩
 refine ⟨⟨by omega,fun y hy=>hD y (by have:=zhY zaw hy;omega),by omega,fun y hy=>hD y.data (by have h0:=zhY zW hy;have e:zW y=zaw y.data:=rfl;omega),by omega,fun y hy=>⟨by have:=(hP y hy).1;omega,by have:=(hP y hy).2;omega⟩,by omega,fun y hy=>?_,by omega,fun y hy=>?_,by omega,fun y hy=>?_⟩,by omega,fun y hy=>(hP y hy).2,by omega⟩
 ·have h0:=zhY zH hy
  have e:zH y=szL ByteArray.size y.name:=rfl
  have h1:=zaH ByteArray.size y.name
  omega
 ·have h0:=zhY za5 hy
  have e:za5 y=szL ByteArray.size y.pfx:=rfl
  have h1:=zaH ByteArray.size y.pfx
  omega
 ·have h0:=zhY zR hy
  have e:zR y=szL ByteArray.size y.pfx:=rfl
  have h1:=zaH ByteArray.size y.pfx
  omega
theorem zCB (l:List ze) (h:szL zak l≤1048576):∀ w ∈ l,zhQ w.name∧w.name.length≤2 ^ 24:=fun w hw=>by
 have h0:=zhY zak hw
 have e:zak w=szL ByteArray.size w.name:=rfl
 have h1:=zaH ByteArray.size w.name
 exact ⟨⟨by omega,fun s hs=>by have:=zhY ByteArray.size hs;omega⟩,by omega⟩
theorem zoy (x0:zq) (x1:Int) (x2:List ze) (x3:Int) (k0:zuJ x0) (k1:I64 x1) (k2:(LimL zkK) x2) (k3:I64 x3):zf3 x0 x1 x2 x3=some true:=by
 unfold zf3
 rw [zAI x0 1048576 k0 (by decide) (by decide),ya,zE]
 by_cases hs:((zcL x0:Nat):Int)≤1048576
 rotate_left
 ·rw [za9 hs];rfl
 rw [zam hs,yf,zbI,if_pos hs]
 have hA:zcL x0≤1048576:=by omega
 rw [zte x2 _ k2 (by omega) (by omega),ya,zE]
 by_cases hc:((szL zak x2:Nat):Int)≤1048576 - ((zcL x0:Nat):Int)
 rotate_left
 ·rw [za9 hc];rfl
 rw [zam hc,yf]
 have hB:szL zak x2≤1048576:=by omega
 have hl:=zaH zak x2
 have hn:=zB8 x0 hA
 have hi:=zCB x2 hB
 have hs2:=zuV x0 x1 x2 x3 1048576 (by omega) hn hi
 have hi2:=zuR x0 x1 x2 x3 1048576 (by omega) hn hi
 have hz:=zsv x1 x3 x2 x0
 have hc0:=zuI x0
 generalize zjE x0 x1 x2 x3=D at hs2 hi2 hz
 have hcD:=zuI D
 have hcI:=zit zL zak ztX x2
 have m0:zaQ x0 1=some (zc8 x0 1,1+((zfV x0:Nat):Int)):=zqT x0 1 (by decide) (by show 1+((zfV x0:Nat):Int)≤_;omega)
 have m1:zcV x2 (1+((zfV x0:Nat):Int))=some (mkZ zfE zL x2 (1+((zfV x0:Nat):Int)),1+((zfV x0:Nat):Int)+((cntL zL x2:Nat):Int)):=if_pos ⟨by omega,by omega⟩
 have m2:zaQ D 1=some (zc8 D 1,1+((zfV D:Nat):Int)):=zqT D 1 (by decide) (by show 1+((zfV D:Nat):Int)≤_;omega)
 have m3:zhG (zc8 D 1) 1=some (1+((zfV D:Nat):Int)):=zxK D 1 (by decide) (by show 1+((zfV D:Nat):Int)≤_;omega)
 have m4:(⟨(zc8 D 1).locals,(⟨D.cache.capacity,(zc8 D 1).cache.entries⟩:zk),(zc8 D 1).pending,(zc8 D 1).seen,(zc8 D 1).routes,(zc8 D 1).measurements,D.dropped⟩:zq)=zc8 D 1:=rfl
 simp only [zAJ x0 hA,ztg x2 hB,hs2,hi2,ya,zuP D (by omega),zuP x0 (by omega),zs9 x2 (by omega),zat,yT,yf]
 simp only [m0,ya,m1,zdw (show (0:Int)≤1+((zfV x0:Nat):Int)+((cntL zL x2:Nat):Int) by omega),yf,m2,m4,m3,zdw (show (0:Int)≤1+((zfV D:Nat):Int) by omega),zaM]
end
end Go.Proofs.YtflhdodikmmdcaaGreat
