import Derived.Test.YtifkepnfaggkiaaGreatDoorSt
namespace Go.Proofs.YtifkepnfaggkiaaGreatDoor
open Go.RowKit
set_option linter.unusedVariables false
set_option linter.unusedSimpArgs false
set_option maxRecDepth 100000
noncomputable section
inductive TC where
 | int
 | str
 | byt
 | bool
 | c4
 | c5
 | c6
 | c7
 | c8
 | c9
 | c10
 | c11
 | c12
 | c13
@[reducible] def DD:TC→Type
 | .int=>Int
 | .str=>ByteArray
 | .byt=>UInt8
 | .bool=>Bool
 | .c4=>zk
 | .c5=>zl
 | .c6=>zi
 | .c7=>(List ByteArray)
 | .c8=>zh
 | .c9=>zb
 | .c10=>(List zb)
 | .c11=>zc
 | .c12=>zd
 | .c13=>zg
def eD:(t:TC)→DD t→List DT
 | .int,x=>eI x
 | .str,x=>eS x
 | .byt,x=>eY x
 | .bool,x=>eB x
 | .c4,x=>zvz x
 | .c5,x=>zP x
 | .c6,x=>zpn x
 | .c7,x=>ziu x
 | .c8,x=>zB x
 | .c9,x=>zf x
 | .c10,x=>zk2 x
 | .c11,x=>zx x
 | .c12,x=>znK x
 | .c13,x=>zbj x
def eK (yI:UInt8→Int) (m:(t:TC)→List (DD t)→List (List DT)):(t:TC)→DD t→List DT
 | .int,x=>[.at (.int .i64 x)]
 | .str,x=>[.at (.string x)]
 | .byt,x=>[.at (.int .u8 (yI x))]
 | .bool,x=>[.at (.bool x)]
 | .c4,x=>[.sl 5 1 (m .byt x.b),.at (.int .i64 x.i),.at (.int .i64 x.h)]
 | .c5,x=>[.at (.int .i64 x.a),.at (.int .i64 x.b)]
 | .c6,x=>[.at (.int .i64 x.size),.sl 136 2 (m .c5 x.links)]
 | .c7,x=>[.sl 9 1 (m .str x)]
 | .c8,x=>[.sl 9 1 (m .str x.publisher),.at (.int .i64 x.seq),.sl 5 1 (m .byt x.content)]
 | .c9,x=>[.sl 9 1 (m .str x.name),.at (.int .i64 x.value)]
 | .c10,x=>[.sl 139 2 (m .c9 x)]
 | .c11,x=>[.sl 9 1 (m .str x.name),.sl 139 2 (m .c9 x.vector),.sl 152 3 (m .c8 x.publications)]
 | .c12,x=>[.at (.int .i64 x.topology.size),.sl 136 2 (m .c5 x.topology.links),.sl 87 3 (m .c11 x.members)]
 | .c13,x=>[.at (.int .i64 x.origin),.at (.int .i64 x.version),.sl 3 1 (m .int x.neighbors),.sl 30 1 (m .c7 x.prefixes)]
def te:TC→Nat
 | .int=>3
 | .str=>9
 | .byt=>5
 | .bool=>4
 | .c4=>157
 | .c5=>136
 | .c6=>60
 | .c7=>30
 | .c8=>152
 | .c9=>139
 | .c10=>80
 | .c11=>87
 | .c12=>63
 | .c13=>201
def tk:TC→Nat
 | .int=>1
 | .str=>1
 | .byt=>1
 | .bool=>1
 | .c4=>3
 | .c5=>2
 | .c6=>2
 | .c7=>1
 | .c8=>3
 | .c9=>2
 | .c10=>1
 | .c11=>3
 | .c12=>3
 | .c13=>4
end
end Go.Proofs.YtifkepnfaggkiaaGreatDoor
namespace Go.Proofs.YtifkepnfaggkiaaGreatDoor
open Go.RowKit
set_option linter.unusedVariables false
set_option linter.unusedSimpArgs false
set_option linter.unusedSectionVars false
noncomputable section
def mp (t:TC) (l:List (DD t)):List (List DT):=l.map (eD t)
def zbB (s:Bool):DT→Cell
 | .at v=>.at v
 | .sl e k l=>.rd s e k l
 | _=>.dead
structure Pk where
 p:Prims
 m:(t:TC)→List (DD t)→List (List DT)
 al:zgK (List Arg)
 g:{α:Type}→List α→Nat→Option α
 gn:{α:Type}→List α→Int→Option α
 gs:{α:Type}→List α→Option Int→Option Int→Option (List α)
 gp:{α:Type}→List α→Nat→Nat→Option (List α)
 gt:{α:Type}→List α→Nat→α→List α
 ga:{α:Type}→List α→List α→List α
 b:Bool→(t:TC)→List (DD t)→List (List Cell)
 hp:p=za
 hm:m=mp
 hal:(fun F lv=>zb1 F lv fuel)=al
 hg:@g=fun {α} (l:List α) (j:Nat)=>l[j]?
 hgn:@gn=fun {α} (l:List α) (i:Int)=>nthI l i
 hgs:@gs=fun {α} (l:List α) (a b:Option Int)=>subI l a b
 hgp:@gp=fun {α} (l:List α) (a b:Nat)=>za3 l a b
 hgt:@gt=fun {α} (l:List α) (j:Nat) (x:α)=>l.set j x
 hga:@ga=fun {α} (a b:List α)=>a++b
 hb:b=fun s t l=>(mp t l).map (·.map (zbB s))
def pk0:Pk:=⟨za,mp,alp,fun l j=>l[j]?,fun l i=>nthI l i,fun l a b=>subI l a b,fun l a b=>za3 l a b,fun l j x=>l.set j x,fun a b=>a++b,fun s t l=>(mp t l).map (·.map (zbB s)),rfl,rfl,rfl,rfl,rfl,rfl,rfl,rfl,rfl,rfl⟩
def lf (l:List (Nat×List Nat)) (i:Nat):List Nat:=match l with
 | []=>[]
 | (j,x)::l=>if i=j then x else lf l i
def gF (f:Func) (l:List (Nat×List Nat)):FE:=⟨f,f.body.getD .skip,lf l⟩
def vl (k:Pk) (t:TC) (l:List (DD t)):Arg:=.v (.sl (te t) (tk t) (k.m t l))
def va (k:Pk) (t:TC) (x:DD t):Arg:=.a (eK k.p.yI k.m t x)
def vi (n:Int):Arg:=.v (.at (.int .i64 n))
def vb (b:Bool):Arg:=.v (.at (.bool b))
def vs (s:ByteArray):Arg:=.v (.at (.string s))
def setT:List PV→List (Nat×PV)→List PV
 | l,[]=>l
 | l,(i,x)::r=>setT (l.set i x) r
def up (c:St) (l:List (Nat×PV)) (hp:List (Nm×Bk)):St:=⟨setT c.tm l,hp,1⟩
def sp (n:Nat) (l:List (Nat×PV)) (hp:List (Nm×Bk)):St:=⟨setT (List.replicate n dd) l,hp,1⟩
def tq (c:St) (i:Nat):PV:=c.tm.getD i dd
def cellOf (p:PV):Cell:=match p with
 | .c x=>x
 | _=>.dead
def td (c:St) (i j:Nat):DT:=match tq c i with
 | .c (.bp _ l _)=>l.getD j (.ptr [])
 | _=>.ptr []
def bq (c:St) (n:Nat):Bk:=(look c.hp (0,0,n)).getD ⟨false,false,0,0,[]⟩
def bc (c:St) (n j:Nat):Cell:=((bq c n).el.getD 0 []).getD j .dead
def rn (x:Cell) (n:Nat):Cell:=match x with
 | .row _ e k off m=>.row (0,0,n) e k off m
 | .ptr _ k i off=>.ptr (0,0,n) k i off
 | x=>x
def ci (n:Int):PV:=.c (.at (.int .i64 n))
def cb (b:Bool):PV:=.c (.at (.bool b))
def rw0 (ln:List (List DT)→Nat) (m:(t:TC)→List (DD t)→List (List DT)) (n:Nat) (t:TC) (l:List (DD t)):Cell:=.row (0,0,n) (te t) (tk t) 0 (ln (m t l))
def rb (op:List (List DT)→List (List Cell)) (m:(t:TC)→List (DD t)→List (List DT)) (n:Nat) (t:TC) (l:List (DD t)):Nm×Bk:=((0,0,n),⟨true,false,te t,tk t,op (m t l)⟩)
theorem zgs:∀ (t:TC) (x:DD t),eK za.yI mp t x=eD t x:=by intro t x;cases t<;>rfl
theorem zzN:∀ (t:TC) (x:DD t),mapO own0 ((eD t x).map zE)=some (eD t x):=by intro t x;cases t<;>rfl
theorem zv0:∀ (t:TC) (x:DD t),mapO zfK ((eD t x).map zE)=some ((eD t x).map zE):=by intro t x;cases t<;>rfl
theorem zjZ:∀ (t:TC) (x:DD t),mapO frz0 ((eD t x).map zE)=some (eD t x):=by intro t x;cases t<;>rfl
section
variable (k:Pk)
theorem zAh (t:TC) (l:List (DD t)) (i:Int):k.p.nth (k.m t l) i=match k.gn l i with|none=>none|some x=>some (eK k.p.yI k.m t x):=by
 obtain ⟨p,m,al,g,gn,gs,gp,gt,ga,bo,rfl,rfl,rfl,rfl,rfl,rfl,rfl,rfl,rfl,rfl⟩:=k
 refine (zyX (eD t) l i).trans ?_
 dsimp only
 cases nthI l i with
 | none=>rfl
 | some x=>exact congrArg some (zgs t x).symm
theorem zzI (t:TC) (l:List (DD t)) (j:Nat):k.p.rnth (k.p.opn (k.m t l)) j=match k.g l j with|none=>none|some x=>some ((eK k.p.yI k.m t x).map zE):=by
 obtain ⟨p,m,al,g,gn,gs,gp,gt,ga,bo,rfl,rfl,rfl,rfl,rfl,rfl,rfl,rfl,rfl,rfl⟩:=k
 refine (zr6 (eD t) l j).trans ?_
 dsimp only
 cases l[j]? with
 | none=>rfl
 | some x=>show some _=some _;rw [zgs t x]
theorem zAi (t:TC) (l:List (DD t)):k.p.own (k.p.opn (k.m t l))=some (k.m t l):=by
 obtain ⟨p,m,al,g,gn,gs,gp,gt,ga,bo,rfl,rfl,rfl,rfl,rfl,rfl,rfl,rfl,rfl,rfl⟩:=k
 exact zgx (eD t) (zzN t) l
theorem zup (t:TC) (l:List (DD t)):k.p.len (k.m t l)=l.length:=by
 obtain ⟨p,m,al,g,gn,gs,gp,gt,ga,bo,rfl,rfl,rfl,rfl,rfl,rfl,rfl,rfl,rfl,rfl⟩:=k
 exact zc8 (eD t) l
theorem zzF (t:TC) (n:Nat) (l:List (DD t)):k.p.full 0 n (k.p.opn (k.m t l))=decide (n=k.p.len (k.m t l)):=by
 rw [zup]
 obtain ⟨p,m,al,g,gn,gs,gp,gt,ga,bo,rfl,rfl,rfl,rfl,rfl,rfl,rfl,rfl,rfl,rfl⟩:=k
 have h:(za.opn (l.map (eD t))).length=l.length:=zhj (eD t) l
 show decide (0=0∧n=(za.opn (l.map (eD t))).length)=decide (n=l.length)
 simp only [h,true_and]
theorem zzG (t:TC) (a b:List (DD t)):k.p.rapp (k.p.opn (k.m t a)) (k.p.opn (k.m t b))=k.p.opn (k.m t (k.ga a b)):=by
 obtain ⟨p,m,al,g,gn,gs,gp,gt,ga,bo,rfl,rfl,rfl,rfl,rfl,rfl,rfl,rfl,rfl,rfl⟩:=k
 exact zrX (eD t) a b
theorem zyK (t:TC) (a:List (DD t)):k.p.rapp [] (k.p.opn (k.m t a))=k.p.opn (k.m t a):=by
 obtain ⟨p,m,al,g,gn,gs,gp,gt,ga,bo,rfl,rfl,rfl,rfl,rfl,rfl,rfl,rfl,rfl,rfl⟩:=k
 rfl
theorem zvQ (t:TC) (l:List (DD t)):k.p.rlen (k.p.opn (k.m t l))=k.p.len (k.m t l):=by
 obtain ⟨p,m,al,g,gn,gs,gp,gt,ga,bo,rfl,rfl,rfl,rfl,rfl,rfl,rfl,rfl,rfl,rfl⟩:=k
 exact zkt (eD t) l
theorem zzD (t:TC) (a b:List (DD t)):k.p.addN (k.p.len (k.m t a)) (k.p.len (k.m t b))=k.p.len (k.m t (k.ga a b)):=by
 have h:=zqH (eD t) a b
 rw [zkt] at h
 obtain ⟨p,m,al,g,gn,gs,gp,gt,ga,bo,rfl,rfl,rfl,rfl,rfl,rfl,rfl,rfl,rfl,rfl⟩:=k
 exact h
theorem zyE (t:TC) (a:List (DD t)):k.p.addN 0 (k.p.len (k.m t a))=k.p.len (k.m t a):=by
 obtain ⟨p,m,al,g,gn,gs,gp,gt,ga,bo,rfl,rfl,rfl,rfl,rfl,rfl,rfl,rfl,rfl,rfl⟩:=k
 exact Nat.zero_add _
theorem zx9 (t:TC) (l:List (DD t)):k.p.frz (k.p.opn (k.m t l)) 0 (k.p.len (k.m t l))=some (k.m t l):=by
 obtain ⟨p,m,al,g,gn,gs,gp,gt,ga,bo,rfl,rfl,rfl,rfl,rfl,rfl,rfl,rfl,rfl,rfl⟩:=k
 exact ziI (eD t) (zjZ t) l
theorem zaI (t:TC) (l:List (DD t)) (i n:Nat):k.p.frz (k.p.opn (k.m t l)) i n=match k.gp l i n with|none=>none|some y=>some (k.m t y):=by
 obtain ⟨p,m,al,g,gn,gs,gp,gt,ga,bo,rfl,rfl,rfl,rfl,rfl,rfl,rfl,rfl,rfl,rfl⟩:=k
 refine (zmX (eD t) (zjZ t) l i n).trans ?_
 dsimp only
 cases za3 l i n<;>rfl
theorem zzH (t:TC) (l:List (DD t)):k.p.rmov (k.p.opn (k.m t l)) 0 (k.p.len (k.m t l))=some (k.p.opn (k.m t l)):=by
 obtain ⟨p,m,al,g,gn,gs,gp,gt,ga,bo,rfl,rfl,rfl,rfl,rfl,rfl,rfl,rfl,rfl,rfl⟩:=k
 exact zxG (eD t) (zv0 t) l
theorem zan (t:TC) (l:List (DD t)) (i n:Nat):k.p.rmov (k.p.opn (k.m t l)) i n=match k.gp l i n with|none=>none|some y=>some (k.p.opn (k.m t y)):=by
 obtain ⟨p,m,al,g,gn,gs,gp,gt,ga,bo,rfl,rfl,rfl,rfl,rfl,rfl,rfl,rfl,rfl,rfl⟩:=k
 refine (zjC (eD t) (zv0 t) l i n).trans ?_
 dsimp only
 cases za3 l i n<;>rfl
theorem zrd (t:TC) (l:List (DD t)) (j:Nat) (x:DD t):k.p.rset (k.p.opn (k.m t l)) j ((eK k.p.yI k.m t x).map zE)=k.p.opn (k.m t (k.gt l j x)):=by
 obtain ⟨p,m,al,g,gn,gs,gp,gt,ga,bo,rfl,rfl,rfl,rfl,rfl,rfl,rfl,rfl,rfl,rfl⟩:=k
 rw [zgs t x]
 exact zr7 (eD t) l j x
theorem zrc (t:TC) (l:List (DD t)) (j:Nat) (x:DD t):k.p.len (k.m t (k.gt l j x))=k.p.len (k.m t l):=by
 obtain ⟨p,m,al,g,gn,gs,gp,gt,ga,bo,rfl,rfl,rfl,rfl,rfl,rfl,rfl,rfl,rfl,rfl⟩:=k
 exact zm4 (eD t) l j x
theorem zAk (t:TC) (l:List (DD t)) (lo hi:Option Int):k.p.sub (k.m t l) lo hi=match k.gs l lo hi with|none=>none|some y=>some (k.m t y):=by
 obtain ⟨p,m,al,g,gn,gs,gp,gt,ga,bo,rfl,rfl,rfl,rfl,rfl,rfl,rfl,rfl,rfl,rfl⟩:=k
 refine (zzo (eD t) l lo hi).trans ?_
 dsimp only
 cases subI l lo hi<;>rfl
theorem zuq (t:TC) (x:DD t):k.p.opn (k.m t [x])=[(eK k.p.yI k.m t x).map zE]:=by
 obtain ⟨p,m,al,g,gn,gs,gp,gt,ga,bo,rfl,rfl,rfl,rfl,rfl,rfl,rfl,rfl,rfl,rfl⟩:=k
 rw [zgs t x]
 rfl
theorem zgu (t:TC) (A:List (List Cell)) (x:DD t):k.p.rapp A [(eK k.p.yI k.m t x).map zE]=k.p.rapp A (k.p.opn (k.m t [x])):=by rw [zuq]
theorem zgv (t:TC) (x:DD t):k.p.rlen [(eK k.p.yI k.m t x).map zE]=k.p.len (k.m t [x]):=by rw [← zuq,zvQ]
theorem mc:(∀ (t:TC) (x:DD t) (l:List (DD t)),k.m t (x::l)=eK k.p.yI k.m t x::k.m t l)∧(∀ t:TC,k.m t []=[])∧k.p.yI 0=0∧k.p.opn []=[]∧k.p.len []=0:=by
 obtain ⟨p,m,al,g,gn,gs,gp,gt,ga,bo,rfl,rfl,rfl,rfl,rfl,rfl,rfl,rfl,rfl,rfl⟩:=k
 exact ⟨fun t x l=>by rw [zgs t x];rfl,fun t=>rfl,rfl,rfl,rfl⟩
theorem e1:(∀ t:TC,k.p.opn (k.m t [])=[])∧(∀ t:TC,k.p.len (k.m t [])=0)∧(∀ (t:TC) (x:DD t) (l:List (DD t)),k.p.opn (k.m t (x::l))=(eK k.p.yI k.m t x).map zE::k.p.opn (k.m t l))∧∀ (t:TC) (x:DD t) (l:List (DD t)),k.p.len (k.m t (x::l))=k.p.len (k.m t l)+1:=by
 obtain ⟨p,m,al,g,gn,gs,gp,gt,ga,bo,rfl,rfl,rfl,rfl,rfl,rfl,rfl,rfl,rfl,rfl⟩:=k
 exact ⟨fun t=>rfl,fun t=>rfl,fun t x l=>by rw [zgs t x];rfl,fun t x l=>rfl⟩
theorem zAj (l:List UInt8):k.p.str (k.m .byt l)=some (k.p.ofB l):=by
 obtain ⟨p,m,al,g,gn,gs,gp,gt,ga,bo,rfl,rfl,rfl,rfl,rfl,rfl,rfl,rfl,rfl,rfl⟩:=k
 exact ztD l
theorem k_wy (x:Int):k.p.wrap .u8 x=k.p.yI (k.p.byW x):=by
 obtain ⟨p,m,al,g,gn,gs,gp,gt,ga,bo,rfl,rfl,rfl,rfl,rfl,rfl,rfl,rfl,rfl,rfl⟩:=k
 exact zwI x
end
theorem kb (k:Pk):(∀ (t:TC) (l:List (DD t)) (i:Int),k.p.nth (k.m t l) i=match k.gn l i with|none=>none|some x=>some (eK k.p.yI k.m t x)) ∧
 (∀ (t:TC) (l:List (DD t)) (j:Nat),k.p.rnth (k.p.opn (k.m t l)) j=match k.g l j with|none=>none|some x=>some ((eK k.p.yI k.m t x).map zE)) ∧
 (∀ (t:TC) (l:List (DD t)),k.p.own (k.p.opn (k.m t l))=some (k.m t l)) ∧
 (∀ (t:TC) (n:Nat) (l:List (DD t)),k.p.full 0 n (k.p.opn (k.m t l))=decide (n=k.p.len (k.m t l))) ∧
 (∀ (t:TC) (a b:List (DD t)),k.p.rapp (k.p.opn (k.m t a)) (k.p.opn (k.m t b))=k.p.opn (k.m t (k.ga a b))) ∧
 (∀ (t:TC) (a:List (DD t)),k.p.rapp [] (k.p.opn (k.m t a))=k.p.opn (k.m t a)) ∧
 (∀ (t:TC) (l:List (DD t)),k.p.rlen (k.p.opn (k.m t l))=k.p.len (k.m t l)) ∧
 (∀ (t:TC) (a b:List (DD t)),k.p.addN (k.p.len (k.m t a)) (k.p.len (k.m t b))=k.p.len (k.m t (k.ga a b))) ∧
 (∀ (t:TC) (a:List (DD t)),k.p.addN 0 (k.p.len (k.m t a))=k.p.len (k.m t a)) ∧
 (∀ (t:TC) (l:List (DD t)),k.p.frz (k.p.opn (k.m t l)) 0 (k.p.len (k.m t l))=some (k.m t l)) ∧
 (∀ (t:TC) (l:List (DD t)),k.p.rmov (k.p.opn (k.m t l)) 0 (k.p.len (k.m t l))=some (k.p.opn (k.m t l))) ∧
 (∀ (t:TC) (l:List (DD t)) (j:Nat) (x:DD t),k.p.len (k.m t (k.gt l j x))=k.p.len (k.m t l)) ∧
 (∀ (t:TC) (l:List (DD t)) (lo hi:Option Int),k.p.sub (k.m t l) lo hi=match k.gs l lo hi with|none=>none|some y=>some (k.m t y)) ∧
 (∀ (l:List UInt8),k.p.str (k.m .byt l)=some (k.p.ofB l)) ∧
 (∀ (x:Int),k.p.wrap .u8 x=k.p.yI (k.p.byW x)) :=
 ⟨zAh k,zzI k,zAi k,zzF k,zzG k,zyK k,zvQ k,zzD k,zyE k,zx9 k,zzH k,zrc k,zAk k,zAj k,k_wy k⟩
theorem cS {α β:Type} {x:α} {f:α→Option β} {L:Option β} (h:L=f x):L=(some x).bind f:=h
theorem cS2 {α β γ:Type} {x:α} {f:α→Option β} {k:β→Option γ} {L:Option γ} (h:L=(f x).bind k):L=((some x).bind f).bind k:=h
theorem cZ {α β:Type} {f:α→Option β} {L:Option β} (h:L=none):L=(none:Option α).bind f:=h
theorem cG {α α' β:Type} {C:Option (List Arg)} {o:Option α'} {enc:α'→List Arg} {f:α'→Option α} {q:α→Option β} {L:Option β} (hc:C=o.bind fun r=>some (enc r)) (h0:C=none→L=none) (h1:∀ x,C=some (enc x)→L=(f x).bind q):L=(o.bind f).bind q:=by
 cases o with
 | none=>exact h0 hc
 | some x=>exact h1 x hc
theorem cO2 {α α' α'' β:Type} {o:Option (α'×α'')} {f:α'×α''→Option α} {k:α→Option β} {L:Option β} (h0:o=none→L=none) (h1:∀ x y,o=some (x,y)→L=(f (x,y)).bind k):L=(o.bind f).bind k:=cO h0 fun ⟨x,y⟩ h=>h1 x y h
theorem cG2 {α α' α'' β:Type} {C:Option (List Arg)} {o:Option (α'×α'')} {enc:α'×α''→List Arg} {f:α'×α''→Option α} {q:α→Option β} {L:Option β} (hc:C=o.bind fun r=>some (enc r)) (h0:C=none→L=none) (h1:∀ x y,C=some (enc (x,y))→L=(f (x,y)).bind q):L=(o.bind f).bind q:=cG hc h0 fun ⟨x,y⟩ h=>h1 x y h
theorem cM (k:Pk):∀ (t:TC) (α β:Type) (z:DD t) (a b:Int) (c:Nat) (f:List (DD t)→Option α) (q:α→Option β) (L:Option β),(k.p.mkN a b c=none→L=none)→(∀ l:List (DD t),k.p.mkN a b c=some (k.p.len (k.m t l))→k.p.rep (k.p.len (k.m t l)) ((eK k.p.yI k.m t z).map zE)=k.p.opn (k.m t l)→L=(f l).bind q)→L=((mkSl z a b c).bind f).bind q:=by
 obtain ⟨p,m,al,g,gn,gs,gp,gt,ga,bo,rfl,rfl,rfl,rfl,rfl,rfl,rfl,rfl,rfl,rfl⟩:=k
 intro t α β z a b c f q L h0 h1
 have h:=ztq (eD t) z a b c
 cases hm:mkSl z a b c with
 | none=>exact h0 (by rw [hm] at h;exact h)
 | some l=>exact h1 l (by rw [hm] at h;exact h) (by rw [zgs t z];exact ztv (eD t) z a b c l hm)
theorem cEv {pb:{β:Type}→Nat→Option β→Option β→Option β} (h:@pb=@Prims.both za) {γ:Type} {a b a' b' r:Option γ} (ha:a=a') (hb:b=b') (hr:pb 0 a' b'=r):pb 0 a b=r:=by rw [ha,hb];exact hr
theorem cEq {pb:{β:Type}→Nat→Option β→Option β→Option β} (h:@pb=@Prims.both za) {γ:Type} {a b a' b':Option γ} (ha:a=a') (hb:b=b'):pb 0 a b=pb 0 a' b':=by rw [ha,hb]
theorem cJn {pb:{β:Type}→Nat→Option β→Option β→Option β} (h:@pb=@Prims.both za) {γ:Type} {a r:Option γ} (ha:a=r):pb 0 a a=r:=cFk h ha ha
theorem lp {ι γ α:Type} {al:zgK (List Arg)} (hal:(fun F lv=>zb1 F lv fuel)=al) {F:St→(Ex→St→Option (List Arg))→Option (List Arg)} {lv:List Nat} {K0:Ex→St→Option (List Arg)} {σ:St} {step:ι→Option (ι ⊕ γ)} {x:ι} {f:γ→Option α} {q:α→Option (List Arg)} (u:St→ι→St) (kont:(Ex→St→Option (List Arg))→St→γ→Option (List Arg))
  (h:∀ K:Ex→St→Option (List Arg),(∀ σ,K .ret σ=K0 .ret σ)→∀ x (R:St→Option (List Arg)),F (u (zc0 lv σ) x) (fun e σ'=>match e with|.normal=>R (zc0 lv σ')|.exit j=>K (.exit j) σ'|.ret=>K .ret σ')=(step x).bind fun s=>match s with|.inl y=>R (u (zc0 lv σ) y)|.inr g=>kont K (zc0 lv σ) g)
  (hσ:zc0 lv σ=u (zc0 lv σ) x) (rest:∀ g,kont K0 (zc0 lv σ) g=(f g).bind q):al F lv σ K0=((ze step fuel x).bind f).bind q :=
 (zl0 hal (u (zc0 lv σ)) step (fun K=>kont K (zc0 lv σ)) h x σ hσ).trans (cL rest)
def Nx (T:FuncId→Option FE) (k:Pk) (F F':Fns):Prop:=∀ f fe,T f=some fe→∀ xs,F' f xs=ziR k.p k.al TY F fe xs
theorem zrk (s:Bool):∀ (t:TC) (x:DD t),mapO frz0 ((eD t x).map (zbB s))=some (eD t x):=by intro t x;cases t<;>rfl
theorem zjz {α β:Type} {f:α→Option β}:∀ (a:List α) (a':List β) (x:α) (y:β),mapO f a=some a'→f x=some y→mapO f (a++[x])=some (a'++[y])
 | [],a',x,y,h,hx=>by
  injection h with h
  subst h
  show mapO f [x]=some [y]
  simp only [mapO,hx,Option.map_some]
 | z::a,a',x,y,h,hx=>by
  simp only [mapO] at h
  cases hz:f z with
  | none=>rw [hz] at h;cases h
  | some u =>
   rw [hz] at h
   simp only [Option.map_eq_some_iff] at h
   obtain ⟨b,hb,rfl⟩:=h
   show mapO f (z::(a++[x]))=_
   simp only [mapO,hz,zjz a b x y hb hx,Option.map_some,List.cons_append]
theorem zyT {α:Type} (e:α→List DT) (he:∀ x,mapO frz0 ((e x).map zE)=some (e x)) (lf:DT→Cell) (l:List α) (x:α) (hx:mapO frz0 ((e x).map lf)=some (e x)):za.frz (za.rapp (za.opn (l.map e)) [(e x).map lf]) 0 (za.len ((l++[x]).map e))=some ((l++[x]).map e):=by
 have h:=ziI e he l
 have e1:za.opn (l.map e)=(l.map e).map (·.map zE):=rfl
 have e2:∀ a b,za.rapp a b=a++b:=fun _ _=>rfl
 have e3:∀ a:List (List DT),za.len a=a.length:=fun _=>rfl
 have e4:∀ a i n,za.frz a i n=zeG a i n:=fun _ _ _=>rfl
 rw [e1,e2,e3,e4]
 rw [e1,e3,e4] at h
 unfold zeG at h ⊢
 rw [if_pos (by simp),List.drop_zero,List.take_of_length_le (by simp)] at h
 rw [if_pos (by simp),List.drop_zero,List.take_of_length_le (by simp),List.map_append]
 exact zjz _ _ _ _ h hx
theorem zxj {α:Type} (e:α→List DT) (he:∀ x,mapO frz0 ((e x).map zE)=some (e x)) (cs:List Cell) (l:List α) (x:α) (hx:mapO frz0 cs=some (e x)):za.frz (za.rapp (za.opn (l.map e)) [cs]) 0 (za.len ((l++[x]).map e))=some ((l++[x]).map e):=by
 have h:=ziI e he l
 have e1:za.opn (l.map e)=(l.map e).map (·.map zE):=rfl
 have e2:∀ a b,za.rapp a b=a++b:=fun _ _=>rfl
 have e3:∀ a:List (List DT),za.len a=a.length:=fun _=>rfl
 have e4:∀ a i n,za.frz a i n=zeG a i n:=fun _ _ _=>rfl
 rw [e1,e2,e3,e4]
 rw [e1,e3,e4] at h
 unfold zeG at h ⊢
 rw [if_pos (by simp),List.drop_zero,List.take_of_length_le (by simp)] at h
 rw [if_pos (by simp),List.drop_zero,List.take_of_length_le (by simp),List.map_append]
 exact zjz _ _ _ _ h hx
theorem zyR (s:Bool):∀ (t:TC) (x:DD t),mapO (zdj s) (eD t x)=some ((eD t x).map (zbB s)):=by intro t x;cases t<;>rfl
theorem zrr {α β γ:Type} {f:β→Option γ} {e:α→β} {g:β→γ} (h:∀ x,f (e x)=some (g (e x))):∀ l:List α,mapO f (l.map e)=some ((l.map e).map g)
 | []=>rfl
 | x::l=>by
  simp only [List.map_cons,mapO,h x,zrr h l,Option.map_some]
theorem zle {α β γ:Type} {f:γ→Option β} {e:α→β} {g:β→γ} (h:∀ x,f (g (e x))=some (e x)):∀ l:List α,mapO f ((l.map e).map g)=some (l.map e)
 | []=>rfl
 | x::l=>by
  simp only [List.map_cons,mapO,h x,zle h l,Option.map_some]
section
variable (k:Pk)
theorem zyH (s:Bool) (t:TC) (l:List (DD t)):k.p.lend s (k.m t l)=some (k.b s t l):=by
 obtain ⟨p,m,al,g,gn,gs,gp,gt,ga,bo,rfl,rfl,rfl,rfl,rfl,rfl,rfl,rfl,rfl,rfl⟩:=k
 exact zrr (f:=mapO (zdj s)) (g:=(·.map (zbB s))) (zyR s t) l
theorem zvP (s:Bool) (t:TC) (l:List (DD t)):k.p.frz (k.b s t l) 0 (k.p.len (k.m t l))=some (k.m t l):=by
 obtain ⟨p,m,al,g,gn,gs,gp,gt,ga,bo,rfl,rfl,rfl,rfl,rfl,rfl,rfl,rfl,rfl,rfl⟩:=k
 have h:mapO (mapO frz0) ((l.map (eD t)).map (·.map (zbB s)))=some (l.map (eD t)):=zle (f:=mapO frz0) (g:=(·.map (zbB s))) (zrk s t) l
 show zeG ((l.map (eD t)).map (·.map (zbB s))) 0 (l.map (eD t)).length=some (l.map (eD t))
 unfold zeG
 rw [if_pos (by simp),List.drop_zero,List.take_of_length_le (by simp)]
 exact h
theorem zyG (s:Bool) (t:TC) (n:Nat) (l:List (DD t)):k.p.full 0 n (k.b s t l)=decide (n=k.p.len (k.m t l)):=by
 rw [zup]
 obtain ⟨p,m,al,g,gn,gs,gp,gt,ga,bo,rfl,rfl,rfl,rfl,rfl,rfl,rfl,rfl,rfl,rfl⟩:=k
 show decide (0=0∧n=((l.map (eD t)).map (·.map (zbB s))).length)=decide (n=l.length)
 simp
theorem ztl (s:Bool) (t:TC) (l:List (DD t)):k.p.rlen (k.b s t l)=k.p.len (k.m t l):=by
 rw [zup]
 obtain ⟨p,m,al,g,gn,gs,gp,gt,ga,bo,rfl,rfl,rfl,rfl,rfl,rfl,rfl,rfl,rfl,rfl⟩:=k
 show ((l.map (eD t)).map (·.map (zbB s))).length=l.length
 simp
theorem zyL (s:Bool) (t:TC) (a b:List (DD t)):k.p.rapp (k.b s t a) (k.b s t b)=k.b s t (k.ga a b):=by
 obtain ⟨p,m,al,g,gn,gs,gp,gt,ga,bo,rfl,rfl,rfl,rfl,rfl,rfl,rfl,rfl,rfl,rfl⟩:=k
 show (a.map (eD t)).map (·.map (zbB s))++(b.map (eD t)).map (·.map (zbB s))=((a++b).map (eD t)).map (·.map (zbB s))
 simp
theorem zyM (s:Bool) (t:TC) (l:List (DD t)) (j:Nat):k.p.rnth (k.b s t l) j=match k.g l j with|none=>none|some x=>some ((eK k.p.yI k.m t x).map (zbB s)):=by
 obtain ⟨p,m,al,g,gn,gs,gp,gt,ga,bo,rfl,rfl,rfl,rfl,rfl,rfl,rfl,rfl,rfl,rfl⟩:=k
 show ((l.map (eD t)).map (·.map (zbB s)))[j]?=_
 dsimp only
 rw [List.getElem?_map,List.getElem?_map]
 cases l[j]? with
 | none=>rfl
 | some x=>show some _=some _;rw [zgs t x]
theorem zyN (s:Bool) (t:TC) (l:List (DD t)) (j:Nat) (x:DD t):k.p.rset (k.b s t l) j ((eK k.p.yI k.m t x).map (zbB s))=k.b s t (k.gt l j x):=by
 obtain ⟨p,m,al,g,gn,gs,gp,gt,ga,bo,rfl,rfl,rfl,rfl,rfl,rfl,rfl,rfl,rfl,rfl⟩:=k
 rw [zgs t x]
 show ((l.map (eD t)).map (·.map (zbB s))).set j ((eD t x).map (zbB s))=((l.set j x).map (eD t)).map (·.map (zbB s))
 rw [List.map_set,List.map_set]
theorem zrb (s:Bool) (t:TC) (x:DD t):k.b s t [x]=[(eK k.p.yI k.m t x).map (zbB s)]:=by
 obtain ⟨p,m,al,g,gn,gs,gp,gt,ga,bo,rfl,rfl,rfl,rfl,rfl,rfl,rfl,rfl,rfl,rfl⟩:=k
 rw [zgs t x]
 rfl
theorem zxb (s:Bool) (t:TC) (A:List (List Cell)) (x:DD t):k.p.rapp A [(eK k.p.yI k.m t x).map (zbB s)]=k.p.rapp A (k.b s t [x]):=by rw [zrb]
theorem zxc (s:Bool) (t:TC) (x:DD t):k.p.rlen [(eK k.p.yI k.m t x).map (zbB s)]=k.p.len (k.m t [x]):=by rw [← zrb,ztl]
theorem zyJ (s:Bool) (t:TC) (l:List (DD t)) (x:DD t):k.p.frz (k.p.rapp (k.p.opn (k.m t l)) (k.b s t [x])) 0 (k.p.len (k.m t (k.ga l [x])))=some (k.m t (k.ga l [x])):=by
 rw [zrb]
 obtain ⟨p,m,al,g,gn,gs,gp,gt,ga,bo,rfl,rfl,rfl,rfl,rfl,rfl,rfl,rfl,rfl,rfl⟩:=k
 rw [zgs t x]
 exact zyT (eD t) (zjZ t) (zbB s) l x (zrk s t x)
theorem zyI (s:Bool) (t:TC) (l:List (DD t)) (x:DD t):k.p.frz (k.p.rapp (k.b s t l) (k.p.opn (k.m t [x]))) 0 (k.p.len (k.m t (k.ga l [x])))=some (k.m t (k.ga l [x])):=by
 rw [zuq]
 obtain ⟨p,m,al,g,gn,gs,gp,gt,ga,bo,rfl,rfl,rfl,rfl,rfl,rfl,rfl,rfl,rfl,rfl⟩:=k
 rw [zgs t x]
 have h:mapO (mapO frz0) ((l.map (eD t)).map (·.map (zbB s)))=some (l.map (eD t)):=zle (f:=mapO frz0) (g:=(·.map (zbB s))) (zrk s t) l
 show zeG ((l.map (eD t)).map (·.map (zbB s))++[(eD t x).map zE]) 0 ((l++[x]).map (eD t)).length=some ((l++[x]).map (eD t))
 unfold zeG
 rw [if_pos (by simp),List.drop_zero,List.take_of_length_le (by simp),List.map_append]
 exact zjz _ _ _ _ h (zjZ t x)
end
theorem zyF (k:Pk) (s:Bool) (t:TC) (l:List (DD t)) (j:Nat) (x:DD t):k.p.frz (k.b s t (k.gt l j x)) 0 (k.p.len (k.m t l))=some (k.m t (k.gt l j x)):=by rw [← zrc k t l j x];exact zvP k s t _
theorem zzE (k:Pk) (t:TC) (l:List (DD t)) (j:Nat) (x:DD t):k.p.frz (k.p.opn (k.m t (k.gt l j x))) 0 (k.p.len (k.m t l))=some (k.m t (k.gt l j x)):=by rw [← zrc k t l j x];exact zx9 k t _
theorem kbB (k:Pk):(∀ (s:Bool) (t:TC) (l:List (DD t)) (j:Nat) (x:DD t),k.p.frz (k.b s t (k.gt l j x)) 0 (k.p.len (k.m t l))=some (k.m t (k.gt l j x))) ∧
 (∀ (t:TC) (l:List (DD t)) (j:Nat) (x:DD t),k.p.frz (k.p.opn (k.m t (k.gt l j x))) 0 (k.p.len (k.m t l))=some (k.m t (k.gt l j x))) ∧
 (∀ (s:Bool) (t:TC) (l:List (DD t)),k.p.frz (k.b s t l) 0 (k.p.len (k.m t l))=some (k.m t l)) ∧
 (∀ (s:Bool) (t:TC) (n:Nat) (l:List (DD t)),k.p.full 0 n (k.b s t l)=decide (n=k.p.len (k.m t l))) ∧
 (∀ (s:Bool) (t:TC) (l:List (DD t)),k.p.rlen (k.b s t l)=k.p.len (k.m t l)) ∧
 (∀ (s:Bool) (t:TC) (a b:List (DD t)),k.p.rapp (k.b s t a) (k.b s t b)=k.b s t (k.ga a b)) ∧
 (∀ (s:Bool) (t:TC) (l:List (DD t)) (j:Nat),k.p.rnth (k.b s t l) j=match k.g l j with|none=>none|some x=>some ((eK k.p.yI k.m t x).map (zbB s))) ∧
 (∀ (s:Bool) (t:TC) (l:List (DD t)) (x:DD t),k.p.frz (k.p.rapp (k.p.opn (k.m t l)) (k.b s t [x])) 0 (k.p.len (k.m t (k.ga l [x])))=some (k.m t (k.ga l [x]))) ∧
 (∀ (s:Bool) (t:TC) (l:List (DD t)) (x:DD t),k.p.frz (k.p.rapp (k.b s t l) (k.p.opn (k.m t [x]))) 0 (k.p.len (k.m t (k.ga l [x])))=some (k.m t (k.ga l [x]))) :=
 ⟨zyF k,zzE k,zvP k,zyG k,ztl k,zyL k,zyM k,zyJ k,zyI k⟩
theorem kEB (k:Pk):(∀ (s:Bool) (t:TC),k.b s t []=[])∧∀ (s:Bool) (t:TC) (x:DD t) (l:List (DD t)),k.b s t (x::l)=(eK k.p.yI k.m t x).map (zbB s)::k.b s t l:=by
 obtain ⟨p,m,al,g,gn,gs,gp,gt,ga,bo,rfl,rfl,rfl,rfl,rfl,rfl,rfl,rfl,rfl,rfl⟩:=k
 exact ⟨fun s t=>rfl,fun s t x l=>by rw [zgs t x];rfl⟩
def Nx2 (T:FuncId→Option FE) (k:Pk) (F F':Fns):Prop:=∀ f fe,T f=some fe→spcB f=true→∀ xs,F' (f+mutK) xs=ziv k.p k.al TY F f fe xs
section
variable {T:FuncId→Option FE} {k:Pk} {F F':Fns} (n:Nx2 T k F F') {f:Nat} {fe:FE} {e:Nat} {α:Type} {o:Option α} {xs:List Arg}
include n
theorem kC (hT:T f=some fe) (h0:spcB f=true) (h1:newE f=none) (h2:curE f=some e) (h4:borIds.contains f=false) (h5:parIds.contains f=false) (h3:shrIds.contains f=false) {ds:α→List DT} {rs:α→List Arg} (h:zhh k.p k.al TY F fe e false xs=o.bind fun r=>some (.v (.ptr (ds r))::rs r)):F' (f+mutK) xs=o.bind fun r=>some (.v (.ptr (ds r))::rs r):=by
 rw [n f fe hT h0 xs]
 unfold ziv
 simp only [h1,h2,h3,h4,h5]
 rw [h]
 cases o<;>rfl
theorem kW (hT:T f=some fe) (h0:spcB f=true) (h1:newE f=none) (h2:curE f=some e) (h4:borIds.contains f=false) (h5:parIds.contains f=false) (h3:shrIds.contains f=true) {ds:α→List DT} {rs:α→List Arg} (h:zhh k.p k.al TY F fe e true xs=o.bind fun r=>some (.v (.fn 0 [])::.v (.ptr (ds r))::rs r)):F' (f+mutK) xs=o.bind fun r=>some (.v (.fn 0 [])::.v (.ptr (ds r))::rs r):=by
 rw [n f fe hT h0 xs]
 unfold ziv
 simp only [h1,h2,h3,h4,h5]
 rw [h]
 cases o<;>rfl
theorem kN (hT:T f=some fe) (h0:spcB f=true) (h1:newE f=some e) {ds:α→List DT} {rs:α→List Arg} (h:zoD k.p k.al TY F fe e xs=o.bind fun r=>some (.v (.fn 2 [])::.v (.ptr (ds r))::rs r)):F' (f+mutK) xs=o.bind fun r=>some (.v (.fn 2 [])::.v (.ptr (ds r))::rs r):=by
 rw [n f fe hT h0 xs]
 unfold ziv
 simp only [h1]
 rw [h]
 cases o<;>rfl
theorem kS (hT:T f=some fe) (h0:spcB f=true) (h1:newE f=none) (h2:curE f=none) {rs:α→List Arg} (h:zoE k.p k.al TY F fe xs=o.bind fun r=>some (.v (.fn 1 [])::rs r)):F' (f+mutK) xs=o.bind fun r=>some (.v (.fn 1 [])::rs r):=by
 rw [n f fe hT h0 xs]
 unfold ziv
 simp only [h1,h2]
 rw [h]
 cases o<;>rfl
end
end
end Go.Proofs.YtifkepnfaggkiaaGreatDoor
