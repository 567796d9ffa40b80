import Derived.Test.YtflhdodikmmdcaaGreatSt
namespace Go.Proofs.YtflhdodikmmdcaaGreat
open Go.RowKit
set_option linter.unusedVariables false
set_option linter.unusedSimpArgs false
set_option maxRecDepth 100000
noncomputable section
inductive TC where
 | int
 | str
 | byt
 | bool
 | c4
 | c5
 | c6
 | c7
 | c8
 | c9
 | c10
 | c11
 | c12
 | c13
 | c14
 | c15
 | c16
@[reducible] def DD:TC→Type
 | .int=>Int
 | .str=>ByteArray
 | .byt=>UInt8
 | .bool=>Bool
 | .c4=>(List ByteArray)
 | .c5=>zp
 | .c6=>zi
 | .c7=>zk
 | .c8=>zf
 | .c9=>zb
 | .c10=>zg
 | .c11=>zh
 | .c12=>zc
 | .c13=>zq
 | .c14=>ze
 | .c15=>zD
 | .c16=>zax
def eD:(t:TC)→DD t→List DT
 | .int,x=>eI x
 | .str,x=>eS x
 | .byt,x=>eY x
 | .bool,x=>eB x
 | .c4,x=>zBf x
 | .c5,x=>zan x
 | .c6,x=>zo x
 | .c7,x=>zi1 x
 | .c8,x=>zl x
 | .c9,x=>zj x
 | .c10,x=>zu x
 | .c11,x=>zr x
 | .c12,x=>zv x
 | .c13,x=>zkd x
 | .c14,x=>zF x
 | .c15,x=>za1 x
 | .c16,x=>zwq x
def eK (yI:UInt8→Int) (m:(t:TC)→List (DD t)→List (List DT)):(t:TC)→DD t→List DT
 | .int,x=>[.at (.int .i64 x)]
 | .str,x=>[.at (.string x)]
 | .byt,x=>[.at (.int .u8 (yI x))]
 | .bool,x=>[.at (.bool x)]
 | .c4,x=>[.sl 9 1 (m .str x)]
 | .c5,x=>[.sl 9 1 (m .str x.name),.sl 5 1 (m .byt x.content),.sl 9 1 (m .str x.keyName),.at (.int .i64 x.freshUntil),.at (.int .i64 x.signature)]
 | .c6,x=>[.sl 9 1 (m .str x.data.name),.sl 5 1 (m .byt x.data.content),.sl 9 1 (m .str x.data.keyName),.at (.int .i64 x.data.freshUntil),.at (.int .i64 x.data.signature),.at (.int .i64 x.lastUsed)]
 | .c7,x=>[.at (.int .i64 x.capacity),.sl 176 6 (m .c6 x.entries)]
 | .c8,x=>[.at (.int .i64 x.face),.at (.int .i64 x.nonce),.at (.int .i64 x.expiry)]
 | .c9,x=>[.sl 9 1 (m .str x.name),.sl 180 3 (m .c8 x.requesters),.at (.int .i64 x.lastSent)]
 | .c10,x=>[.sl 9 1 (m .str x.name),.at (.int .i64 x.nonce)]
 | .c11,x=>[.sl 9 1 (m .str x.pfx),.at (.int .i64 x.face),.at (.int .i64 x.cost)]
 | .c12,x=>[.sl 9 1 (m .str x.pfx),.at (.int .i64 x.face),.at (.int .i64 x.failures)]
 | .c13,x=>[.sl 125 5 (m .c5 x.locals),.at (.int .i64 x.cache.capacity),.sl 176 6 (m .c6 x.cache.entries),.sl 147 3 (m .c9 x.pending),.sl 150 2 (m .c10 x.seen),.sl 153 3 (m .c11 x.routes),.sl 156 3 (m .c12 x.measurements),.at (.int .i64 x.dropped)]
 | .c14,x=>[.sl 9 1 (m .str x.name),.at (.int .i64 x.nonce),.at (.int .i64 x.hopLimit),.at (.int .i64 x.lifetime)]
 | .c15,x=>[.at (.int .i64 x.face),.at (.bool x.isInterest),.sl 9 1 (m .str x.interest.name),.at (.int .i64 x.interest.nonce),.at (.int .i64 x.interest.hopLimit),.at (.int .i64 x.interest.lifetime),.sl 9 1 (m .str x.data.name),.sl 5 1 (m .byt x.data.content),.sl 9 1 (m .str x.data.keyName),.at (.int .i64 x.data.freshUntil),.at (.int .i64 x.data.signature)]
 | .c16,x=>[.sl 125 5 (m .c5 x.node.locals),.at (.int .i64 x.node.cache.capacity),.sl 176 6 (m .c6 x.node.cache.entries),.sl 147 3 (m .c9 x.node.pending),.sl 150 2 (m .c10 x.node.seen),.sl 153 3 (m .c11 x.node.routes),.sl 156 3 (m .c12 x.node.measurements),.at (.int .i64 x.node.dropped),.sl 129 11 (m .c15 x.outgoing)]
def te:TC→Nat
 | .int=>3
 | .str=>9
 | .byt=>5
 | .bool=>4
 | .c4=>71
 | .c5=>125
 | .c6=>176
 | .c7=>38
 | .c8=>180
 | .c9=>147
 | .c10=>150
 | .c11=>153
 | .c12=>156
 | .c13=>44
 | .c14=>73
 | .c15=>129
 | .c16=>69
def tk:TC→Nat
 | .int=>1
 | .str=>1
 | .byt=>1
 | .bool=>1
 | .c4=>1
 | .c5=>5
 | .c6=>6
 | .c7=>2
 | .c8=>3
 | .c9=>3
 | .c10=>2
 | .c11=>3
 | .c12=>3
 | .c13=>8
 | .c14=>4
 | .c15=>11
 | .c16=>9
end
end Go.Proofs.YtflhdodikmmdcaaGreat
namespace Go.Proofs.YtflhdodikmmdcaaGreat
open Go.RowKit
set_option linter.unusedVariables false
set_option linter.unusedSimpArgs false
set_option linter.unusedSectionVars false
noncomputable section
def mp (t:TC) (l:List (DD t)):List (List DT):=l.map (eD t)
def zbT (s:Bool):DT→Cell
 | .at v=>.at v
 | .sl e k l=>.rd s e k l
 | _=>.dead
structure Pk where
 p:Prims
 m:(t:TC)→List (DD t)→List (List DT)
 al:zjw (List Arg)
 g:{α:Type}→List α→Nat→Option α
 gn:{α:Type}→List α→Int→Option α
 gs:{α:Type}→List α→Option Int→Option Int→Option (List α)
 gp:{α:Type}→List α→Nat→Nat→Option (List α)
 gt:{α:Type}→List α→Nat→α→List α
 ga:{α:Type}→List α→List α→List α
 b:Bool→(t:TC)→List (DD t)→List (List Cell)
 hp:p=za
 hm:m=mp
 hal:(fun F lv=>zdb F lv fuel)=al
 hg:@g=fun {α} (l:List α) (j:Nat)=>l[j]?
 hgn:@gn=fun {α} (l:List α) (i:Int)=>nthI l i
 hgs:@gs=fun {α} (l:List α) (a b:Option Int)=>subI l a b
 hgp:@gp=fun {α} (l:List α) (a b:Nat)=>zdQ l a b
 hgt:@gt=fun {α} (l:List α) (j:Nat) (x:α)=>l.set j x
 hga:@ga=fun {α} (a b:List α)=>a++b
 hb:b=fun s t l=>(mp t l).map (·.map (zbT s))
def pk0:Pk:=⟨za,mp,alp,fun l j=>l[j]?,fun l i=>nthI l i,fun l a b=>subI l a b,fun l a b=>zdQ l a b,fun l j x=>l.set j x,fun a b=>a++b,fun s t l=>(mp t l).map (·.map (zbT s)),rfl,rfl,rfl,rfl,rfl,rfl,rfl,rfl,rfl,rfl⟩
def lf (l:List (Nat×List Nat)) (i:Nat):List Nat:=match l with
 | []=>[]
 | (j,x)::l=>if i=j then x else lf l i
def gF (f:Func) (l:List (Nat×List Nat)):FE:=⟨f,f.body.getD .skip,lf l⟩
def vl (k:Pk) (t:TC) (l:List (DD t)):Arg:=.v (.sl (te t) (tk t) (k.m t l))
def va (k:Pk) (t:TC) (x:DD t):Arg:=.a (eK k.p.yI k.m t x)
def vi (n:Int):Arg:=.v (.at (.int .i64 n))
def vb (b:Bool):Arg:=.v (.at (.bool b))
def vs (s:ByteArray):Arg:=.v (.at (.string s))
def setT:List PV→List (Nat×PV)→List PV
 | l,[]=>l
 | l,(i,x)::r=>setT (l.set i x) r
def up (c:St) (l:List (Nat×PV)) (hp:List (Nm×Bk)):St:=⟨setT c.tm l,hp,1⟩
def sp (n:Nat) (l:List (Nat×PV)) (hp:List (Nm×Bk)):St:=⟨setT (List.replicate n dd) l,hp,1⟩
def tq (c:St) (i:Nat):PV:=c.tm.getD i dd
def cellOf (p:PV):Cell:=match p with
 | .c x=>x
 | _=>.dead
def td (c:St) (i j:Nat):DT:=match tq c i with
 | .c (.bp _ l _)=>l.getD j (.ptr [])
 | _=>.ptr []
def bq (c:St) (n:Nat):Bk:=(look c.hp (0,0,n)).getD ⟨false,false,0,0,[]⟩
def bc (c:St) (n j:Nat):Cell:=((bq c n).el.getD 0 []).getD j .dead
def rn (x:Cell) (n:Nat):Cell:=match x with
 | .row _ e k off m=>.row (0,0,n) e k off m
 | .ptr _ k i off=>.ptr (0,0,n) k i off
 | x=>x
def ci (n:Int):PV:=.c (.at (.int .i64 n))
def cb (b:Bool):PV:=.c (.at (.bool b))
def rw0 (ln:List (List DT)→Nat) (m:(t:TC)→List (DD t)→List (List DT)) (n:Nat) (t:TC) (l:List (DD t)):Cell:=.row (0,0,n) (te t) (tk t) 0 (ln (m t l))
def rb (op:List (List DT)→List (List Cell)) (m:(t:TC)→List (DD t)→List (List DT)) (n:Nat) (t:TC) (l:List (DD t)):Nm×Bk:=((0,0,n),⟨true,false,te t,tk t,op (m t l)⟩)
theorem ziu:∀ (t:TC) (x:DD t),eK za.yI mp t x=eD t x:=by intro t x;cases t<;>rfl
theorem zCL:∀ (t:TC) (x:DD t),mapO own0 ((eD t x).map zab)=some (eD t x):=by intro t x;cases t<;>rfl
theorem zzg:∀ (t:TC) (x:DD t),mapO zki ((eD t x).map zab)=some ((eD t x).map zab):=by intro t x;cases t<;>rfl
theorem zqs:∀ (t:TC) (x:DD t),mapO frz0 ((eD t x).map zab)=some (eD t x):=by intro t x;cases t<;>rfl
section
variable (k:Pk)
theorem zDm (t:TC) (l:List (DD t)) (i:Int):k.p.nth (k.m t l) i=match k.gn l i with|none=>none|some x=>some (eK k.p.yI k.m t x):=by
 obtain ⟨p,m,al,g,gn,gs,gp,gt,ga,bo,rfl,rfl,rfl,rfl,rfl,rfl,rfl,rfl,rfl,rfl⟩:=k
 refine (zB9 (eD t) l i).trans ?_
 dsimp only
 cases nthI l i with
 | none=>rfl
 | some x=>exact yZ some (ziu t x).symm
theorem zCH (t:TC) (l:List (DD t)) (j:Nat):k.p.rnth (k.p.opn (k.m t l)) j=match k.g l j with|none=>none|some x=>some ((eK k.p.yI k.m t x).map zab):=by
 obtain ⟨p,m,al,g,gn,gs,gp,gt,ga,bo,rfl,rfl,rfl,rfl,rfl,rfl,rfl,rfl,rfl,rfl⟩:=k
 refine (zvc (eD t) l j).trans ?_
 dsimp only
 cases l[j]? with
 | none=>rfl
 | some x=>show some _=some _;rw [ziu t x]
theorem zDn (t:TC) (l:List (DD t)):k.p.own (k.p.opn (k.m t l))=some (k.m t l):=by
 obtain ⟨p,m,al,g,gn,gs,gp,gt,ga,bo,rfl,rfl,rfl,rfl,rfl,rfl,rfl,rfl,rfl,rfl⟩:=k
 exact zf2 (eD t) (zCL t) l
theorem zxv (t:TC) (l:List (DD t)):k.p.len (k.m t l)=l.length:=by
 obtain ⟨p,m,al,g,gn,gs,gp,gt,ga,bo,rfl,rfl,rfl,rfl,rfl,rfl,rfl,rfl,rfl,rfl⟩:=k
 exact zf1 (eD t) l
theorem zCE (t:TC) (n:Nat) (l:List (DD t)):k.p.full 0 n (k.p.opn (k.m t l))=decide (n=k.p.len (k.m t l)):=by
 rw [zxv]
 obtain ⟨p,m,al,g,gn,gs,gp,gt,ga,bo,rfl,rfl,rfl,rfl,rfl,rfl,rfl,rfl,rfl,rfl⟩:=k
 have h:(za.opn (l.map (eD t))).length=l.length:=zkT (eD t) l
 show decide (0=0∧n=(za.opn (l.map (eD t))).length)=decide (n=l.length)
 simp only [h,yu]
theorem zuk (t:TC) (a b:List (DD t)):k.p.rapp (k.p.opn (k.m t a)) (k.p.opn (k.m t b))=k.p.opn (k.m t (k.ga a b)):=by
 obtain ⟨p,m,al,g,gn,gs,gp,gt,ga,bo,rfl,rfl,rfl,rfl,rfl,rfl,rfl,rfl,rfl,rfl⟩:=k
 exact zAO (eD t) a b
theorem zBW (t:TC) (a:List (DD t)):k.p.rapp [] (k.p.opn (k.m t a))=k.p.opn (k.m t a):=by
 obtain ⟨p,m,al,g,gn,gs,gp,gt,ga,bo,rfl,rfl,rfl,rfl,rfl,rfl,rfl,rfl,rfl,rfl⟩:=k
 rfl
theorem zy9 (t:TC) (l:List (DD t)):k.p.rlen (k.p.opn (k.m t l))=k.p.len (k.m t l):=by
 obtain ⟨p,m,al,g,gn,gs,gp,gt,ga,bo,rfl,rfl,rfl,rfl,rfl,rfl,rfl,rfl,rfl,rfl⟩:=k
 exact zmz (eD t) l
theorem zuh (t:TC) (a b:List (DD t)):k.p.addN (k.p.len (k.m t a)) (k.p.len (k.m t b))=k.p.len (k.m t (k.ga a b)):=by
 have h:=zAb (eD t) a b
 rw [zmz] at h
 obtain ⟨p,m,al,g,gn,gs,gp,gt,ga,bo,rfl,rfl,rfl,rfl,rfl,rfl,rfl,rfl,rfl,rfl⟩:=k
 exact h
theorem zBO (t:TC) (a:List (DD t)):k.p.addN 0 (k.p.len (k.m t a))=k.p.len (k.m t a):=by
 obtain ⟨p,m,al,g,gn,gs,gp,gt,ga,bo,rfl,rfl,rfl,rfl,rfl,rfl,rfl,rfl,rfl,rfl⟩:=k
 exact yaq _
theorem zBh (t:TC) (l:List (DD t)):k.p.frz (k.p.opn (k.m t l)) 0 (k.p.len (k.m t l))=some (k.m t l):=by
 obtain ⟨p,m,al,g,gn,gs,gp,gt,ga,bo,rfl,rfl,rfl,rfl,rfl,rfl,rfl,rfl,rfl,rfl⟩:=k
 exact zix (eD t) (zqs t) l
theorem zc6 (t:TC) (l:List (DD t)) (i n:Nat):k.p.frz (k.p.opn (k.m t l)) i n=match k.gp l i n with|none=>none|some y=>some (k.m t y):=by
 obtain ⟨p,m,al,g,gn,gs,gp,gt,ga,bo,rfl,rfl,rfl,rfl,rfl,rfl,rfl,rfl,rfl,rfl⟩:=k
 refine (zud (eD t) (zqs t) l i n).trans ?_
 dsimp only
 cases zdQ l i n<;>rfl
theorem zCG (t:TC) (l:List (DD t)):k.p.rmov (k.p.opn (k.m t l)) 0 (k.p.len (k.m t l))=some (k.p.opn (k.m t l)):=by
 obtain ⟨p,m,al,g,gn,gs,gp,gt,ga,bo,rfl,rfl,rfl,rfl,rfl,rfl,rfl,rfl,rfl,rfl⟩:=k
 exact zAS (eD t) (zzg t) l
theorem zb8 (t:TC) (l:List (DD t)) (i n:Nat):k.p.rmov (k.p.opn (k.m t l)) i n=match k.gp l i n with|none=>none|some y=>some (k.p.opn (k.m t y)):=by
 obtain ⟨p,m,al,g,gn,gs,gp,gt,ga,bo,rfl,rfl,rfl,rfl,rfl,rfl,rfl,rfl,rfl,rfl⟩:=k
 refine (zsO (eD t) (zzg t) l i n).trans ?_
 dsimp only
 cases zdQ l i n<;>rfl
theorem zh8 (t:TC) (l:List (DD t)) (j:Nat) (x:DD t):k.p.rset (k.p.opn (k.m t l)) j ((eK k.p.yI k.m t x).map zab)=k.p.opn (k.m t (k.gt l j x)):=by
 obtain ⟨p,m,al,g,gn,gs,gp,gt,ga,bo,rfl,rfl,rfl,rfl,rfl,rfl,rfl,rfl,rfl,rfl⟩:=k
 rw [ziu t x]
 exact zvd (eD t) l j x
theorem zuj (t:TC) (l:List (DD t)) (j:Nat) (x:DD t):k.p.len (k.m t (k.gt l j x))=k.p.len (k.m t l):=by
 obtain ⟨p,m,al,g,gn,gs,gp,gt,ga,bo,rfl,rfl,rfl,rfl,rfl,rfl,rfl,rfl,rfl,rfl⟩:=k
 exact zux (eD t) l j x
theorem zDp (t:TC) (l:List (DD t)) (lo hi:Option Int):k.p.sub (k.m t l) lo hi=match k.gs l lo hi with|none=>none|some y=>some (k.m t y):=by
 obtain ⟨p,m,al,g,gn,gs,gp,gt,ga,bo,rfl,rfl,rfl,rfl,rfl,rfl,rfl,rfl,rfl,rfl⟩:=k
 refine (zCq (eD t) l lo hi).trans ?_
 dsimp only
 cases subI l lo hi<;>rfl
theorem zxw (t:TC) (x:DD t):k.p.opn (k.m t [x])=[(eK k.p.yI k.m t x).map zab]:=by
 obtain ⟨p,m,al,g,gn,gs,gp,gt,ga,bo,rfl,rfl,rfl,rfl,rfl,rfl,rfl,rfl,rfl,rfl⟩:=k
 rw [ziu t x]
 rfl
theorem zg4 (t:TC) (A:List (List Cell)) (x:DD t):k.p.rapp A [(eK k.p.yI k.m t x).map zab]=k.p.rapp A (k.p.opn (k.m t [x])):=by rw [zxw]
theorem zg5 (t:TC) (x:DD t):k.p.rlen [(eK k.p.yI k.m t x).map zab]=k.p.len (k.m t [x]):=by rw [← zxw,zy9]
theorem mc:(∀ (t:TC) (x:DD t) (l:List (DD t)),k.m t (x::l)=eK k.p.yI k.m t x::k.m t l)∧(∀ t:TC,k.m t []=[])∧k.p.yI 0=0∧k.p.opn []=[]∧k.p.len []=0:=by
 obtain ⟨p,m,al,g,gn,gs,gp,gt,ga,bo,rfl,rfl,rfl,rfl,rfl,rfl,rfl,rfl,rfl,rfl⟩:=k
 exact ⟨fun t x l=>by rw [ziu t x];rfl,fun t=>rfl,rfl,rfl,rfl⟩
theorem e1:(∀ t:TC,k.p.opn (k.m t [])=[])∧(∀ t:TC,k.p.len (k.m t [])=0)∧(∀ (t:TC) (x:DD t) (l:List (DD t)),k.p.opn (k.m t (x::l))=(eK k.p.yI k.m t x).map zab::k.p.opn (k.m t l))∧∀ (t:TC) (x:DD t) (l:List (DD t)),k.p.len (k.m t (x::l))=k.p.len (k.m t l)+1:=by
 obtain ⟨p,m,al,g,gn,gs,gp,gt,ga,bo,rfl,rfl,rfl,rfl,rfl,rfl,rfl,rfl,rfl,rfl⟩:=k
 exact ⟨fun t=>rfl,fun t=>rfl,fun t x l=>by rw [ziu t x];rfl,fun t x l=>rfl⟩
theorem zDo (l:List UInt8):k.p.str (k.m .byt l)=some (k.p.ofB l):=by
 obtain ⟨p,m,al,g,gn,gs,gp,gt,ga,bo,rfl,rfl,rfl,rfl,rfl,rfl,rfl,rfl,rfl,rfl⟩:=k
 exact zwI l
theorem k_wy (x:Int):k.p.wrap .u8 x=k.p.yI (k.p.byW x):=by
 obtain ⟨p,m,al,g,gn,gs,gp,gt,ga,bo,rfl,rfl,rfl,rfl,rfl,rfl,rfl,rfl,rfl,rfl⟩:=k
 exact zz5 x
end
theorem kb (k:Pk):(∀ (t:TC) (l:List (DD t)) (i:Int),k.p.nth (k.m t l) i=match k.gn l i with|none=>none|some x=>some (eK k.p.yI k.m t x)) ∧
 (∀ (t:TC) (l:List (DD t)) (j:Nat),k.p.rnth (k.p.opn (k.m t l)) j=match k.g l j with|none=>none|some x=>some ((eK k.p.yI k.m t x).map zab)) ∧
 (∀ (t:TC) (l:List (DD t)),k.p.own (k.p.opn (k.m t l))=some (k.m t l)) ∧
 (∀ (t:TC) (n:Nat) (l:List (DD t)),k.p.full 0 n (k.p.opn (k.m t l))=decide (n=k.p.len (k.m t l))) ∧
 (∀ (t:TC) (a b:List (DD t)),k.p.rapp (k.p.opn (k.m t a)) (k.p.opn (k.m t b))=k.p.opn (k.m t (k.ga a b))) ∧
 (∀ (t:TC) (a:List (DD t)),k.p.rapp [] (k.p.opn (k.m t a))=k.p.opn (k.m t a)) ∧
 (∀ (t:TC) (l:List (DD t)),k.p.rlen (k.p.opn (k.m t l))=k.p.len (k.m t l)) ∧
 (∀ (t:TC) (a b:List (DD t)),k.p.addN (k.p.len (k.m t a)) (k.p.len (k.m t b))=k.p.len (k.m t (k.ga a b))) ∧
 (∀ (t:TC) (a:List (DD t)),k.p.addN 0 (k.p.len (k.m t a))=k.p.len (k.m t a)) ∧
 (∀ (t:TC) (l:List (DD t)),k.p.frz (k.p.opn (k.m t l)) 0 (k.p.len (k.m t l))=some (k.m t l)) ∧
 (∀ (t:TC) (l:List (DD t)),k.p.rmov (k.p.opn (k.m t l)) 0 (k.p.len (k.m t l))=some (k.p.opn (k.m t l))) ∧
 (∀ (t:TC) (l:List (DD t)) (j:Nat) (x:DD t),k.p.len (k.m t (k.gt l j x))=k.p.len (k.m t l)) ∧
 (∀ (t:TC) (l:List (DD t)) (lo hi:Option Int),k.p.sub (k.m t l) lo hi=match k.gs l lo hi with|none=>none|some y=>some (k.m t y)) ∧
 (∀ (l:List UInt8),k.p.str (k.m .byt l)=some (k.p.ofB l)) ∧
 (∀ (x:Int),k.p.wrap .u8 x=k.p.yI (k.p.byW x)) :=
 ⟨zDm k,zCH k,zDn k,zCE k,zuk k,zBW k,zy9 k,zuh k,zBO k,zBh k,zCG k,zuj k,zDp k,zDo k,k_wy k⟩
theorem cS {α β:Type} {x:α} {f:α→Option β} {L:Option β} (h:L=f x):L=(some x).bind f:=h
theorem cS2 {α β γ:Type} {x:α} {f:α→Option β} {k:β→Option γ} {L:Option γ} (h:L=(f x).bind k):L=((some x).bind f).bind k:=h
theorem cQ {p:Prop} [Decidable p] {α β:Type} {A B:Option α} {q:α→Option β} {L:Option β} (h1:p→L=A.bind q) (h0:¬ p→L=B.bind q):L=(bif decide p then A else B).bind q:=by
 by_cases hp:p
 ·rw [ym hp];exact h1 hp
 ·rw [yo hp];exact h0 hp
theorem cZ {α β:Type} {f:α→Option β} {L:Option β} (h:L=none):L=(none:Option α).bind f:=h
theorem cG {α α' β:Type} {C:Option (List Arg)} {o:Option α'} {enc:α'→List Arg} {f:α'→Option α} {q:α→Option β} {L:Option β} (hc:C=o.bind fun r=>some (enc r)) (h0:C=none→L=none) (h1:∀ x,C=some (enc x)→L=(f x).bind q):L=(o.bind f).bind q:=by
 cases o with
 | none=>exact h0 hc
 | some x=>exact h1 x hc
theorem cO2 {α α' α'' β:Type} {o:Option (α'×α'')} {f:α'×α''→Option α} {k:α→Option β} {L:Option β} (h0:o=none→L=none) (h1:∀ x y,o=some (x,y)→L=(f (x,y)).bind k):L=(o.bind f).bind k:=cO h0 fun ⟨x,y⟩ h=>h1 x y h
theorem cG2 {α α' α'' β:Type} {C:Option (List Arg)} {o:Option (α'×α'')} {enc:α'×α''→List Arg} {f:α'×α''→Option α} {q:α→Option β} {L:Option β} (hc:C=o.bind fun r=>some (enc r)) (h0:C=none→L=none) (h1:∀ x y,C=some (enc (x,y))→L=(f (x,y)).bind q):L=(o.bind f).bind q:=cG hc h0 fun ⟨x,y⟩ h=>h1 x y h
theorem cM (k:Pk):∀ (t:TC) (α β:Type) (z:DD t) (a b:Int) (c:Nat) (f:List (DD t)→Option α) (q:α→Option β) (L:Option β),(k.p.mkN a b c=none→L=none)→(∀ l:List (DD t),k.p.mkN a b c=some (k.p.len (k.m t l))→k.p.rep (k.p.len (k.m t l)) ((eK k.p.yI k.m t z).map zab)=k.p.opn (k.m t l)→L=(f l).bind q)→L=((mkSl z a b c).bind f).bind q:=by
 obtain ⟨p,m,al,g,gn,gs,gp,gt,ga,bo,rfl,rfl,rfl,rfl,rfl,rfl,rfl,rfl,rfl,rfl⟩:=k
 intro t α β z a b c f q L h0 h1
 have h:=zB4 (eD t) z a b c
 cases hm:mkSl z a b c with
 | none=>exact h0 (by rw [hm] at h;exact h)
 | some l=>exact h1 l (by rw [hm] at h;exact h) (by rw [ziu t z];exact zCl (eD t) z a b c l hm)
theorem lp {ι γ α:Type} {al:zjw (List Arg)} (hal:(fun F lv=>zdb F lv fuel)=al) {F:St→(Ex→St→Option (List Arg))→Option (List Arg)} {lv:List Nat} {K0:Ex→St→Option (List Arg)} {σ:St} {step:ι→Option (ι ⊕ γ)} {x:ι} {f:γ→Option α} {q:α→Option (List Arg)} (u:St→ι→St) (kont:(Ex→St→Option (List Arg))→St→γ→Option (List Arg))
  (h:∀ K:Ex→St→Option (List Arg),(∀ σ,K .ret σ=K0 .ret σ)→∀ x (R:St→Option (List Arg)),F (u (zek lv σ) x) (fun e σ'=>match e with|.normal=>R (zek lv σ')|.exit j=>K (.exit j) σ'|.ret=>K .ret σ')=(step x).bind fun s=>match s with|.inl y=>R (u (zek lv σ) y)|.inr g=>kont K (zek lv σ) g)
  (hσ:zek lv σ=u (zek lv σ) x) (rest:∀ g,kont K0 (zek lv σ) g=(f g).bind q):al F lv σ K0=((zd step fuel x).bind f).bind q :=
 (zrR hal (u (zek lv σ)) step (fun K=>kont K (zek lv σ)) h x σ hσ).trans (cL rest)
def Nx (T:FuncId→Option FE) (k:Pk) (F F':Fns):Prop:=∀ f fe,T f=some fe→∀ xs,F' f xs=zk3 k.p k.al TY F fe xs
def bqn (c:St) (n:Nm):Bk:=(look c.hp n).getD ⟨false,false,0,0,[]⟩
theorem zur (s:Bool):∀ (t:TC) (x:DD t),mapO frz0 ((eD t x).map (zbT s))=some (eD t x):=by intro t x;cases t<;>rfl
theorem znr {α β:Type} {f:α→Option β}:∀ (a:List α) (a':List β) (x:α) (y:β),mapO f a=some a'→f x=some y→mapO f (a++[x])=some (a'++[y])
 | [],a',x,y,h,hx=>by
  injection h with h
  subst h
  show mapO f [x]=some [y]
  simp only [mapO,hx,yk]
 | z::a,a',x,y,h,hx=>by
  simp only [mapO] at h
  cases hz:f z with
  | none=>rw [hz] at h;cases h
  | some u =>
   rw [hz] at h
   simp only [yp] at h
   obtain ⟨b,hb,rfl⟩:=h
   show mapO f (z::(a++[x]))=_
   simp only [mapO,hz,znr a b x y hb hx,yk,yaX]
theorem zB3 {α:Type} (e:α→List DT) (he:∀ x,mapO frz0 ((e x).map zab)=some (e x)) (lf:DT→Cell) (l:List α) (x:α) (hx:mapO frz0 ((e x).map lf)=some (e x)):za.frz (za.rapp (za.opn (l.map e)) [(e x).map lf]) 0 (za.len ((l++[x]).map e))=some ((l++[x]).map e):=by
 have h:=zix e he l
 have e1:za.opn (l.map e)=(l.map e).map (·.map zab):=rfl
 have e2:∀ a b,za.rapp a b=a++b:=fun _ _=>rfl
 have e3:∀ a:List (List DT),za.len a=a.length:=fun _=>rfl
 have e4:∀ a i n,za.frz a i n=zgP a i n:=fun _ _ _=>rfl
 rw [e1,e2,e3,e4]
 rw [e1,e3,e4] at h
 unfold zgP at h ⊢
 rw [if_pos (by simp),yau,yY (by simp)] at h
 rw [if_pos (by simp),yau,yY (by simp),ybj]
 exact znr _ _ _ _ h hx
theorem zB2 (s:Bool):∀ (t:TC) (x:DD t),mapO (zdO s) (eD t x)=some ((eD t x).map (zbT s)):=by intro t x;cases t<;>rfl
theorem zuz {α β γ:Type} {f:β→Option γ} {e:α→β} {g:β→γ} (h:∀ x,f (e x)=some (g (e x))):∀ l:List α,mapO f (l.map e)=some ((l.map e).map g)
 | []=>rfl
 | x::l=>by
  simp only [yaQ,mapO,h x,zuz h l,yk]
theorem zku {α β γ:Type} {f:γ→Option β} {e:α→β} {g:β→γ} (h:∀ x,f (g (e x))=some (e x)):∀ l:List α,mapO f ((l.map e).map g)=some (l.map e)
 | []=>rfl
 | x::l=>by
  simp only [yaQ,mapO,h x,zku h l,yk]
section
variable (k:Pk)
theorem zwu (s:Bool) (t:TC) (l:List (DD t)):k.p.lend s (k.m t l)=some (k.b s t l):=by
 obtain ⟨p,m,al,g,gn,gs,gp,gt,ga,bo,rfl,rfl,rfl,rfl,rfl,rfl,rfl,rfl,rfl,rfl⟩:=k
 exact zuz (f:=mapO (zdO s)) (g:=(·.map (zbT s))) (zB2 s t) l
theorem zy8 (s:Bool) (t:TC) (l:List (DD t)):k.p.frz (k.b s t l) 0 (k.p.len (k.m t l))=some (k.m t l):=by
 obtain ⟨p,m,al,g,gn,gs,gp,gt,ga,bo,rfl,rfl,rfl,rfl,rfl,rfl,rfl,rfl,rfl,rfl⟩:=k
 have h:mapO (mapO frz0) ((l.map (eD t)).map (·.map (zbT s)))=some (l.map (eD t)):=zku (f:=mapO frz0) (g:=(·.map (zbT s))) (zur s t) l
 show zgP ((l.map (eD t)).map (·.map (zbT s))) 0 (l.map (eD t)).length=some (l.map (eD t))
 unfold zgP
 rw [if_pos (by simp),yau,yY (by simp)]
 exact h
theorem zBS (s:Bool) (t:TC) (n:Nat) (l:List (DD t)):k.p.full 0 n (k.b s t l)=decide (n=k.p.len (k.m t l)):=by
 rw [zxv]
 obtain ⟨p,m,al,g,gn,gs,gp,gt,ga,bo,rfl,rfl,rfl,rfl,rfl,rfl,rfl,rfl,rfl,rfl⟩:=k
 show decide (0=0∧n=((l.map (eD t)).map (·.map (zbT s))).length)=decide (n=l.length)
 simp
theorem zwv (s:Bool) (t:TC) (l:List (DD t)):k.p.rlen (k.b s t l)=k.p.len (k.m t l):=by
 rw [zxv]
 obtain ⟨p,m,al,g,gn,gs,gp,gt,ga,bo,rfl,rfl,rfl,rfl,rfl,rfl,rfl,rfl,rfl,rfl⟩:=k
 show ((l.map (eD t)).map (·.map (zbT s))).length=l.length
 simp
theorem zBX (s:Bool) (t:TC) (a b:List (DD t)):k.p.rapp (k.b s t a) (k.b s t b)=k.b s t (k.ga a b):=by
 obtain ⟨p,m,al,g,gn,gs,gp,gt,ga,bo,rfl,rfl,rfl,rfl,rfl,rfl,rfl,rfl,rfl,rfl⟩:=k
 show (a.map (eD t)).map (·.map (zbT s))++(b.map (eD t)).map (·.map (zbT s))=((a++b).map (eD t)).map (·.map (zbT s))
 simp
theorem zBZ (s:Bool) (t:TC) (l:List (DD t)) (j:Nat):k.p.rnth (k.b s t l) j=match k.g l j with|none=>none|some x=>some ((eK k.p.yI k.m t x).map (zbT s)):=by
 obtain ⟨p,m,al,g,gn,gs,gp,gt,ga,bo,rfl,rfl,rfl,rfl,rfl,rfl,rfl,rfl,rfl,rfl⟩:=k
 show ((l.map (eD t)).map (·.map (zbT s)))[j]?=_
 dsimp only
 rw [yl,yl]
 cases l[j]? with
 | none=>rfl
 | some x=>show some _=some _;rw [ziu t x]
theorem zww (s:Bool) (t:TC) (l:List (DD t)) (j:Nat) (x:DD t):k.p.rset (k.b s t l) j ((eK k.p.yI k.m t x).map (zbT s))=k.b s t (k.gt l j x):=by
 obtain ⟨p,m,al,g,gn,gs,gp,gt,ga,bo,rfl,rfl,rfl,rfl,rfl,rfl,rfl,rfl,rfl,rfl⟩:=k
 rw [ziu t x]
 show ((l.map (eD t)).map (·.map (zbT s))).set j ((eD t x).map (zbT s))=((l.set j x).map (eD t)).map (·.map (zbT s))
 rw [yck,yck]
theorem zui (s:Bool) (t:TC) (x:DD t):k.b s t [x]=[(eK k.p.yI k.m t x).map (zbT s)]:=by
 obtain ⟨p,m,al,g,gn,gs,gp,gt,ga,bo,rfl,rfl,rfl,rfl,rfl,rfl,rfl,rfl,rfl,rfl⟩:=k
 rw [ziu t x]
 rfl
theorem zul (s:Bool) (t:TC) (A:List (List Cell)) (x:DD t):k.p.rapp A [(eK k.p.yI k.m t x).map (zbT s)]=k.p.rapp A (k.b s t [x]):=by rw [zui]
theorem zum (s:Bool) (t:TC) (x:DD t):k.p.rlen [(eK k.p.yI k.m t x).map (zbT s)]=k.p.len (k.m t [x]):=by rw [← zui,zwv]
theorem zBV (s:Bool) (t:TC) (l:List (DD t)) (x:DD t):k.p.frz (k.p.rapp (k.p.opn (k.m t l)) (k.b s t [x])) 0 (k.p.len (k.m t (k.ga l [x])))=some (k.m t (k.ga l [x])):=by
 rw [zui]
 obtain ⟨p,m,al,g,gn,gs,gp,gt,ga,bo,rfl,rfl,rfl,rfl,rfl,rfl,rfl,rfl,rfl,rfl⟩:=k
 rw [ziu t x]
 exact zB3 (eD t) (zqs t) (zbT s) l x (zur s t x)
theorem zBU (s:Bool) (t:TC) (l:List (DD t)) (x:DD t):k.p.frz (k.p.rapp (k.b s t l) (k.p.opn (k.m t [x]))) 0 (k.p.len (k.m t (k.ga l [x])))=some (k.m t (k.ga l [x])):=by
 rw [zxw]
 obtain ⟨p,m,al,g,gn,gs,gp,gt,ga,bo,rfl,rfl,rfl,rfl,rfl,rfl,rfl,rfl,rfl,rfl⟩:=k
 rw [ziu t x]
 have h:mapO (mapO frz0) ((l.map (eD t)).map (·.map (zbT s)))=some (l.map (eD t)):=zku (f:=mapO frz0) (g:=(·.map (zbT s))) (zur s t) l
 show zgP ((l.map (eD t)).map (·.map (zbT s))++[(eD t x).map zab]) 0 ((l++[x]).map (eD t)).length=some ((l++[x]).map (eD t))
 unfold zgP
 rw [if_pos (by simp),yau,yY (by simp),ybj]
 exact znr _ _ _ _ h (zqs t x)
end
theorem zCy:∀ (t:TC) (x:DD t),mapO boxD ((eD t x).map (zbT true))=some (eD t x):=by intro t x;cases t<;>rfl
theorem zCF (k:Pk) (t:TC) (l:List (DD t)):k.p.fz1 (k.b true t l)=some (k.m t l):=by
 obtain ⟨p,m,al,g,gn,gs,gp,gt,ga,bo,rfl,rfl,rfl,rfl,rfl,rfl,rfl,rfl,rfl,rfl⟩:=k
 exact zku (f:=mapO boxD) (g:=(·.map (zbT true))) (zCy t) l
theorem zpc {f:DT→Cell} (hf:∀ d,(zkb (f d) || zkg (f d))=true) (l:List (List DT)):za.calm (l.map (·.map f))=true:=by
 refine yR.2 fun es hes=>yR.2 fun c hc=>?_
 obtain ⟨ds,_,rfl⟩:=yak.1 hes
 obtain ⟨d,_,rfl⟩:=yak.1 hc
 exact hf d
theorem zCC (k:Pk) (t:TC) (l:List (DD t)):k.p.calm (k.p.opn (k.m t l))=true:=by
 obtain ⟨p,m,al,g,gn,gs,gp,gt,ga,bo,rfl,rfl,rfl,rfl,rfl,rfl,rfl,rfl,rfl,rfl⟩:=k
 exact zpc (f:=zab) (fun d=>by cases d<;>rfl) _
theorem zBP (k:Pk) (t:TC) (l:List (DD t)):k.p.calm (k.b true t l)=true:=by
 obtain ⟨p,m,al,g,gn,gs,gp,gt,ga,bo,rfl,rfl,rfl,rfl,rfl,rfl,rfl,rfl,rfl,rfl⟩:=k
 exact zpc (f:=zbT true) (fun d=>by cases d<;>rfl) _
theorem zBQ (k:Pk) (t:TC) (l:List (DD t)) (j:Nat) (c:List Cell) (hc:za.calm [c]=true):k.p.calm (k.p.rset (k.p.opn (k.m t l)) j c)=true:=by
 obtain ⟨p,m,al,g,gn,gs,gp,gt,ga,bo,rfl,rfl,rfl,rfl,rfl,rfl,rfl,rfl,rfl,rfl⟩:=k
 have h:=zpc (f:=zab) (fun d=>by cases d<;>rfl) (mp t l)
 refine yR.2 fun es hes=>?_
 rcases yaL hes with h1|h1
 ·exact yR.1 h es h1
 ·rw [h1];exact yR.1 hc c (by simp)
theorem zB0 (k:Pk) (A:List (List Cell)) (j:Nat) (c c':List Cell):k.p.rset (k.p.rset A j c) j c'=k.p.rset A j c':=by
 obtain ⟨p,m,al,g,gn,gs,gp,gt,ga,bo,rfl,rfl,rfl,rfl,rfl,rfl,rfl,rfl,rfl,rfl⟩:=k
 exact List.set_set ..
theorem zBY (k:Pk) (A:List (List Cell)) (j:Nat) (c:List Cell):k.p.rnth (k.p.rset A j c) j=match k.p.rnth A j with|none=>none|some _=>some c:=by
 obtain ⟨p,m,al,g,gn,gs,gp,gt,ga,bo,rfl,rfl,rfl,rfl,rfl,rfl,rfl,rfl,rfl,rfl⟩:=k
 show (A.set j c)[j]?=match A[j]? with|none=>none|some _=>some c
 by_cases h:j < A.length
 ·rw [ya4 h,yb h]
 ·rw [ya7 (by simpa using h),ya7 (by simpa using h)]
theorem zBT (k:Pk) (t:TC) (l:List (DD t)) (x y:Nat) (h:k.p.rsub 0 (k.p.len (k.m t l)) (some 1) none=some (x,y)):k.p.full x y (k.p.opn (k.m t l))=false:=by
 obtain ⟨p,m,al,g,gn,gs,gp,gt,ga,bo,rfl,rfl,rfl,rfl,rfl,rfl,rfl,rfl,rfl,rfl⟩:=k
 have h':(if 1≤(mp t l).length∧(mp t l).length≤(mp t l).length then some (0+1,(mp t l).length - 1) else none)=some (x,y):=h
 split at h'
 ·injection h' with h'
  injection h' with h1 _
  subst h1
  rfl
 ·cases h'
theorem zAs (k:Pk) (s:Bool) (t:TC) (l:List (DD t)):k.p.rapp [] (k.b s t l)=k.b s t l:=by
 obtain ⟨p,m,al,g,gn,gs,gp,gt,ga,bo,rfl,rfl,rfl,rfl,rfl,rfl,rfl,rfl,rfl,rfl⟩:=k
 rfl
theorem zBR (k:Pk) (s:Bool) (t:TC) (l:List (DD t)) (j:Nat) (x:DD t):k.p.frz (k.b s t (k.gt l j x)) 0 (k.p.len (k.m t l))=some (k.m t (k.gt l j x)):=by rw [← zuj k t l j x];exact zy8 k s t _
theorem zCD (k:Pk) (t:TC) (l:List (DD t)) (j:Nat) (x:DD t):k.p.frz (k.p.opn (k.m t (k.gt l j x))) 0 (k.p.len (k.m t l))=some (k.m t (k.gt l j x)):=by rw [← zuj k t l j x];exact zBh k t _
theorem kbB (k:Pk):(∀ (s:Bool) (t:TC) (l:List (DD t)) (j:Nat) (x:DD t),k.p.frz (k.b s t (k.gt l j x)) 0 (k.p.len (k.m t l))=some (k.m t (k.gt l j x))) ∧
 (∀ (t:TC) (l:List (DD t)) (j:Nat) (x:DD t),k.p.frz (k.p.opn (k.m t (k.gt l j x))) 0 (k.p.len (k.m t l))=some (k.m t (k.gt l j x))) ∧
 (∀ (s:Bool) (t:TC) (l:List (DD t)),k.p.frz (k.b s t l) 0 (k.p.len (k.m t l))=some (k.m t l)) ∧
 (∀ (s:Bool) (t:TC) (n:Nat) (l:List (DD t)),k.p.full 0 n (k.b s t l)=decide (n=k.p.len (k.m t l))) ∧
 (∀ (s:Bool) (t:TC) (l:List (DD t)),k.p.rlen (k.b s t l)=k.p.len (k.m t l)) ∧
 (∀ (s:Bool) (t:TC) (a b:List (DD t)),k.p.rapp (k.b s t a) (k.b s t b)=k.b s t (k.ga a b)) ∧
 (∀ (s:Bool) (t:TC) (l:List (DD t)) (j:Nat),k.p.rnth (k.b s t l) j=match k.g l j with|none=>none|some x=>some ((eK k.p.yI k.m t x).map (zbT s))) ∧
 (∀ (s:Bool) (t:TC) (l:List (DD t)) (x:DD t),k.p.frz (k.p.rapp (k.p.opn (k.m t l)) (k.b s t [x])) 0 (k.p.len (k.m t (k.ga l [x])))=some (k.m t (k.ga l [x]))) ∧
 (∀ (s:Bool) (t:TC) (l:List (DD t)) (x:DD t),k.p.frz (k.p.rapp (k.b s t l) (k.p.opn (k.m t [x]))) 0 (k.p.len (k.m t (k.ga l [x])))=some (k.m t (k.ga l [x]))) ∧
 (∀ (t:TC) (l:List (DD t)),k.p.fz1 (k.b true t l)=some (k.m t l)) ∧
 (∀ (t:TC) (l:List (DD t)),k.p.calm (k.p.opn (k.m t l))=true) ∧
 (∀ (t:TC) (l:List (DD t)),k.p.calm (k.b true t l)=true) ∧
 (∀ (A:List (List Cell)) (j:Nat) (c c':List Cell),k.p.rset (k.p.rset A j c) j c'=k.p.rset A j c') ∧
 (∀ (A:List (List Cell)) (j:Nat) (c:List Cell),k.p.rnth (k.p.rset A j c) j=match k.p.rnth A j with|none=>none|some _=>some c) ∧
 (∀ (t:TC) (l:List (DD t)) (x y:Nat),k.p.rsub 0 (k.p.len (k.m t l)) (some 1) none=some (x,y)→k.p.full x y (k.p.opn (k.m t l))=false) ∧
 (∀ (s:Bool) (t:TC) (l:List (DD t)),k.p.rapp [] (k.b s t l)=k.b s t l) :=
 ⟨zBR k,zCD k,zy8 k,zBS k,zwv k,zBX k,zBZ k,zBV k,zBU k,zCF k,zCC k,zBP k,zB0 k,zBY k,zBT k,zAs k⟩
theorem kEB (k:Pk):(∀ (s:Bool) (t:TC),k.b s t []=[])∧∀ (s:Bool) (t:TC) (x:DD t) (l:List (DD t)),k.b s t (x::l)=(eK k.p.yI k.m t x).map (zbT s)::k.b s t l:=by
 obtain ⟨p,m,al,g,gn,gs,gp,gt,ga,bo,rfl,rfl,rfl,rfl,rfl,rfl,rfl,rfl,rfl,rfl⟩:=k
 exact ⟨fun s t=>rfl,fun s t x l=>by rw [ziu t x];rfl⟩
def Nx2 (T:FuncId→Option FE) (k:Pk) (F F':Fns):Prop:=∀ f fe,T f=some fe→spcB f=true→∀ xs,F' (f+mutK) xs=ziw k.p k.al TY F f fe xs
section
variable {T:FuncId→Option FE} {k:Pk} {F F':Fns} (n:Nx2 T k F F') {f:Nat} {fe:FE} {e:Nat} {α:Type} {o:Option α} {xs:List Arg}
include n
theorem kR (hT:T f=some fe) (h0:spcB f=true) (h1:rowE f=some e) {t kk:Nat} {l:List (List DT)} {rest:List Arg} {l':α→List (List DT)} (h:zlS k.p k.al TY F fe e (.v (.sl t kk l)::rest)=o.bind fun r=>some [.v (.sl t kk (l' r))]):F' (f+mutK) (.v (.sl t kk l)::rest)=o.bind fun r=>some [.v (.sl t kk (l' r))]:=by
 rw [n f fe hT h0]
 unfold ziw
 simp only [h1]
 rw [h]
 cases o with
 | none=>rfl
 | some r =>
  show (match Nat.beq t t && Nat.beq kk kk with|true=>_|false=>_)=_
  rw [ycl,ycl]
  rfl
omit n in
theorem kR0 (h1:rowE f=some e) {t kk:Nat} {l:List (List DT)} {rest:List Arg} {l':α→List (List DT)} (h:zlS k.p k.al TY F fe e (.v (.sl t kk l)::rest)=o.bind fun r=>some [.v (.sl t kk (l' r))]):ziw k.p k.al TY F f fe (.v (.sl t kk l)::rest)=o.bind fun r=>some [.v (.sl t kk (l' r))]:=by
 unfold ziw
 simp only [h1]
 rw [h]
 cases o with
 | none=>rfl
 | some r =>
  show (match Nat.beq t t && Nat.beq kk kk with|true=>_|false=>_)=_
  rw [ycl,ycl]
  rfl
theorem kS (hT:T f=some fe) (h0:spcB f=true) (hr:rowE f=none) (h1:newE f=none) (h2:curE f=none) {rs:α→List Arg} (h:zrL k.p k.al TY F fe xs=o.bind fun r=>some (.v (.fn 1 [])::rs r)):F' (f+mutK) xs=o.bind fun r=>some (.v (.fn 1 [])::rs r):=by
 rw [n f fe hT h0 xs]
 unfold ziw
 simp only [hr,h1,h2]
 rw [h]
 cases o<;>rfl
end
end
end Go.Proofs.YtflhdodikmmdcaaGreat
