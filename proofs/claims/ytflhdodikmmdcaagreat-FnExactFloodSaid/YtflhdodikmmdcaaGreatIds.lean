import Derived.WalkKit
namespace Go.Proofs.YtflhdodikmmdcaaGreat
def mutIds:List Nat:=[115,116,41,40,13,45,12,42,117,44,43,46]
def nilIds:List Nat:=[]
def conIds:List Nat:=[163,157,195,161]
def viewIds:List Nat:=[]
def retTys:List Nat:=[]
def curIds:List (Nat×Nat):=[]
def shrIds:List Nat:=[177]
def newIds:List (Nat×Nat):=[]
def borIds:List Nat:=[]
def wkIds:List Nat:=[]
def parIds:List Nat:=[]
def takIds:List Nat:=[]
def eqIds:List Nat:=[]
def rdTys:List Nat:=[626695]
def rowIds:List (Nat×Nat):=[(202,3),(197,153),(221,3),(219,153),(226,3),(225,153),(214,3),(212,153),(228,3),(227,153),(222,3),(220,153)]
def tkfIds:List Nat:=[145]
end Go.Proofs.YtflhdodikmmdcaaGreat
namespace Go.Proofs.YtflhdodikmmdcaaGreat
open Go.RowKit
set_option linter.unusedVariables false
set_option linter.unusedSimpArgs false
set_option linter.unusedSectionVars false
inductive DT where
 | at (v:Value)
 | sl (e k:Nat) (l:List (List DT))
 | ptr (l:List DT)
 | fn (f:FuncId) (caps:List DT)
inductive Arg where
 | v (d:DT)
 | a (l:List DT)
abbrev Nm:=Nat×Nat×Nat
inductive Cell where
 | at (v:Value)
 | nil (e k:Nat)
 | rd (s:Bool) (e k:Nat) (l:List (List DT))
 | own (e k:Nat) (l:List (List DT))
 | row (i:Nm) (e k off n:Nat)
 | ptr (i:Nm) (k idx off:Nat)
 | bp (s:Bool) (l:List DT) (off:Nat)
 | fn (f:FuncId) (caps:List Cell)
 | dead
inductive PV where
 | c (x:Cell)
 | agg (l:List Cell)
 | tup (l:List PV)
structure Bk where
 isRow:Bool
 lit:Bool
 e:Nat
 k:Nat
 el:List (List Cell)
structure St where
 tm:List PV
 hp:List (Nm×Bk)
 cnt:Nat
inductive TK where
 | int (k:IntKind)|bool|string
 | slice (e k bytes:Nat)
 | struct (fs:List (Nat×Nat×Bool))
 | other
structure TI where
 kind:TK
 size:Nat
 zero:List Cell
abbrev TT:=Nat→Option TI
def look (hp:List (Nm×Bk)) (i:Nm):Option Bk :=
 match hp with
 | []=>none
 | (j,b)::r=>if j=i then some b else look r i
def upd (hp:List (Nm×Bk)) (i:Nm) (b:Bk):List (Nm×Bk) :=
 match hp with
 | []=>[]
 | (j,c)::r=>if j=i then (j,b)::r else (j,c)::upd r i b
def del (hp:List (Nm×Bk)) (i:Nm):List (Nm×Bk) :=
 match hp with
 | []=>[]
 | (j,c)::r=>if j=i then del r i else (j,c)::del r i
def zrT:Value→PV
 | .agg cs=>.agg (cs.toList.map .at)
 | v=>.c (.at v)
def St.get (σ:St):Operand→PV
 | .tmp t=>σ.tm.getD t (.c .dead)
 | .const v=>zrT v
 | .func f=>.c (.fn f [])
 | .global _=>.c .dead
def zk9:Value→Bool
 | .int _ _|.bool _|.string _|.nilFunc|.nilIface|.pointer none|.slice none 0 0=>true
 | _=>false
def zkp:DT→Bool→Cell
 | .at v,_=>.at v
 | .sl e k l,s=>.rd s e k l
 | .ptr l,s=>.bp s l 0
 | .fn f caps,s=>.fn f (caps.map fun
  | .at v=>.at v
  | .sl e k l=>.rd s e k l
  | .ptr l=>.bp s l 0
  | .fn _ _=>.dead)
def outC:Cell→Cell
 | .own e k l=>.rd false e k l
 | x=>x
def frz0:Cell→Option DT
 | .at v=>some (.at v)
 | .nil e k=>some (.sl e k [])
 | .rd _ e k l=>some (.sl e k l)
 | .own e k l=>some (.sl e k l)
 | .bp _ l off=>if off=0 then some (.ptr l) else none
 | _=>none
def mapO {α β:Type} (f:α→Option β):List α→Option (List β)
 | []=>some []
 | x::l=>match f x with
  | some y=>(mapO f l).map (y::·)
  | none=>none
def own0:Cell→Option DT
 | .at v=>some (.at v)
 | .nil e k=>some (.sl e k [])
 | .own e k l=>some (.sl e k l)
 | _=>none
def zdO (s:Bool):DT→Option Cell
 | .at v=>if zk9 v then some (.at v) else none
 | .sl e k l=>some (.rd s e k l)
 | _=>none
def zab:DT→Cell
 | .at v=>.at v
 | .sl e k l=>.own e k l
 | _=>.dead
def boxD:Cell→Option DT
 | .at v=>some (.at v)
 | .rd true e k l=>some (.sl e k l)
 | _=>none
def zki:Cell→Option Cell
 | .at v=>if zk9 v then some (.at v) else none
 | .nil e k=>some (.nil e k)
 | .rd s e k l=>if s=true then some (.rd s e k l) else none
 | .own e k l=>some (.own e k l)
 | _=>none
def zqr (f:Cell→Option DT) (l:List (List Cell)) (off n:Nat):Option (List (List DT)):=if off+n≤l.length then mapO (mapO f) ((l.drop off).take n) else none
def zgP (l:List (List Cell)) (off n:Nat):Option (List (List DT)):=if off+n≤l.length then mapO (mapO frz0) ((l.drop off).take n) else none
def zuf:BinOp→IntKind→Int→Int→Int
 | .add,k,a,b=>k.wrap (a+b)
 | .sub,k,a,b=>k.wrap (a - b)
 | .mul,k,a,b=>k.wrap (a*b)
 | .quo,k,a,b=>k.wrap (a.tdiv b)
 | .rem,_,a,b=>a.tmod b
 | .shl,k,a,b=>k.wrap (a*2 ^ min b.toNat k.bits)
 | .shr,k,a,b=>a.fdiv (2 ^ min b.toNat k.bits)
 | .and,k,a,b=>k.wrap (BitVec.ofInt k.bits a &&& BitVec.ofInt k.bits b).toNat
 | .or,k,a,b=>k.wrap (BitVec.ofInt k.bits a ||| BitVec.ofInt k.bits b).toNat
 | .andNot,k,a,b=>k.wrap (BitVec.ofInt k.bits a &&& ~~~ BitVec.ofInt k.bits b).toNat
 | .xor,k,a,b=>k.wrap (BitVec.ofInt k.bits a ^^^ BitVec.ofInt k.bits b).toNat
 | _,_,a,_=>a
def icmp:BinOp→Int→Int→Bool
 | .eql,a,b=>a == b
 | .neq,a,b=>a != b
 | .lss,a,b=>decide (a < b)
 | .leq,a,b=>decide (a≤b)
 | .gtr,a,b=>decide (a > b)
 | .geq,a,b=>decide (a≥b)
 | _,_,_=>false
def scmp:BinOp→ByteArray→ByteArray→Bool
 | .eql,a,b=>a.toList == b.toList
 | .neq,a,b=>!(a.toList == b.toList)
 | .lss,a,b=>Op.bytesLess a.toList b.toList
 | .leq,a,b=>Op.bytesLess a.toList b.toList || a.toList == b.toList
 | .gtr,a,b=>!(Op.bytesLess a.toList b.toList || a.toList == b.toList)
 | .geq,a,b=>!(Op.bytesLess a.toList b.toList)
 | _,_,_=>false
def ztu:Cell→Bool
 | .at _=>true
 | .nil _ _=>true
 | .row _ _ _ _ _=>true
 | .ptr _ _ _ _=>true
 | .dead=>true
 | .rd s _ _ _=>s
 | .bp s _ _=>s
 | _=>false
def zkb:Cell→Bool
 | .fn _ caps=>caps.all ztu
 | x=>ztu x
def zkg:Cell→Bool
 | .own _ _ _=>true
 | _=>false
structure Prims where
 arith:BinOp→IntKind→Int→Int→Int
 cmp:BinOp→Int→Int→Bool
 wrap:IntKind→Int→Int
 scmp:BinOp→ByteArray→ByteArray→Bool
 scat:ByteArray→ByteArray→ByteArray
 catOk:ByteArray→ByteArray→Bool
 ssize:ByteArray→Int
 sat:ByteArray→Int→Option Int
 ssub:ByteArray→Option Int→Option Int→Option ByteArray
 bytes:ByteArray→List (List Cell)
 str:List (List DT)→Option ByteArray
 bnot:Bool→Bool
 beq:Bool→Bool→Bool
 min:Int→Int→Int
 max:Int→Int→Int
 len:List (List DT)→Nat
 int:Nat→Int
 nth:List (List DT)→Int→Option (List DT)
 sub:List (List DT)→Option Int→Option Int→Option (List (List DT))
 rsub:Nat→Nat→Option Int→Option Int→Option (Nat×Nat)
 ridx:Nat→Nat→Int→Option Nat
 rnth:List (List Cell)→Nat→Option (List Cell)
 rset:List (List Cell)→Nat→List Cell→List (List Cell)
 rapp:List (List Cell)→List (List Cell)→List (List Cell)
 rlen:List (List Cell)→Nat
 addN:Nat→Nat→Nat
 full:Nat→Nat→List (List Cell)→Bool
 fits:Nat→Nat→Nat→Bool
 frz:List (List Cell)→Nat→Nat→Option (List (List DT))
 own:List (List Cell)→Option (List (List DT))
 opn:List (List DT)→List (List Cell)
 lend:Bool→List (List DT)→Option (List (List Cell))
 rmov:List (List Cell)→Nat→Nat→Option (List (List Cell))
 rout:List (List Cell)→Nat→Nat→List (List Cell)
 both:{β:Type}→Nat→Option β→Option β→Option β
 yI:UInt8→Int
 ofB:List UInt8→ByteArray
 byW:Int→UInt8
 mkN:Int→Int→Nat→Option Nat
 rep:Nat→List Cell→List (List Cell)
 copy:List (List Cell)→Nat→Nat→List (List DT)→Option (Nat×List (List Cell))
 fz1:List (List Cell)→Option (List (List DT))
 calm:List (List Cell)→Bool
noncomputable def zka {β:Type} (n:Nat) (a b:Option β):Option β:=open Classical in if n=0 then (if a=b then a else none) else a
theorem zp8 {β:Type} {n:Nat} {a b:Option β} {y:β} (h:zka n a b=some y):a=some y:=by
 unfold zka at h
 split at h
 ·split at h
  ·exact h
  ·cases h
 ·exact h
theorem zoF {β:Type} {a b:Option β} {y:β} (h:zka 0 a b=some y):b=some y:=by
 unfold zka at h
 rw [if_pos rfl] at h
 split at h
 ·rename_i e;rw [← e];exact h
 ·cases h
theorem zkZ {β:Type} {n:Nat} {a b r:Option β} (ha:a=r) (hb:n=0→b=r):zka n a b=r:=by
 unfold zka
 split
 ·rename_i h
  rw [if_pos (ha.trans (hb h).symm)]
  exact ha
 ·exact ha
def zb4 (a:Option Int) (d:Nat):Option Nat :=
 match a with
 | none=>some d
 | some a=>if 0≤a then some a.toNat else none
def zCZ (es:List DT):Option (List Cell):=match es with
 | [.at v]=>if zk9 v then some [.at v] else none
 | _=>none
def isAt:Cell→Bool
 | .at _=>true
 | .nil _ _=>true
 | _=>false
def ownZ:Cell→Cell
 | .nil e k=>.own e k []
 | x=>x
noncomputable def za:Prims where
 arith:=zuf
 cmp:=icmp
 wrap:=IntKind.wrap
 scmp:=scmp
 scat a b:=a++b
 catOk a b:=decide (a.size+b.size≤maxLen)
 ssize s:=s.size
 sat s i:=if 0≤i then (s.data.toList[i.toNat]?).map fun b=>(b.toNat:Int) else none
 ssub s lo hi:=match zb4 lo 0,zb4 hi s.size with
  | some l,some h=>if l≤h∧h≤s.size then some (s.extract l h) else none
  | _,_=>none
 bytes s:=s.data.toList.map fun b=>[.at (.int .u8 b.toNat)]
 str l:=(mapO (fun es=>match es with|[DT.at (.int .u8 n)]=>some (UInt8.ofNat n.toNat)|_=>none) l).map fun l=>⟨l.toArray⟩
 bnot b:=!b
 beq a b:=a == b
 min x y:=if y < x then y else x
 max x y:=if y > x then y else x
 len l:=l.length
 int n:=n
 nth l i:=if 0≤i then l[i.toNat]? else none
 sub l lo hi:=match zb4 lo 0,zb4 hi l.length with
  | some a,some h=>if a≤h∧h≤l.length then some ((l.drop a).take (h - a)) else none
  | _,_=>none
 rsub off n lo hi:=match zb4 lo 0,zb4 hi n with
  | some a,some h=>if a≤h∧h≤n then some (off+a,h - a) else none
  | _,_=>none
 ridx off n i:=if 0≤i∧i.toNat < n then some (off+i.toNat) else none
 rnth l i:=l[i]?
 rset l i x:=l.set i x
 rapp a b:=a++b
 rlen l:=l.length
 addN a b:=a+b
 full off n l:=decide (off=0∧n=l.length)
 fits a b c:=decide ((a+b)*c≤2 ^ 46)
 frz:=zgP
 own l:=mapO (mapO own0) l
 opn l:=l.map (·.map zab)
 lend s l:=mapO (mapO (zdO s)) l
 rmov l off n:=if off+n≤l.length then mapO (mapO zki) ((l.drop off).take n) else none
 both:=zka
 yI b:=b.toNat
 ofB l:=⟨l.toArray⟩
 byW x:=UInt8.ofNat (IntKind.u8.wrap x).toNat
 mkN a b c:=if 0≤a∧a=b∧a*c≤2 ^ 46∧a≤2 ^ 46 then some a.toNat else none
 rep n z:=List.replicate n z
 copy el off m l:=match mapO zCZ l with
  | some c=>if off+m≤el.length then some (min c.length m,el.take off++c.take m++el.drop (off+min c.length m)) else none
  | none=>none
 fz1 l:=mapO (mapO boxD) l
 calm l:=l.all fun es=>es.all fun x=>zkb x || zkg x
 rout l off n:=l.take off++((l.drop off).take n).map (·.map outC)++l.drop (off+n)
section
variable (pr:Prims)
def Bk.nth (b:Bk) (kk i:Nat):Option (List Cell):=if kk=b.k then (if b.lit then b.el[i]? else pr.rnth b.el i) else none
def frz1 (L:Nm→Option Bk):Cell→Option DT
 | .row i e k off n=>match L i with
  | some b=>if k=b.k then (if b.lit then zgP b.el off n else pr.frz b.el off n).map (DT.sl e k) else none
  | none=>none
 | x=>frz0 x
def frz2 (L:Nm→Option Bk):Cell→Option DT
 | .ptr i kk idx off=>if off=0 then match L i with
  | some b=>match b.nth pr kk idx with
   | some es=>(mapO (frz1 pr L) es).map DT.ptr
   | none=>none
  | none=>none else none
 | .row i e k off n=>match L i with
  | some b=>if b.lit=true then (if k=b.k then (zqr (frz1 pr L) b.el off n).map (DT.sl e k) else none) else frz1 pr L (.row i e k off n)
  | none=>none
 | x=>frz1 pr L x
def frz (L:Nm→Option Bk):Cell→Option DT
 | .fn f caps=>(mapO (frz2 pr L) caps).map (DT.fn f)
 | x=>frz2 pr L x
def frzP (L:Nm→Option Bk):PV→Option Arg
 | .c x=>(frz pr L x).map .v
 | .agg l=>(mapO (frz pr L) l).map .a
 | .tup _=>none
end
def zoh (z:Cell) (x:Cell):Cell :=
 match x,z with
 | .at (.slice none 0 0),.nil e k=>.nil e k
 | x,_=>x
def norm (T:TT) (t:Nat) (p:PV):PV :=
 match p,T t with
 | .c (.at (.slice none 0 0)),some ⟨.slice e k _,_,_⟩=>.c (.nil e k)
 | .agg l,some ti=>if ti.zero.length=l.length then .agg (List.zipWith zoh ti.zero l) else .agg l
 | p,_=>p
section
variable (pr:Prims)
def zi5 (n:Nat→Nm) (j:Nat):DT→Cell×List (Nm×Bk)
 | .at v=>(.at v,[])
 | .sl e k l=>(.row (n j) e k 0 (pr.len l),[(n j,⟨true,false,e,k,pr.opn l⟩)])
 | _=>(.dead,[])
def zi6 (n:Nat→Nm):Nat→List DT→List Cell×List (Nm×Bk)
 | _,[]=>([],[])
 | j,d::l=>match zi5 pr n j d,zi6 n (j+1) l with
  | (c,b),(cs,bs)=>(c::cs,b++bs)
def zh2 (n:Nat→Nm) (j:Nat):Arg→PV×List (Nm×Bk)
 | .v d=>match zi5 pr n j d with|(c,b)=>(.c c,b)
 | .a l=>match zi6 pr n j l with|(cs,b)=>(.agg cs,b)
def Arg.width:Arg→Nat
 | .v _=>1
 | .a l=>l.length
def zhz (n:Nat→Nm):Nat→List Arg→List PV×List (Nm×Bk)
 | _,[]=>([],[])
 | j,x::l=>match zh2 pr n j x,zhz n (j+x.width) l with
  | (p,b),(ps,bs)=>(p::ps,b++bs)
def abin (op:BinOp):Value→Value→Option Value
 | .int k a,.int k' b=>match op with
  | .add|.sub|.mul|.and|.or|.andNot|.xor=>if k=k' then some (.int k (pr.arith op k a b)) else none
  | .quo|.rem=>if k=k' then (if pr.cmp .eql b 0 then none else some (.int k (pr.arith op k a b))) else none
  | .shl|.shr=>if pr.cmp .leq 0 b then some (.int k (pr.arith op k a b)) else none
  | .eql|.neq|.lss|.leq|.gtr|.geq=>if k=k' then some (.bool (pr.cmp op a b)) else none
 | .string a,.string b=>match op with
  | .add=>if pr.catOk a b then some (.string (pr.scat a b)) else none
  | .eql|.neq|.lss|.leq|.gtr|.geq=>some (.bool (pr.scmp op a b))
  | _=>none
 | .bool a,.bool b=>match op with
  | .eql=>some (.bool (pr.beq a b))
  | .neq=>some (.bool (pr.bnot (pr.beq a b)))
  | _=>none
 | _,_=>none
def aun:UnOp→Value→Option Value
 | .not,.bool b=>some (.bool (pr.bnot b))
 | .neg,.int k n=>some (.int k (pr.arith .sub k 0 n))
 | _,_=>none
def amin:Value→Value→Option Value
 | .int k x,.int k' y=>if k=k' then some (.int k (pr.min x y)) else none
 | _,_=>none
def amax:Value→Value→Option Value
 | .int k x,.int k' y=>if k=k' then some (.int k (pr.max x y)) else none
 | _,_=>none
end
def okC:Cell→Bool
 | .at v=>zk9 v
 | .dead=>false
 | .own _ _ _=>false
 | _=>true
def cellsOf:PV→Bool→Option (List Cell)
 | .c x,false=>if okC x then some [x] else none
 | .agg l,true=>if l.all okC then some l else none
 | _,_=>none
def zmf:List (Nat×Nat×Bool)→List Cell→List (Nat×PV)→Option (List Cell)
 | _,z,[]=>some z
 | fs,z,(i,p)::r=>match fs[i]? with
  | some (off,size,ag) =>
   match cellsOf p ag with
   | some cs=>if cs.length=size∧off+size≤z.length then zmf fs (z.take off++List.zipWith zoh ((z.drop off).take size) cs++z.drop (off+size)) r else none
   | none=>none
  | none=>none
def isAgg:TI→Bool
 | ⟨.struct _,_,_⟩=>true
 | _=>false
def zmg (ti:TI):List (List Cell)→List (Nat×PV)→Option (List (List Cell))
 | z,[]=>some z
 | z,(i,p)::r=>match cellsOf p (isAgg ti) with
  | some cs=>if cs.length=ti.size∧ti.zero.length=ti.size∧i < z.length then zmg ti (z.set i (List.zipWith zoh ti.zero cs)) r else none
  | none=>none
def zhA (ag:Bool) (l:List Cell):Option PV :=
 match ag,l with
 | true,l=>some (.agg l)
 | false,[x]=>some (.c x)
 | _,_=>none
def cellOf? (get:Operand→PV) (x:Operand):Option Cell:=match get x with
 | .c y=>match y with
  | .fn _ _=>none
  | y=>some y
 | _=>none
def zp7 (T:TT) (t:Nat):Value→Value→Bool
 | .bool _,.bool _=>match T t with
  | some ⟨.bool,_,_⟩=>true
  | _=>false
 | _,_=>true
def aeqL (pr:Prims):List Cell→List Cell→Option Bool
 | [],[]=>some true
 | .at (.int k a)::l,.at (.int k' b)::m=>if k=k' then (if pr.cmp .eql a b=true then aeqL pr l m else some false) else none
 | _,_=>none
def aeqV (pr:Prims) (op:BinOp) (r:Bool):Option Value:=match op with
 | .eql=>some (.bool r)
 | .neq=>some (.bool (!r))
 | _=>none
def intOf? (get:Operand→PV):Option Operand→Option (Option Int)
 | none=>some none
 | some y=>match get y with
  | .c (.at (.int _ a))=>some (some a)
  | _=>none
def zdc (pr:Prims) (T:TT) (L:Nm→Option Bk) (n:Nat→Nm) (get:Operand→PV) (o:Oper):Option (PV×List (Nm×Bk)) :=
 match o.op with
 | .move x|.assign x=>some (get x,[])
 | .pick c a b=>match get c with
  | .c (.at (.bool t))=>some (if t then get a else get b,[])
  | _=>none
 | .alloc t=>match T t with
  | some ti=>if ti.zero.length=ti.size then some (.c (.ptr (n 0) ti.size 0 0),[(n 0,⟨false,true,t,ti.size,[ti.zero]⟩)]) else none
  | none=>none
 | .box t x=>match T t with
  | some ti=>match cellsOf (norm T t (get x)) (isAgg ti) with
   | some cs=>if cs.length=ti.size then some (.c (.ptr (n 0) ti.size 0 0),[(n 0,⟨false,true,t,ti.size,[cs]⟩)]) else none
   | none=>none
  | none=>none
 | .build t ps=>match T t with
  | some ⟨.struct fs,_,z⟩=>if fs.all (fun y=>decide (y.2.1≠0)) then (zmf fs z (ps.toList.map fun (i,x)=>(i,get x))).map fun l=>(.agg l,[]) else none
  | _=>none
 | .buildSlice t len ps=>match T t with
  | some ⟨.slice e k _,_,_⟩=>match T e with
   | some ti=>if len*ti.size≤16777216∧ti.size≠0 then (zmg ti (List.replicate len ti.zero) (ps.toList.map fun (i,x)=>(i,get x))).map fun l=>(.c (.row (n 0) e k 0 len),[(n 0,⟨true,true,e,k,l⟩)]) else none
   | none=>none
  | _=>none
 | .load t a=>match T t with
  | some ti=>match get a with
   | .c (.ptr i kk idx off)=>match L i with
    | some b=>match b.nth pr kk idx with
     | some es=>if off+ti.size≤es.length then (zhA (isAgg ti) (((es.drop off).take ti.size).map outC)).map (·,[]) else none
     | none=>none
    | none=>none
   | .c (.bp s l off)=>if off+ti.size≤l.length then (zhA (isAgg ti) (((l.drop off).take ti.size).map (zkp · s))).map (·,[]) else none
   | _=>none
  | none=>none
 | .nilCheck x=>match get x with
  | .c (.ptr i kk idx off)=>some (.c (.ptr i kk idx off),[])
  | .c (.bp s l off)=>some (.c (.bp s l off),[])
  | .c (.fn f cs)=>some (.c (.fn f cs),[])
  | _=>none
 | .binOp op xt x y _=>match get x,get y with
  | .c (.at a),.c (.at b)=>if zp7 T xt a b then (abin pr op a b).map fun v=>(.c (.at v),[]) else none
  | .agg l,.agg m=>match T xt with
   | some ⟨.struct fs,_,_⟩=>if eqIds.contains xt=true∧fs.length=l.length then (match aeqL pr l m with
    | some r=>(aeqV pr op r).map fun v=>(.c (.at v),[])
    | none=>none) else none
   | _=>none
  | _,_=>none
 | .unOp op _ x=>match get x with
  | .c (.at a)=>(aun pr op a).map fun v=>(.c (.at v),[])
  | _=>none
 | .convert src dst x=>match T src,T dst,get x with
  | some _,some ⟨.int k,_,_⟩,.c (.at (.int _ a))=>some (.c (.at (.int k (pr.wrap k a))),[])
  | some _,some ⟨.string,_,_⟩,.c (.at (.string s))=>some (.c (.at (.string s)),[])
  | some ⟨.slice e _ _,_,_⟩,some ⟨.string,_,_⟩,.c y=>match T e with
   | some ⟨.int .u8,_,_⟩=>match frz1 pr L y with
    | some (.sl _ 1 l)=>(pr.str l).map fun s=>(.c (.at (.string s)),[])
    | _=>none
   | _=>none
  | some ⟨.string,_,_⟩,some ⟨.slice e 1 _,_,_⟩,.c (.at (.string s))=>match T e with
   | some ⟨.int .u8,_,_⟩=>if pr.fits 0 (pr.rlen (pr.bytes s)) 1=true then (pr.frz (pr.bytes s) 0 (pr.rlen (pr.bytes s))).map fun l=>(.c (.rd false e 1 l),[]) else none
   | _=>none
  | _,_,_=>none
 | .makeFunc (.func f) first caps=>if first.size=0 then (mapO (cellOf? get) caps.toList).map fun cs=>(.c (.fn f cs),[]) else none
 | .slice t x lo hi none=>match intOf? get lo,intOf? get hi,T t with
  | some lo,some hi,some ⟨.string,_,_⟩=>match get x with
   | .c (.at (.string s))=>(pr.ssub s lo hi).map fun s=>(.c (.at (.string s)),[])
   | _=>none
  | some lo,some hi,some ⟨.slice _ k' _,_,_⟩=>match get x with
   | .c (.rd s e k xs)=>if k=k' then (pr.sub xs lo hi).map fun xs=>(.c (.rd s e k xs),[]) else none
   | .c (.row i e k off m)=>if k=k' then (pr.rsub off m lo hi).map fun (o,m)=>(.c (.row i e k o m),[]) else none
   | .c (.nil e k)=>(pr.rsub 0 0 lo hi).map fun _=>(.c (.nil e k),[])
   | _=>none
  | _,_,_=>none
 | .fieldAddr t x f=>match T t,get x with
  | some ⟨.struct fs,_,_⟩,.c (.ptr i kk idx off)=>match fs[f]? with|some y=>if y.2.1=0 then none else some (.c (.ptr i kk idx (off+y.1)),[])|none=>none
  | some ⟨.struct fs,_,_⟩,.c (.bp s l off)=>match fs[f]? with|some y=>if y.2.1=0 then none else some (.c (.bp s l (off+y.1)),[])|none=>none
  | _,_=>none
 | .field t x f=>match T t,get x with
  | some ⟨.struct fs,_,_⟩,.agg cs=>match fs[f]? with
   | some (off,size,ag)=>if off+size≤cs.length∧size≠0 then (zhA ag ((cs.drop off).take size)).map (·,[]) else none
   | none=>none
  | _,_=>none
 | .indexAddr t x ix=>match T t with
  | some ⟨.slice _ k' _,_,_⟩=>match get x,get ix with
   | .c (.rd s e k l),.c (.at (.int _ a))=>if k=k' then (pr.nth l a).map fun es=>(.c (.bp s es 0),[]) else none
   | .c (.row i e k off m),.c (.at (.int _ a))=>if k=k' then (pr.ridx off m a).map fun j=>(.c (.ptr i k j 0),[]) else none
   | _,_=>none
  | _=>none
 | .index t x ix=>match T t with
  | some ⟨.string,_,_⟩=>match get x,get ix with
   | .c (.at (.string s)),.c (.at (.int _ a))=>(pr.sat s a).map fun b=>(.c (.at (.int .u8 b)),[])
   | _,_=>none
  | _=>none
 | .extract x i=>match get x with
  | .tup l=>(l[i]?).map (·,[])
  | _=>none
 | .call { callee:=.builtin .len,args:=as,argTypes:=ts }=>match as.toList,ts.toList with
  | [x],[t]=>match T t,get x with
   | some ⟨.string,_,_⟩,.c (.at (.string s))=>some (.c (.at (.int .i64 (pr.ssize s))),[])
   | some ⟨.slice _ _ _,_,_⟩,.c (.rd _ _ _ l)=>some (.c (.at (.int .i64 (pr.int (pr.len l)))),[])
   | some ⟨.slice _ _ _,_,_⟩,.c (.row _ _ _ _ m)=>some (.c (.at (.int .i64 (pr.int m))),[])
   | some ⟨.slice _ _ _,_,_⟩,.c (.nil _ _)=>some (.c (.at (.int .i64 0)),[])
   | _,_=>none
  | _,_=>none
 | .call { callee:=.builtin .min,args:=as,.. }=>match as.toList with
  | [x,y]=>match get x,get y with
   | .c (.at a),.c (.at b)=>(amin pr a b).map fun v=>(.c (.at v),[])
   | _,_=>none
  | _=>none
 | .call { callee:=.builtin .max,args:=as,.. }=>match as.toList with
  | [x,y]=>match get x,get y with
   | .c (.at a),.c (.at b)=>(amax pr a b).map fun v=>(.c (.at v),[])
   | _,_=>none
  | _=>none
 | .makeSlice t l c=>match T t with
  | some ⟨.slice e k by_,_,_⟩=>match T e,get l,get c with
   | some ti,.c (.at (.int _ a)),.c (.at (.int _ b))=>if ti.zero.length=ti.size∧ti.size≠0∧ti.zero.all isAt=true then (pr.mkN a b by_).map fun N=>(.c (.row (n 0) e k 0 N),[(n 0,⟨true,false,e,k,pr.rep N (ti.zero.map ownZ)⟩)]) else none
   | _,_,_=>none
  | _=>none
 | _=>none
end Go.Proofs.YtflhdodikmmdcaaGreat
