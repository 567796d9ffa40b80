import Derived.Test.YtflhdodikmmdcaaGreatIds
namespace Go.Proofs.YtflhdodikmmdcaaGreat
open Go.RowKit
set_option linter.unusedVariables false
set_option linter.unusedSimpArgs false
set_option linter.unusedSectionVars false
def curN:Nm:=(0,1,0)
abbrev Fns:=FuncId→List Arg→Option (List Arg)
structure FE where
 fn:Func
 body:Code
 live:Nat→List Nat
section
variable (pr:Prims)
def Bk.full (b:Bk) (off n:Nat):Bool:=if b.lit then off == 0 && n == b.el.length else pr.full off n b.el
def zhf:Cell→Bool
 | .at _=>true
 | .nil _ _=>true
 | .rd _ _ _ _=>true
 | .own _ _ _=>true
 | .dead=>true
 | _=>false
def zbK (el:List (List Cell)):Bool:=el.all fun es=>es.all zhf
def ziC (b:Bk):Bool:=if b.lit then zbK b.el else true
def ziK (hp:List (Nm×Bk)):Cell→Option (Cell×List (Nm×Bk))
 | .row i e k off n=>match look hp i with
  | some b=>if b.isRow∧k=b.k∧e=b.e∧b.full pr off n then (if b.lit then mapO (mapO own0) b.el else pr.own b.el).map fun l=>(.own e k l,del hp i) else none
  | none=>none
 | .at v=>if zk9 v then some (.at v,hp) else none
 | .nil e k=>some (.own e k [],hp)
 | .rd s e k l=>some (.rd s e k l,hp)
 | .own e k l=>some (.own e k l,hp)
 | _=>none
def zcK:List (Nm×Bk)→List Cell→Option (List Cell×List (Nm×Bk))
 | hp,[]=>some ([],hp)
 | hp,x::l=>match ziK pr hp x with
  | some (y,hp)=>(zcK hp l).map fun (ys,hp)=>(y::ys,hp)
  | none=>none
def zcz:List (Nm×Bk)→List (List Cell)→Option (List (List Cell)×List (Nm×Bk))
 | hp,[]=>some ([],hp)
 | hp,x::l=>match zcK pr hp x with
  | some (y,hp)=>(zcz hp l).map fun (ys,hp)=>(y::ys,hp)
  | none=>none
def zipM:List Cell→List Cell→List (Nm×List (List DT))
 | .row r _ _ _ _::cs,.own _ _ l::ds=>(r,l)::zipM cs ds
 | _::cs,_::ds=>zipM cs ds
 | _,_=>[]
def zi3:List (Nm×List (List DT))→Nm→Option (List (List DT))
 | [],_=>none
 | (m,l)::ps,n=>if m=n then some l else zi3 ps n
def retC (hp0:List (Nm×Bk)) (ps:List (Nm×List (List DT))) (x:Cell):Cell:=match x with
 | .row r e k off n=>match zi3 ps r,look hp0 r with
  | some l,some b=>if k≠0∧k=b.k∧e=b.e∧b.full pr off n then .rd false e k l else .row r e k off n
  | _,_=>.row r e k off n
 | x=>x
def retB (hp0:List (Nm×Bk)) (ps:List (Nm×List (List DT))) (b:Bk):Bk:=if b.isRow then b else ⟨b.isRow,b.lit,b.e,b.k,b.el.map fun es=>es.map (retC pr hp0 ps)⟩
def retH (hp0:List (Nm×Bk)) (ps:List (Nm×List (List DT))) (hp:List (Nm×Bk)):List (Nm×Bk):=match ps with
 | []=>hp
 | _::_=>hp.map fun x=>(x.1,retB pr hp0 ps x.2)
def retP (hp0:List (Nm×Bk)) (ps:List (Nm×List (List DT))) (p:PV):PV:=match p with
 | .c x=>.c (retC pr hp0 ps x)
 | .agg l=>.agg (l.map (retC pr hp0 ps))
 | .tup l=>.tup l
def retS (hp0:List (Nm×Bk)) (ps:List (Nm×List (List DT))) (σ:St):St:=match ps with
 | []=>σ
 | _::_=>⟨σ.tm.map (retP pr hp0 ps),retH pr hp0 ps σ.hp,σ.cnt⟩
def zon:List (List Cell)→List (List Cell)→List (Nm×List (List DT))
 | c::cs,d::ds=>zipM c d++zon cs ds
 | _,_=>[]
def srcM (hp0:List (Nm×Bk)) (x:PV) (l:List (List Cell)):List (Nm×List (List DT)):=match x with
 | .c (.row j _ _ off m)=>match look hp0 j with
  | some b=>if b.lit then zon ((b.el.drop off).take m) l else []
  | none=>[]
 | _=>[]
def retM (t:Nat) (hp0:List (Nm×Bk)) (x:PV) (l:List (List Cell)):List (Nm×List (List DT)):=if retTys.contains t then srcM hp0 x l else []
def aput (T:TT) (σ:St) (o:Oper) (p:PV) (nb:List (Nm×Bk)):St :=
 match o.dst with
 | some d=>⟨σ.tm.set d (norm T o.type p),nb++σ.hp,σ.cnt⟩
 | none=>⟨σ.tm,nb++σ.hp,σ.cnt⟩
def nmOf (σ:St) (i:Nat):Nat→Nm:=match σ with|⟨_,_,c⟩=>fun j=>(c,i,j)
theorem zoe (σ:St) (i:Nat):nmOf σ i=fun j=>(σ.cnt,i,j):=rfl
def zxc (ρ:Fns) (g:FuncId) (l:List Arg):Option (List Arg):=match l with
 | []=>ρ g []
 | x::r=>ρ g (x::r)
theorem zk0 (ρ:Fns) (g:FuncId) (l:List Arg):zxc ρ g l=ρ g l:=by cases l<;>rfl
def zog (T:TT) (g:FuncId) (t:Nat) (p:PV):PV:=if nilIds.contains g then p else norm T t p
def wkP (g:Nat):Prims:=bif wkIds.contains g then { pr with opn:=fun l=>(pr.lend false l).getD [] } else pr
def zir (T:TT) (ρ:Fns) (L:Nm→Option Bk) (n:Nat→Nm) (get:Operand→PV) (c:Call):Option (PV×List (Nm×Bk)) :=
 match c.callee with
 | .value f=>match get f with
  | .c (.fn g caps)=>if c.args.size=c.argTypes.size∧g < 2 ^ 40 then match mapO (fun (x,t)=>frzP pr L (zog T g t (get x))) (c.args.toList.zip c.argTypes.toList),mapO (frz2 pr L) caps with
   | some xs,some cs=>match zxc ρ g (xs++cs.map .v) with
    | some [r]=>some (zh2 (wkP pr g) n 0 r)
    | some rs=>match zhz (wkP pr g) n 0 rs with|(ps,b)=>some (.tup ps,b)
    | none=>none
   | _,_=>none
   else none
  | _=>none
 | _=>none
def zlP (T:TT) (σ:St) (t:Nat) (a x:PV):Option St :=
 match T t,a with
 | some ti,.c (.ptr i kk idx off)=>match cellsOf (norm T t x) (isAgg ti),look σ.hp i with
  | some cs,some b=>match b.nth pr kk idx with
   | some es=>if cs.length=ti.size∧off+ti.size≤es.length∧ti.size≠0 then
     match (if b.isRow then zcK pr σ.hp cs else some (cs,σ.hp)) with
     | some (cs',hp)=>match look hp i with
      | some _=>some ⟨σ.tm,retH pr σ.hp (zipM cs cs') (upd hp i ⟨b.isRow,b.lit,b.e,b.k,if b.lit then b.el.set idx (es.take off++cs'++es.drop (off+ti.size)) else pr.rset b.el idx (es.take off++cs'++es.drop (off+ti.size))⟩),σ.cnt⟩
      | none=>none
     | none=>none
    else none
   | none=>none
  | _,_=>none
 | _,_=>none
def asrc (σ:St) (k:Nat):PV→Option (List (List Cell)×List (Nm×Bk))
 | .c (.rd s e k' l)=>if k'=k then (pr.lend s l).map (·,σ.hp) else none
 | .c (.nil e k')=>some ([],σ.hp)
 | .c (.at (.string s))=>if k=1 then some (pr.bytes s,σ.hp) else none
 | .c (.row j e k' off m)=>match look σ.hp j with
  | some b=>if k'=k∧k=b.k then (if b.lit then (if off+m≤b.el.length then zcz pr (del σ.hp j) ((b.el.drop off).take m) else none)
   else match pr.rmov b.el off m with
    | some l=>some (l,upd σ.hp j ⟨b.isRow,b.lit,b.e,b.k,pr.rout b.el off m⟩)
    | none=>none) else none
  | none=>none
 | _=>none
def srcK:TK→Bool
 | .slice _ _ _=>true
 | .string=>true
 | _=>false
def zjl (T:TT) (σ:St) (n:Nm) (o:Oper) (t t':Nat) (s x:PV):Option St :=
 match T t with
 | some ⟨.slice e k by_,_,_⟩=>match T t',T e with
  | some ⟨kx,_,_⟩,some _=>if srcK kx=true∧k≠0∧by_≠0 then match asrc pr σ k x with
   | some (l,hp)=>match norm T t s with
    | .c (.nil _ _)=>if pr.fits 0 (pr.rlen l) by_ then some (retS pr σ.hp (retM t σ.hp x l) (aput T ⟨σ.tm,hp,σ.cnt⟩ o (.c (.row n e k 0 (pr.rlen l))) [(n,⟨true,false,e,k,l⟩)])) else none
    | .c (.row i e' k' off m)=>match look hp i with
     | some b=>if b.isRow∧k'=k∧k=b.k∧e=b.e∧b.full pr off m∧pr.fits m (pr.rlen l) by_∧ziC b then
       some (retS pr σ.hp (retM t σ.hp x l) (aput T ⟨σ.tm,del hp i,σ.cnt⟩ o (.c (.row n e k 0 (pr.addN m (pr.rlen l)))) [(n,⟨true,false,e,k,pr.rapp b.el l⟩)])) else none
     | none=>none
    | _=>none
   | none=>none
   else none
  | _,_=>none
 | _=>none
def zwX (T:TT) (σ:St) (o:Oper) (t t':Nat) (s x:PV):Option St:=(fun _:Prims=>none) pr
def ownC (s:Bool) (L:Nm→Option Bk):Cell→Option DT
 | .row i e k off n=>match L i with
  | some b=>if b.isRow∧k=b.k∧e=b.e∧b.full pr off n then (if b.lit then mapO (mapO own0) b.el else pr.own b.el).map (DT.sl e k)
   else if s=true∧b.isRow=true∧b.lit=false∧k=b.k∧e=b.e then
    (if pr.cmp .eql (pr.int (pr.addN off n)) (pr.int (pr.rlen b.el))=true then
     (if pr.cmp .lss 0 (pr.int n)=true then (match pr.own b.el with
      | some l=>(pr.sub l (some (pr.int off)) none).map (DT.sl e k)
      | none=>none) else none) else none)
   else none
  | none=>none
 | x=>own0 x
def ownP (s:Bool) (L:Nm→Option Bk):PV→Option Arg
 | .c x=>(ownC pr s L x).map .v
 | .agg l=>(mapO (ownC pr s L) l).map .a
 | .tup _=>none
def zdf:Cell→List Nm
 | .row i _ _ _ _=>[i]
 | _=>[]
def zqG:PV→List Nm
 | .c x=>zdf x
 | .agg l=>l.flatMap zdf
 | .tup _=>[]
def zjJ:List Nm→Bool
 | []=>true
 | x::l=>!l.contains x && zjJ l
def mutK:Nat:=2 ^ 40
def zmq:PV→Bool
 | .c (.fn g [])=>mutIds.contains g
 | _=>false
def zBe:PV→Bool
 | .c x=>zkb x
 | .agg l=>l.all zkb
 | .tup _=>false
def ztv:PV→Bool
 | .c x=>zkb x
 | .agg l=>l.all zkb
 | .tup l=>l.all zBe
def zl8 (b:Bk):Bool:=bif b.isRow && !b.lit then pr.calm b.el else b.el.all fun es=>es.all fun x=>zkb x || zkg x
def zjA:List (Nm×Bk)→Bool
 | []=>true
 | x::l=>bif zl8 pr x.2 then zjA l else false
def wbC (hp:List (Nm×Bk)):Cell→DT→Option (List (Nm×Bk))
 | .row i e k off n,.sl e' k' l=>if e=e'∧k=k' then some (upd hp i ⟨true,false,e,k,pr.opn l⟩) else none
 | .at _,.at _=>some hp
 | _,_=>none
def wbL:List (Nm×Bk)→List Cell→List DT→Option (List (Nm×Bk))
 | hp,[],[]=>some hp
 | hp,x::cs,d::ds=>match wbC pr hp x d with
  | some hp=>wbL hp cs ds
  | none=>none
 | _,_,_=>none
def zb5:PV→List Cell
 | .c x=>[x]
 | .agg l=>l
 | .tup _=>[]
def dtsA:Arg→List DT
 | .v d=>[d]
 | .a l=>l
def zl1:PV→Arg→Bool
 | .c _,.v _=>true
 | .agg l,.a l'=>l.length == l'.length
 | _,_=>false
def zj7:List PV→List Arg→Bool
 | [],[]=>true
 | p::ps,y::ys=>zl1 p y && zj7 ps ys
 | _,_=>false
def amut (T:TT) (ρ:Fns) (σ:St) (o:Oper) (f:PV) (as:List Operand) (ts:List Nat):Option St :=
 match f with
 | .c (.fn g [])=>if as.length=ts.length then match mapO (fun (x,t)=>ownP pr false (look σ.hp) (norm T t (σ.get x))) (as.zip ts) with
  | some xs=>match ρ (g+mutK) xs with
   | some (.v (.at r)::ys)=>if zjJ (((as.zip ts).map fun (x,t)=>norm T t (σ.get x)).flatMap zqG)=true∧zj7 ((as.zip ts).map fun (x,t)=>norm T t (σ.get x)) ys=true∧σ.tm.all ztv=true then
     bif zjA pr σ.hp then
      match wbL pr σ.hp (((as.zip ts).map fun (x,t)=>norm T t (σ.get x)).flatMap zb5) (ys.flatMap dtsA) with
      | some hp=>some (aput T ⟨σ.tm,hp,σ.cnt⟩ o (.c (.at r)) [])
      | none=>none
     else none
    else none
   | _=>none
  | none=>none
  else none
 | _=>none
def rowE (g:Nat):Option Nat:=(rowIds.find? fun x=>Nat.beq x.1 g).map (·.2)
def zmb:PV→Bool
 | .c (.fn g [])=>conIds.contains g || (rowE g).isSome
 | _=>false
def zml:Nm→Bool
 | (a,b,c)=>Nat.beq a 0 && (Nat.beq b 1 && Nat.beq c 0)
def dels (hp:List (Nm×Bk)):List Nm→List (Nm×Bk)
 | []=>hp
 | n::l=>dels (del hp n) l
def conR (hp:List (Nm×Bk)) (i:Nm):List PV→Option (List Arg×List Nm)
 | [.c (.fn f caps)]=>if caps.all ztu then (frz pr (look (del hp i)) (.fn f caps)).map fun d=>([.v d],[]) else none
 | [.c (.at u),.c (.row j e k off n)]=>match look hp j with
  | some b=>match b.lit,b.el with
   | true,[es]=>if off=0∧n=1∧k=b.k∧es.all (fun x=>!zkg x)=true∧zjJ (i::j::es.flatMap zdf)=true then (mapO (ownC pr false (look hp)) es).map fun ds=>([.v (.at u),.v (.sl e k [ds])],es.flatMap zdf) else none
   | _,_=>none
  | none=>none
 | _=>none
def zwV (T:TT) (ρ:Fns) (σ:St) (n:Nm) (o:Oper) (g:Nat) (i:Nm) (d:Option DT) (r:Option (List Arg×List Nm)):Option St :=
 match d,r with
 | some d,some (xs,ns)=>match ρ (g+mutK) (.v d::xs) with
  | some [.v (.sl e k l)]=>if σ.tm.all ztv=true then bif zjA pr σ.hp then some (aput T ⟨σ.tm,dels (del σ.hp i) ns,σ.cnt⟩ o (.c (.row n e k 0 (pr.len l))) [(n,⟨true,false,e,k,pr.opn l⟩)]) else none else none
  | _=>none
 | _,_=>none
def zsb (i:Nm) (el:List (List Cell)):Option (List (List DT)):=match zml i with
 | true=>pr.fz1 el
 | false=>pr.frz el 0 (pr.rlen el)
def zw6 (T:TT) (σ:St) (o:Oper) (i:Nm) (e k:Nat) (l:List (List DT)):Option (List Arg)→Option St
 | some [.v (.sl e2 k2 l')]=>(match Nat.beq e2 e && Nat.beq k2 k with
  | true=>(match pr.lend (zml i) l' with
   | some el'=>bif pr.full 0 (pr.len l) el' then some (aput T ⟨σ.tm,upd σ.hp i ⟨true,false,e,k,el'⟩,σ.cnt⟩ o (.tup []) []) else none
   | none=>none)
  | false=>none)
 | _=>none
def zw5 (T:TT) (ρ:Fns) (σ:St) (o:Oper) (g:Nat) (i:Nm) (e k n:Nat) (el:List (List Cell)) (ps:List PV):Option St:=bif pr.full 0 n el then
  (match zsb pr i el,mapO (frzP pr (look (del σ.hp i))) ps with
  | some l,some xs=>zw6 pr T σ o i e k l (ρ (g+mutK) (.v (.sl e k l)::xs))
  | _,_=>none)
 else none
def arow (T:TT) (ρ:Fns) (σ:St) (o:Oper) (g e:Nat):List PV→Option St
 | .c (.row i e0 k0 0 n)::ps=>(match look σ.hp i with
  | some ⟨true,false,e',k',el⟩=>(match Nat.beq e e0 && (Nat.beq e e' && Nat.beq k0 k') with
   | true=>zw5 pr T ρ σ o g i e k0 n el ps
   | false=>none)
  | _=>none)
 | _=>none
def acon (T:TT) (ρ:Fns) (σ:St) (n:Nm) (o:Oper) (f:PV) (as:List Operand) (ts:List Nat):Option St :=
 match f with
 | .c (.fn g [])=>if as.length=ts.length then match rowE g with
  | some e=>arow pr T ρ σ o g e ((as.zip ts).map (fun (x,t)=>norm T t (σ.get x)):List PV)
  | none=>match ((as.zip ts).map (fun (x,t)=>norm T t (σ.get x)):List PV) with
  | .c (.row i e k off m)::ps=>zwV pr T ρ σ n o g i (ownC pr false (look σ.hp) (.row i e k off m)) (conR pr σ.hp i ps)
  | _=>none
  else none
 | _=>none
def curE (g:Nat):Option Nat:=(curIds.find? fun x=>Nat.beq x.1 g).map (·.2)
def newE (g:Nat):Option Nat:=(newIds.find? fun x=>Nat.beq x.1 g).map (·.2)
def zBl:PV→Bool
 | .c (.fn g [])=>shrIds.contains g || ((newE g).isSome || (borIds.contains g || parIds.contains g))
 | _=>false
def zn8:PV→Bool
 | .c (.fn g [])=>(curE g).isSome
 | _=>false
def okNm (c i:Nat) (nb:List (Nm×Bk)):Bool:=nb.all fun x=>decide (x.1.1=c∧x.1.2.1=i)
def litB (nb:List (Nm×Bk)):Bool:=nb.all fun x=>x.2.lit || !x.2.isRow
def mkOp:Op→Bool
 | .makeSlice _ _ _=>true
 | _=>false
def zn5 (T:TT) (σ:St) (i:Nat) (o:Oper):Option (PV×List (Nm×Bk))→Option St
 | some (p,nb)=>if okNm σ.cnt i nb && (mkOp o.op || litB nb) then some (aput T σ o p nb) else none
 | none=>none
def zn6 (T:TT) (σ:St) (i:Nat) (o:Oper):Option (PV×List (Nm×Bk))→Option St
 | some (p,nb)=>if okNm σ.cnt i nb then some (aput T σ o p nb) else none
 | none=>none
def acur (T:TT) (ρ:Fns) (σ:St) (i:Nat) (o:Oper) (f:PV) (as:List Operand) (ts:List Nat):Option St:=(fun _:Prims=>none) pr
def tArg:PV→Option Arg
 | .c x=>(boxD x).map .v
 | .agg l=>(mapO boxD l).map .a
 | .tup _=>none
def boxE:Cell→Option DT
 | .at v=>some (.at v)
 | .rd _ e k l=>some (.sl e k l)
 | _=>none
def ztE:PV→Option Arg
 | .c x=>(boxE x).map .v
 | .agg l=>(mapO boxE l).map .a
 | .tup _=>none
def zl3 (s:Bool):Arg→PV
 | .v d=>.c (zkp d s)
 | .a l=>.agg (l.map (zkp · s))
def zBk (rs:List Arg):PV:=match rs with
 | [r]=>zl3 false r
 | rs=>.tup (rs.map (zl3 false))
def anew (T:TT) (ρ:Fns) (σ:St) (i:Nat) (o:Oper) (g e:Nat) (xs:Option (List Arg)):Option St:=none
def zw9 (T:TT) (ρ:Fns) (σ:St) (o:Oper) (g:Nat) (xs:Option (List Arg)):Option St:=match xs with
 | some xs=>match zxc ρ (g+mutK) xs with
  | some (.v (.fn 1 [])::rs)=>some (aput T σ o (zBk rs) [])
  | _=>none
 | none=>none
def acv (T:TT) (ρ:Fns) (σ:St) (o:Oper) (g e:Nat) (ps:List PV):Option St:=none
def acb (T:TT) (ρ:Fns) (σ:St) (i:Nat) (o:Oper) (g e:Nat) (ps:List PV):Option St:=(fun _:Prims=>none) pr
def acp (T:TT) (ρ:Fns) (σ:St) (o:Oper) (g e:Nat) (ps:List PV):Option St:=(fun _:Prims=>none) pr
def ashr (T:TT) (ρ:Fns) (σ:St) (i:Nat) (o:Oper) (f:PV) (as:List Operand) (ts:List Nat):Option St:=match f with
 | .c (.fn g [])=>if as.length=ts.length then match newE g with
  | some e=>anew T ρ σ i o g e (mapO tArg ((as.zip ts).map (fun (x,t)=>norm T t (σ.get x)):List PV))
  | none=>match curE g with
   | some e=>(match borIds.contains g with
    | true=>acb pr T ρ σ i o g e ((as.zip ts).map (fun (x,t)=>norm T t (σ.get x)):List PV)
    | false=>(match parIds.contains g with
     | true=>acp pr T ρ σ o g e ((as.zip ts).map (fun (x,t)=>norm T t (σ.get x)):List PV)
     | false=>acv T ρ σ o g e ((as.zip ts).map (fun (x,t)=>norm T t (σ.get x)):List PV)))
   | none=>zw9 T ρ σ o g (mapO ztE ((as.zip ts).map (fun (x,t)=>norm T t (σ.get x)):List PV))
  else none
 | _=>none
def ziZ (T:TT) (ρ:Fns) (σ:St) (i:Nat) (o:Oper):Option St :=
 match o.op with
 | .store t a x=>(zlP pr T σ t (σ.get a) (σ.get x)).map fun σ=>aput T σ o (.c (.at undef)) []
 | .call { callee:=.builtin .append,args:=as,argTypes:=ts }=>match as.toList,ts.toList with
  | [s,x],[t,t']=>zjl pr T σ (σ.cnt,i,0) o t t' (σ.get s) (norm T t' (σ.get x))
  | _,_=>none
 | .call { callee:=.builtin .copy,args:=as,argTypes:=ts }=>match as.toList,ts.toList with
  | [s,x],[t,t']=>zwX pr T σ o t t' (σ.get s) (norm T t' (σ.get x))
  | _,_=>none
 | .call { callee:=.value f,args:=as,argTypes:=ts }=>bif zmq (σ.get f) then amut pr T ρ σ o (σ.get f) as.toList ts.toList else bif zmb (σ.get f) then acon pr T ρ σ (σ.cnt,i,0) o (σ.get f) as.toList ts.toList else bif zn8 (σ.get f) then acur pr T ρ σ i o (σ.get f) as.toList ts.toList else zn6 T σ i o (zir pr T ρ (look σ.hp) (nmOf σ i) σ.get { callee:=.value f,args:=as,argTypes:=ts })
 | _=>zn5 T σ i o (zdc pr T (look σ.hp) (nmOf σ i) σ.get o)
def vshr (T:TT) (ρ:Fns) (σ:St) (i:Nat) (o:Oper):Option (Option St):=match o.op with
 | .call { callee:=.value f,args:=as,argTypes:=ts }=>bif zBl (σ.get f) then some (ashr pr T ρ σ i o (σ.get f) as.toList ts.toList) else none
 | _=>none
def zBs (T:TT) (σ:St) (i:Nat) (o:Oper) (t:Nat) (n:Nm) (kk idx off:Nat) (b:Bk):Option (Option St):=match T t,b.nth pr kk idx with
 | some ti,some es=>(match es[off]?,Nat.beq ti.size 1 && !isAgg ti with
  | some (.own e k l),true=>some (match σ.tm.all ztv with
   | true=>(match zjA pr σ.hp with
    | true=>some (aput T ⟨σ.tm,upd σ.hp n ⟨true,false,b.e,b.k,pr.rset b.el idx (es.set off .dead)⟩,σ.cnt⟩ o (.c (.row (σ.cnt,i,0) e k 0 (pr.len l))) [((σ.cnt,i,0),⟨true,false,e,k,pr.opn l⟩)])
    | false=>none)
   | false=>none)
  | _,_=>none)
 | _,_=>none
def zw8 (T:TT) (σ:St) (i:Nat) (o:Oper):Option (Option St):=match o.op with
 | .load t x=>(match tkfIds.contains t with
  | true=>(match σ.get x with
   | .c (.ptr n kk idx off)=>(match look σ.hp n with
    | some b=>(match b.isRow && !b.lit with
     | true=>zBs pr T σ i o t n kk idx off b
     | false=>none)
    | none=>none)
   | _=>none)
  | false=>none)
 | _=>none
def zBc (T:TT) (σ:St) (i:Nat) (o:Oper):Option (Option St):=(fun _:Prims=>none) pr
def zyd (T:TT) (ρ:Fns) (σ:St) (i:Nat) (o:Oper):Option St:=match vshr pr T ρ σ i o with
 | some r=>r
 | none=>match zBc pr T σ i o with
  | some r=>r
  | none=>match zw8 pr T σ i o with
   | some r=>r
   | none=>ziZ pr T ρ σ i o
end
def nmNe (m n:Nm):Bool:=match m,n with|(a,b,c),(d,e,f)=>!(Nat.beq a d && (Nat.beq b e && Nat.beq c f))
def notP (n:Nm):PV→Bool
 | .c (.ptr m _ _ _)=>nmNe m n
 | _=>true
def zi2 (n:Nm) (σ:St) (o:Oper):Bool:=match o.op with
 | .store _ a _=>(match σ.get a with
  | .c (.ptr m _ _ _)=>nmNe m n && (match look σ.hp m with
   | some b=>!b.isRow
   | none=>false)
  | _=>false)
 | .call { callee:=.builtin .append,.. }=>false
 | .call { callee:=.builtin .copy,.. }=>false
 | .call { callee:=.value f,args:=as,.. }=>(match zmq (σ.get f) || zmb (σ.get f) with
  | true=>false
  | false=>as.toList.all fun x=>notP n (σ.get x))
 | .load t x=>(match takIds.contains t with
  | true=>notP n (σ.get x)
  | false=>true)
 | _=>true
def zlt (σ:St) (d:Option Nat):Option (Option Bool) :=
 match d with
 | none=>some none
 | some t=>match σ.tm[t]? with
  | some (.c (.at (.bool b)))=>some (some b)
  | some (.c (.at (.tuple _)))=>some none
  | _=>none
def zuG (T:TT) (σ:St) (o:Oper):Option (List (List DT)) :=
 match o.op with
 | .binOp .eql t x (.const (.slice none 0 0)) _=>match T t with
  | some ⟨.slice _ _ _,_,_⟩=>match σ.get x with
   | .c (.rd _ _ _ l)=>some l
   | _=>none
  | _=>none
 | _=>none
section
variable (pr:Prims)
def rebC (L:Nm→Option Bk) (x:Cell):Cell:=match x with
 | .at v=>.at v
 | .nil e k=>.nil e k
 | .rd _ e k l=>.rd true e k l
 | .row i e k off n=>match frz pr L (.row i e k off n) with
  | some (.sl e' k' l)=>.rd true e' k' l
  | _=>.dead
 | .ptr i k idx off=>match L i with
  | some b=>match b.nth pr k idx with
   | some es=>match mapO frz0 es with
    | some ds=>.bp true ds off
    | none=>.dead
   | none=>.dead
  | none=>.dead
 | _=>.dead
def rebP (L:Nm→Option Bk) (p:PV):PV:=match p with
 | .c x=>.c (rebC pr L x)
 | .agg l=>.agg (l.map (rebC pr L))
 | .tup _=>.c .dead
def rebS (σ:St):St:=⟨σ.tm.map (rebP pr (look σ.hp)),[],σ.cnt⟩
def zBu (T:TT) (ρ:Fns) (σ:St) (o:Oper):Option (Option PV):=(fun _:Prims=>none) pr
end
section
variable {β:Type} (pr:Prims)
def areg (T:TT) (ρ:Fns) (ops:Array Oper):List Oper→Nat→St→(St→Option β)→Option β
 | [],_,σ,k=>k σ
 | o::r,i,σ,k=>match o.guard with
  | none=>match zuG T σ o with
   | some l=>pr.both (pr.len l) (areg T ρ ops r (i+1) (aput T σ o (.c (.at (.bool false))) []) k) (areg T ρ ops r (i+1) (aput T σ o (.c (.at (.bool true))) []) k)
   | none=>match zBu pr T ρ σ o with
    | some (some p)=>areg T ρ ops r (i+1) (aput T (rebS pr σ) o p []) k
    | some none=>none
    | none=>match zyd pr T ρ σ i o with
     | some σ'=>areg T ρ ops r (i+1) σ' k
     | none=>none
  | some (j,want)=>match zlt σ ((ops[j]?).bind (·.dst)) with
   | some (some b)=>if b=want then (match ziZ pr T ρ σ i o with
     | some σ'=>areg T ρ ops r (i+1) σ' k
     | none=>none) else areg T ρ ops r (i+1) (aput T σ o (.c (.at undef)) []) k
   | some none=>areg T ρ ops r (i+1) (aput T σ o (.c (.at undef)) []) k
   | none=>none
def effB:Op→Bool
 | .store _ _ _=>true
 | .call { callee:=.builtin .append,.. }=>true
 | .call { callee:=.builtin .copy,.. }=>true
 | .call { callee:=.value (.func g),.. }=>conIds.contains g || (rowE g).isSome || (curE g).isSome || (shrIds.contains g || (newE g).isSome)
 | _=>false
def zk7 (ms:List Nat) (o:Oper):Nat:=o.after.toList.foldl (fun s e=>if Region.binds .any e then s ||| 2 ^ e.on ||| ms.getD e.on 0 else s) 0
def zel:List Oper→List Nat→List Nat
 | [],ms=>ms
 | o::l,ms=>zel l (ms++[zk7 ms o])
def zod (c m:Nat) (L:Nm→Option Bk) (n:Nm):Option Bk:=if n.1=c∧Nat.testBit m n.2.1=false then none else L n
def ztB (c i:Nat) (lit:Bool):Option (PV×List (Nm×Bk))→Option (PV×List (Nm×Bk))
 | some (p,nb)=>if okNm c i nb && (!lit || litB nb) then some (p,nb) else none
 | none=>none
def zBi (t:Nat):List Oper→Nat→Option Nat
 | [],_=>none
 | p::l,j=>if p.dst=some t then (match p.op with|.buildSlice _ 0 _=>some j|_=>none) else zBi t l (j+1)
def zCu (ops:Array Oper) (o:Oper):Bool:=match o.dst with
 | some d=>ops.toList.any fun p=>match p.op with
  | .call { callee:=.builtin .append,args:=as,.. }=>(match as.toList with|.tmp t::_=>t == d|_=>false)
  | _=>false
 | none=>false
def zdd (ops:Array Oper) (o:Oper):Option Nat :=
 match o.op with
 | .call { callee:=.builtin .append,args:=as,argTypes:=ts }=>match as.toList,o.guard with
  | [.tmp t,_],none=>bif zCu ops o then none else zBi t ops.toList 0
  | _,_=>none
 | _=>none
def ztw (ops:Array Oper) (d:Nat):List Oper→Nat→Option Nat
 | [],_=>none
 | o::l,j=>if zdd ops o=some d then some j else ztw ops d l (j+1)
def ztD (ops:Array Oper) (o:Oper):Bool:=effB o.op && (zdd ops o).isNone
def cons (ops:Array Oper) (d:Nat):Option Nat:=ztw ops d ops.toList 0
def zoc (ops:Array Oper) (c m:Nat) (L:Nm→Option Bk) (n:Nm):Option Bk:=if n.1=c∧(Nat.testBit m n.2.1=false∨(cons ops n.2.1).isSome=true) then none else L n
def delE (ops:Array Oper) (σ:St) (o:Oper):St:=match zdd ops o with
 | some d=>⟨σ.tm,del σ.hp (σ.cnt,d,0),σ.cnt⟩
 | none=>σ
def zgd (T:TT) (ops:Array Oper) (σ:St) (o:Oper) (p:PV) (nb:List (Nm×Bk)):St:=aput T (delE ops σ o) o p nb
def aeat (T:TT) (σ:St) (i m d:Nat) (o:Oper):Option (PV×List (Nm×Bk)) :=
 match o.op with
 | .call { callee:=.builtin .append,args:=as,argTypes:=ts }=>match as.toList,ts.toList with
  | [s,x],[t,t']=>match T t with
   | some ⟨.slice e k by_,_,_⟩=>match T t',T e with
    | some ⟨kx,_,_⟩,some _=>if srcK kx=true∧k≠0∧by_≠0 then match norm T t' (σ.get x) with
     | .c (.rd s' e'' k'' l'')=>if k''=k then match pr.lend s' l'' with
      | some l=>match norm T t (σ.get s) with
       | .c (.row i' e' k' off n')=>match zod σ.cnt m (look σ.hp) i' with
        | some b=>if b.isRow∧k'=k∧k=b.k∧e=b.e∧b.full pr off n'∧pr.fits n' (pr.rlen l) by_∧ziC b then
          if i'=(σ.cnt,d,0)∧(σ.hp.all fun x=>!decide (x.1.1=σ.cnt∧x.1.2.1=d) || decide (x.1=i'))=true then
           some (.c (.row (σ.cnt,i,0) e k 0 (pr.addN n' (pr.rlen l))),[((σ.cnt,i,0),⟨true,false,e,k,pr.rapp b.el l⟩)])
          else none
         else none
        | none=>none
       | _=>none
      | none=>none
      else none
     | _=>none
     else none
    | _,_=>none
   | _=>none
  | _,_=>none
 | _=>none
def ares (T:TT) (ρ:Fns) (ops:Array Oper) (σ:St) (i m:Nat) (o:Oper):Option (PV×List (Nm×Bk)) :=
 match zdd ops o with
 | some d=>aeat pr T σ i m d o
 | none=>match o.op with
  | .call { callee:=.value f,args:=as,argTypes:=ts }=>bif zmq (σ.get f) || (zmb (σ.get f) || zn8 (σ.get f)) then none else ztB σ.cnt i false (zir pr T ρ (zoc ops σ.cnt m (look σ.hp)) (nmOf σ i) σ.get { callee:=.value f,args:=as,argTypes:=ts })
  | _=>ztB σ.cnt i (!mkOp o.op) (zdc pr T (zoc ops σ.cnt m (look σ.hp)) (nmOf σ i) σ.get o)
def zls (ops:Array Oper) (f i:Nat):List Oper:=(ops.toList.drop f).take 1++((ops.toList.drop i).take (f - i)++ops.toList.drop (f+1))
def zxl (T:TT) (ρ:Fns) (ops:Array Oper) (L:Nat×Nat) (i:Nat) (σ:St) (k:St→Option β) (x:Option β):Option β:=bif Nat.ble L.1 i then pr.both 0 x (areg pr T ρ ops (zls ops L.2 i) i σ k) else x
def zkE (T:TT) (ρ:Fns) (ops:Array Oper) (M:List Nat) (L:Nat×Nat):List Oper→Nat→St→(St→Option β)→Option β
 | [],_,σ,k=>k σ
 | o::r,i,σ,k=>if ztD ops o then areg pr T ρ ops (o::r) i σ k else zxl pr T ρ ops L i σ k (match o.guard with
  | none=>match ares pr T ρ ops σ i (M.getD i 0) o with
   | some (p,nb)=>zkE T ρ ops M L r (i+1) (zgd T ops σ o p nb) k
   | none=>none
  | some (j,want)=>match zlt σ ((ops[j]?).bind (·.dst)) with
   | some (some b)=>if b=want then (match ares pr T ρ ops σ i (M.getD i 0) o with
     | some (p,nb)=>zkE T ρ ops M L r (i+1) (zgd T ops σ o p nb) k
     | none=>none) else zkE T ρ ops M L r (i+1) (zgd T ops σ o (.c (.at undef)) []) k
   | some none=>zkE T ρ ops M L r (i+1) (zgd T ops σ o (.c (.at undef)) []) k
   | none=>none)
def zx (ops:Array Oper):List Oper→Nat
 | []=>0
 | o::l=>if ztD ops o=true then 0 else zx ops l+1
def zkF (o:Oper):Bool:=(match o.op with
 | .move (.tmp _)=>true
 | .extract (.tmp _) _=>true
 | _=>false) && o.guard.isNone
def tOp (o:Oper):Bool:=(match o.op with
 | .move (.tmp _)=>true
 | .extract (.tmp _) _=>true
 | .slice _ (.tmp _) _ _ none=>true
 | _=>false) && o.guard.isNone
def zlp (ops:Array Oper) (o:Oper):Array Bool:=(Array.range ops.size).map fun j=>o.after.any fun e=>Region.binds .any e && e.on == j
def zjD (ops:Array Oper):Nat→Nat→Bool
 | 0,_=>false
 | n+1,q=>match ops[q]? with
  | some o=>match tOp o with
   | true=>(match Region.noSelect ops && Region.free .any ops (zlp ops o) q with
    | true=>o.after.all (fun e=>match Region.binds .any e with
     | true=>zjD ops n e.on
     | false=>true)
    | false=>false)
   | false=>false
  | none=>false
def zrg (ops:Array Oper):List Oper→Nat→Nat
 | [],_=>0
 | o::l,i=>bif ztD ops o then 2 ^ i+zrg ops l (i+1) else zrg ops l (i+1)
def zDq (a:Nat):Bool:=bif Nat.beq a 0 then false else !Nat.beq (Nat.land a (Nat.pred a)) 0
def zxA (s:Nat):Bool:=bif Nat.beq s 0 then false else zDq (Nat.land s (Nat.pred s))
def zxB (ops:Array Oper):Bool:=zxA (zrg ops ops.toList 0)
def zC3 (ops:Array Oper) (m:Nat) (b:Bool) (j:Nat):Bool:=match Nat.testBit m j with
 | true=>false
 | false=>match (match ops[j]? with|some o=>zkF o|none=>true) with
  | true=>false
  | false=>match b with
   | true=>!zjD ops 4 j
   | false=>true
def zyY (ops:Array Oper) (m f:Nat):Nat×Nat:=match Nat.blt f ops.size with
 | true=>(((List.range f).find? (zC3 ops m (zxB ops))).getD f,f)
 | false=>(f,f)
def zyZ (ops:Array Oper) (M:List Nat) (f:Nat):Nat×Nat:=zyY ops (M.getD f 0) f
def zmh (ops:Array Oper) (M:List Nat):Nat×Nat:=zyZ ops M (zx ops ops.toList)
def posL:List Nat→Nat→Nat→Nat
 | [],_,k=>k
 | x::l,i,k=>if x=i then k else posL l i (k+1)
def reO (p:List Nat) (o:Oper):Oper:={ o with after:=o.after.map fun e=>{ e with on:=posL p e.on 0 } }
def zko (ops:Array Oper) (p:List Nat):Array Oper:=match ops.toList with
 | []=>#[]
 | o0::_=>(p.map fun i=>reO p (ops.toList.getD i o0)).toArray
def ztC (ops:Array Oper) (p:List Nat):Bool :=
 decide (p.length=ops.size) && ((List.range ops.size).all (fun i=>decide (posL p i 0 < ops.size) && decide (p.getD (posL p i 0) 0=i) && decide (p.getD i 0 < ops.size) && decide (posL p (p.getD i 0) 0=i)) &&
  ops.toList.all fun o=>o.guard.isNone && o.after.toList.all fun e=>decide (e.on < ops.size))
def zp5 (M:List Nat) (s i:Nat):Bool:=Nat.testBit s i || !Nat.beq (Nat.land (M.getD i 0) s) 0
def zmF (ops:Array Oper) (p:List Nat):Array Oper:=bif ztC ops p then zko ops p else ops
def zDv (ops:Array Oper) (M:List Nat) (s:Nat) (E:List Nat):List Nat:=E++((List.range ops.size).filter (fun i=>!(zp5 M s i || E.contains i))++(List.range ops.size).filter (fun i=>zp5 M s i && !E.contains i))
def zBm (ops:Array Oper) (M:List Nat) (f s:Nat):Array Oper:=match zxA s with
 | true=>zmF ops (zDv ops M s ((List.range ops.size).filter (zjD ops 4)))
 | false=>match (List.range ops.size).all (fun i=>Nat.blt i f || zp5 M s i) with
  | true=>ops
  | false=>zmF ops ((List.range ops.size).filter (fun i=>!zp5 M s i)++(List.range ops.size).filter (zp5 M s))
def zy0 (m f n:Nat):List Nat:=(List.range f).filter (fun i=>Nat.testBit m i)++((List.range f).filter (fun i=>!Nat.testBit m i)++(List.range (n - f)).map (f+·))
def zzU (ops:Array Oper) (p:List Nat):Array Oper:=bif p == List.range ops.size then ops else zmF ops p
def zzT (ops:Array Oper) (f:Nat):Array Oper:=bif Nat.blt f ops.size then zzU ops (zy0 ((zel ops.toList []).getD f 0) f ops.size) else ops
def zrd (ops:Array Oper):Array Oper:=zzT ops (zx ops ops.toList)
def zre (ops:Array Oper):Array Oper:=zBm ops (zel ops.toList []) (zx ops ops.toList) (zrg ops ops.toList 0)
def zok (ops:Array Oper):Array Oper:=zrd (zre ops)
def zyu (T:TT) (ρ:Fns) (ops:Array Oper) (M:List Nat) (σ:St) (k:St→Option β):Option β:=zkE pr T ρ ops M (zmh ops M) ops.toList 0 σ k
def zyt (T:TT) (ρ:Fns) (ops:Array Oper) (σ:St) (k:St→Option β):Option β:=zyu pr T ρ ops (zel ops.toList []) σ k
def zw0 (T:TT) (ρ:Fns) (ops:Array Oper) (σ:St) (k:St→Option β):Option β:=zyt pr T ρ (zok ops) σ k
inductive Ex where
 | normal
 | exit (id:Nat)
 | ret
structure CS where
 m:List (Nm×Nm)
 hp:List (Nm×Bk)
 nx:Nat
def CS.nm (s:CS):Nm:=(0,0,s.nx)
def ren (m:List (Nm×Nm)) (i:Nm):Option Nm :=
 match m with
 | []=>none
 | (j,b)::r=>if j=i then some b else ren r i
def zcJ (hp:List (Nm×Bk)) (s:CS):Cell→CS×Cell
 | .row i e k off n=>match ren s.m i with
  | some j=>(s,.row j e k off n)
  | none=>match look hp i with
   | some b=>if b.isRow && ziC b then (⟨(i,s.nm)::s.m,s.hp++[(s.nm,{ b with lit:=false })],s.nx+1⟩,.row s.nm e k off n) else (s,.dead)
   | none=>(s,.dead)
 | .nil e k=>(⟨s.m,s.hp++[(s.nm,⟨true,false,e,k,[]⟩)],s.nx+1⟩,.row s.nm e k 0 0)
 | .at v=>(s,.at v)
 | .rd b e k l=>(s,.rd b e k l)
 | .bp b l off=>(s,.bp b l off)
 | _=>(s,.dead)
def zfe (hp:List (Nm×Bk)):CS→List Cell→CS×List Cell
 | s,[]=>(s,[])
 | s,x::l=>match zcJ hp s x with
  | (s,y)=>match zfe hp s l with
   | (s,ys)=>(s,y::ys)
def zbF (hp:List (Nm×Bk)) (s:CS):Cell→CS×Cell
 | .ptr i kk idx off=>match ren s.m i with
  | some j=>(s,.ptr j kk idx off)
  | none=>match look hp i with
   | some b=>if b.isRow then (if ziC b then (⟨(i,s.nm)::s.m,s.hp++[(s.nm,{ b with lit:=false })],s.nx+1⟩,.ptr s.nm kk idx off) else (s,.dead)) else
    match b.el with
    | [es]=>match zfe hp ⟨(i,s.nm)::s.m,s.hp,s.nx+1⟩ es with
     | (s',es')=>(⟨s'.m,(s.nm,{ b with el:=[es'] })::s'.hp,s'.nx⟩,.ptr s.nm kk idx off)
    | _=>(s,.dead)
   | none=>(s,.dead)
 | x=>zcJ hp s x
def zeA (hp:List (Nm×Bk)):CS→List Cell→CS×List Cell
 | s,[]=>(s,[])
 | s,x::l=>match zbF hp s x with
  | (s,y)=>match zeA hp s l with
   | (s,ys)=>(s,y::ys)
def zjB (hp:List (Nm×Bk)) (s:CS):PV→CS×PV
 | .c (.fn f caps)=>match zeA hp s caps with|(s,cs)=>(s,.c (.fn f cs))
 | .c x=>match zbF hp s x with|(s,y)=>(s,.c y)
 | .agg l=>match zeA hp s l with|(s,ys)=>(s,.agg ys)
 | .tup _=>(s,.c .dead)
def ziJ (σ:St):CS→List Nat→List PV→CS×List PV
 | s,[],tm=>(s,tm)
 | s,t::r,tm=>match zjB σ.hp s (σ.tm.getD t (.c .dead)) with|(s,p)=>ziJ σ s r (tm.set t p)
def zmD (hp:List (Nm×Bk)):List (Nm×Bk):=match look hp curN with
 | some b=>if b.isRow then (if b.lit then [] else [(curN,b)]) else if zbK b.el then [(curN,b)] else []
 | none=>[]
def zek (lv:List Nat) (σ:St):St :=
 match ziJ σ ⟨[(curN,curN)],zmD σ.hp,0⟩ lv (List.replicate σ.tm.length (.c .dead)) with
 | (s,tm)=>⟨tm,s.hp,1⟩
def zdb (F:St→(Ex→St→Option β)→Option β) (lv:List Nat):Nat→St→(Ex→St→Option β)→Option β
 | 0,_,_=>none
 | m+1,σ,k=>F (zek lv σ) fun e σ'=>match e with
  | .normal=>zdb F lv m σ' k
  | e=>k e σ'
def fuel:Nat:=2 ^ 62
def first:Code→Nat
 | .region id _ _=>id
 | .seq a _=>first a
 | .block _ c=>first c
 | .loop c=>first c
 | .scope c=>first c
 | _=>0
def cx:List Nat→St→St
 | [],σ=>σ
 | _::l,σ=>zek l σ
def zCz (el:List (List Cell)):Bool:=el.any fun es=>es.any fun x=>match x with
 | .row _ _ _ _ _=>true
 | _=>false
def zlZ (σ:St) (t e k:Nat) (el:List (List Cell)) (m:Nat):St:=match el,m with
 | [],0=>(match rdTys.contains (4096*e+t) with
  | true=>⟨σ.tm.set t (.c (.rd false e k [])),σ.hp,σ.cnt⟩
  | false=>σ)
 | _,_=>σ
def zl0 (σ:St) (t:Nat):St:=match σ.tm.getD t (.c .dead) with
 | .c (.row n _ _ _ m)=>match look σ.hp n with
  | some ⟨true,true,e,k,el⟩=>(match zCz el with
   | true=>(match zcz pr (del σ.hp n) el with
    | some (el',hp')=>⟨σ.tm,(n,⟨true,false,e,k,el'⟩)::hp',σ.cnt⟩
    | none=>σ)
   | false=>zlZ σ t e k el m)
  | _=>σ
 | _=>σ
def zlY:List Nat→St→St
 | [],σ=>σ
 | t::r,σ=>zlY r (zl0 pr σ t)
abbrev zjw (β:Type):=(St→(Ex→St→Option β)→Option β)→List Nat→St→(Ex→St→Option β)→Option β
def ziY (al:zjw β) (T:TT) (ρ:Fns) (lv:Nat→List Nat):Code→St→(Ex→St→Option β)→Option β
 | .skip,σ,k=>k .normal σ
 | .label _,σ,k=>k .normal σ
 | .region _ ops d,σ,k=>match d with
  | true=>zw0 pr T ρ ops σ fun σ'=>k .normal ⟨σ'.tm,σ'.hp,σ'.cnt+1⟩
  | false=>areg pr T ρ ops ops.toList 0 σ fun σ'=>k .normal ⟨σ'.tm,σ'.hp,σ'.cnt+1⟩
 | .seq a b,σ,k=>ziY al T ρ lv a σ fun e σ'=>match e with
  | .normal=>ziY al T ρ lv b σ' k
  | e=>k e σ'
 | .cond c x y,σ,k=>match σ.get c with
  | .c (.at (.bool b))=>if b=true then ziY al T ρ lv x σ k else ziY al T ρ lv y σ k
  | _=>none
 | .block id c,σ,k=>ziY al T ρ lv c σ fun e σ'=>match e with
  | .exit j=>if j=id then k .normal σ' else k (.exit j) σ'
  | e=>k e σ'
 | .loop c,σ,k=>al (fun σ k=>ziY al T ρ lv c σ k) (lv (first c)) (zlY pr (lv (first c)) σ) k
 | .exit id,σ,k=>k (.exit id) (cx (lv (id+1048576)) σ)
 | .ret,σ,k=>k .ret (zlY pr (lv 2097152) σ)
 | _,_,_=>none
end
section
variable (pr:Prims)
def zyb:Arg→PV
 | .v d=>.c (zkp d true)
 | .a l=>.agg (l.map (zkp · true))
def ziN (fe:FE) (xs:List Arg):St:=⟨xs.map zyb++List.replicate (fe.fn.ntmps - xs.length) (.c (.at undef)),[],1⟩
def resP (T:TT) (σ:St) (t:Nat):ResultVar→Option PV
 | .tmp r=>some (norm T t (σ.tm.getD r (.c .dead)))
 | .cell r u=>match T u,σ.tm.getD r (.c .dead) with
  | some ti,.c (.ptr i kk idx off)=>match look σ.hp i with
   | some b=>match b.nth pr kk idx with
    | some es=>if off+ti.size≤es.length then zhA (isAgg ti) (((es.drop off).take ti.size).map outC) else none
    | none=>none
   | none=>none
  | _,_=>none
def znO (T:TT) (fn:Func) (σ:St):Option (List Arg) :=
 match mapO (fun (r,t)=>resP pr T σ t r) (fn.results.toList.zip fn.resultTypes.toList) with
 | some ps=>if fn.results.size=fn.resultTypes.size∧zjJ (ps.flatMap zqG)=true then mapO (ownP pr true (look σ.hp)) ps else none
 | none=>none
def zk3 (al:zjw (List Arg)) (T:TT) (ρ:Fns) (fe:FE) (xs:List Arg):Option (List Arg) :=
 ziY pr al T ρ fe.live fe.body (ziN fe xs) fun e σ=>match e with
  | .normal=>znO pr T fe.fn σ
  | .ret=>znO pr T fe.fn σ
  | .exit _=>none
def zlW (T:TT) (fn:Func) (σ:St):Option (List Arg):=match mapO (fun (r,t)=>resP pr T σ t r) (fn.results.toList.zip fn.resultTypes.toList) with
 | some ps=>if fn.results.size=fn.resultTypes.size then mapO (frzP pr (look σ.hp)) ps else none
 | none=>none
def zrL (al:zjw (List Arg)) (T:TT) (ρ:Fns) (fe:FE) (xs:List Arg):Option (List Arg) :=
 ziY pr al T ρ fe.live fe.body (ziN fe xs) fun x σ=>match x with
  | .normal=>(zlW pr T fe.fn σ).map (.v (.fn 1 [])::·)
  | .ret=>(zlW pr T fe.fn σ).map (.v (.fn 1 [])::·)
  | .exit _=>none
def zlu (fe:FE) (e k n:Nat) (el:List (List Cell)) (xs:List Arg):St:=⟨.c (.row curN e k 0 n)::(xs.map (zl3 false)++List.replicate (fe.fn.ntmps - (xs.length+1)) (.c (.at undef))),[(curN,⟨true,false,e,k,el⟩)],1⟩
def zlX (fn:Func) (e k n:Nat) (σ:St):Option (List Arg):=match look σ.hp curN,fn.results.toList with
 | some ⟨true,false,e',k',el⟩,[]=>(match Nat.beq e e' && Nat.beq k k' with
  | true=>bif pr.full 0 n el then (pr.fz1 el).map fun l'=>[.v (.sl e k l')] else none
  | false=>none)
 | _,_=>none
def zlS (al:zjw (List Arg)) (T:TT) (ρ:Fns) (fe:FE) (e:Nat) (xs:List Arg):Option (List Arg):=match xs with
 | .v (.sl e0 k l)::xs=>(match Nat.beq e e0 with
  | true=>(match pr.lend true l with
   | some el=>ziY pr al T ρ fe.live fe.body (zlu fe e k (pr.len l) el xs) fun x σ=>match x with
    | .normal=>zlX pr fe.fn e k (pr.len l) σ
    | .ret=>zlX pr fe.fn e k (pr.len l) σ
    | .exit _=>none
   | none=>none)
  | false=>none)
 | _=>none
def spcB (g:Nat):Bool:=viewIds.isEmpty && ((rowE g).isSome || ((curE g).isSome || (shrIds.contains g || (newE g).isSome)))
def spcF (f:FuncId):Option FuncId:=if 2 ^ 40≤f∧spcB (f - 2 ^ 40)=true then some (f - 2 ^ 40) else none
def shpS:Option (List Arg)→Option (List Arg)
 | some (.v (.fn 1 [])::rs)=>some (.v (.fn 1 [])::rs)
 | _=>none
def shpR:List Arg→Option (List Arg)→Option (List Arg)
 | .v (.sl e k l)::_,some [.v (.sl e2 k2 l')]=>(match Nat.beq e2 e && Nat.beq k2 k with
  | true=>some [.v (.sl e k l')]
  | false=>none)
 | _,_=>none
def ziw (al:zjw (List Arg)) (T:TT) (ρ:Fns) (g:Nat) (fe:FE) (xs:List Arg):Option (List Arg):=match rowE g with
 | some e=>shpR xs (zlS pr al T ρ fe e xs)
 | none=>shpS (zrL pr al T ρ fe xs)
def zmN (f:FuncId):Option FuncId:=if 2 ^ 40≤f∧viewIds.contains (f - 2 ^ 40)=true then some (f - 2 ^ 40) else none
def ev (G:FuncId→Option FE) (X:Fns) (T:TT):Nat→Fns
 | 0,f,xs=>X f xs
 | n+1,f,xs=>match G f with
  | some fe=>zk3 pr (fun F lv=>zdb F lv fuel) T (ev G X T n) fe xs
  | none=>match spcF f with
   | some g=>(match G g with
    | some fe=>ziw pr (fun F lv=>zdb F lv fuel) T (ev G X T n) g fe xs
    | none=>X f xs)
   | none=>X f xs
end
theorem cFk {pb:{β:Type}→Nat→Option β→Option β→Option β} (h:@pb=@Prims.both za) {γ:Type} {a b r:Option γ} (ha:a=r) (hb:b=r):pb 0 a b=r:=by
 have h1:@pb γ 0 a b=@Prims.both za γ 0 a b:=by rw [h]
 rw [h1]
 show zka 0 a b=r
 exact zkZ ha fun _=>hb
end Go.Proofs.YtflhdodikmmdcaaGreat
