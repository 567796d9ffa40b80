import Derived.Test.YtifkepnfaggkiaaGreatDoorIds
namespace Go.Proofs.YtifkepnfaggkiaaGreatDoor
open Go.RowKit
set_option linter.unusedVariables false
set_option linter.unusedSimpArgs false
set_option linter.unusedSectionVars false
def curN:Nm:=(0,1,0)
abbrev Fns:=FuncId→List Arg→Option (List Arg)
structure FE where
 fn:Func
 body:Code
 live:Nat→List Nat
section
variable (pr:Prims)
def Bk.full (b:Bk) (off n:Nat):Bool:=if b.lit then off == 0 && n == b.el.length else pr.full off n b.el
def zfA:Cell→Bool
 | .at _=>true
 | .nil _ _=>true
 | .rd _ _ _ _=>true
 | .own _ _ _=>true
 | .dead=>true
 | _=>false
def zaW (el:List (List Cell)):Bool:=el.all fun es=>es.all zfA
def zgB (b:Bk):Bool:=if b.lit then zaW b.el else true
def zgP (hp:List (Nm×Bk)):Cell→Option (Cell×List (Nm×Bk))
 | .row i e k off n=>match look hp i with
  | some b=>if b.isRow∧k=b.k∧e=b.e∧b.full pr off n then (if b.lit then mapO (mapO own0) b.el else pr.own b.el).map fun l=>(.own e k l,del hp i) else none
  | none=>none
 | .at v=>if zf9 v then some (.at v,hp) else none
 | .nil e k=>some (.nil e k,hp)
 | .rd s e k l=>some (.rd s e k l,hp)
 | .own e k l=>some (.own e k l,hp)
 | _=>none
def zbY:List (Nm×Bk)→List Cell→Option (List Cell×List (Nm×Bk))
 | hp,[]=>some ([],hp)
 | hp,x::l=>match zgP pr hp x with
  | some (y,hp)=>(zbY hp l).map fun (ys,hp)=>(y::ys,hp)
  | none=>none
def zbO:List (Nm×Bk)→List (List Cell)→Option (List (List Cell)×List (Nm×Bk))
 | hp,[]=>some ([],hp)
 | hp,x::l=>match zbY pr hp x with
  | some (y,hp)=>(zbO hp l).map fun (ys,hp)=>(y::ys,hp)
  | none=>none
def zipM:List Cell→List Cell→List (Nm×List (List DT))
 | .row r _ _ _ _::cs,.own _ _ l::ds=>(r,l)::zipM cs ds
 | _::cs,_::ds=>zipM cs ds
 | _,_=>[]
def zg0:List (Nm×List (List DT))→Nm→Option (List (List DT))
 | [],_=>none
 | (m,l)::ps,n=>if m=n then some l else zg0 ps n
def retC (hp0:List (Nm×Bk)) (ps:List (Nm×List (List DT))) (x:Cell):Cell:=match x with
 | .row r e k off n=>match zg0 ps r,look hp0 r with
  | some l,some b=>if k≠0∧k=b.k∧e=b.e∧b.full pr off n then .rd false e k l else .row r e k off n
  | _,_=>.row r e k off n
 | x=>x
def retB (hp0:List (Nm×Bk)) (ps:List (Nm×List (List DT))) (b:Bk):Bk:=if b.isRow then b else ⟨b.isRow,b.lit,b.e,b.k,b.el.map fun es=>es.map (retC pr hp0 ps)⟩
def retH (hp0:List (Nm×Bk)) (ps:List (Nm×List (List DT))) (hp:List (Nm×Bk)):List (Nm×Bk):=match ps with
 | []=>hp
 | _::_=>hp.map fun x=>(x.1,retB pr hp0 ps x.2)
def retP (hp0:List (Nm×Bk)) (ps:List (Nm×List (List DT))) (p:PV):PV:=match p with
 | .c x=>.c (retC pr hp0 ps x)
 | .agg l=>.agg (l.map (retC pr hp0 ps))
 | .tup l=>.tup l
def retS (hp0:List (Nm×Bk)) (ps:List (Nm×List (List DT))) (σ:St):St:=match ps with
 | []=>σ
 | _::_=>⟨σ.tm.map (retP pr hp0 ps),retH pr hp0 ps σ.hp,σ.cnt⟩
def zme:List (List Cell)→List (List Cell)→List (Nm×List (List DT))
 | c::cs,d::ds=>zipM c d++zme cs ds
 | _,_=>[]
def srcM (hp0:List (Nm×Bk)) (x:PV) (l:List (List Cell)):List (Nm×List (List DT)):=match x with
 | .c (.row j _ _ off m)=>match look hp0 j with
  | some b=>if b.lit then zme ((b.el.drop off).take m) l else []
  | none=>[]
 | _=>[]
def retM (t:Nat) (hp0:List (Nm×Bk)) (x:PV) (l:List (List Cell)):List (Nm×List (List DT)):=if retTys.contains t then srcM hp0 x l else []
def aput (T:TT) (σ:St) (o:Oper) (p:PV) (nb:List (Nm×Bk)):St :=
 match o.dst with
 | some d=>⟨σ.tm.set d (norm T o.type p),nb++σ.hp,σ.cnt⟩
 | none=>⟨σ.tm,nb++σ.hp,σ.cnt⟩
def nmOf (σ:St) (i:Nat):Nat→Nm:=match σ with|⟨_,_,c⟩=>fun j=>(c,i,j)
theorem zhi (σ:St) (i:Nat):nmOf σ i=fun j=>(σ.cnt,i,j):=rfl
def zqk (ρ:Fns) (g:FuncId) (l:List Arg):Option (List Arg):=match l with
 | []=>ρ g []
 | x::r=>ρ g (x::r)
theorem zhF (ρ:Fns) (g:FuncId) (l:List Arg):zqk ρ g l=ρ g l:=by cases l<;>rfl
def zl4 (T:TT) (g:FuncId) (t:Nat) (p:PV):PV:=if nilIds.contains g then p else norm T t p
def wkP (g:Nat):Prims:=bif wkIds.contains g then { pr with opn:=fun l=>(pr.lend false l).getD [] } else pr
def zgn (T:TT) (ρ:Fns) (L:Nm→Option Bk) (n:Nat→Nm) (get:Operand→PV) (c:Call):Option (PV×List (Nm×Bk)) :=
 match c.callee with
 | .value f=>match get f with
  | .c (.fn g caps)=>if c.args.size=c.argTypes.size∧g < 2 ^ 40 then match mapO (fun (x,t)=>frzP pr L (zl4 T g t (get x))) (c.args.toList.zip c.argTypes.toList),mapO (frz2 pr L) caps with
   | some xs,some cs=>match zqk ρ g (xs++cs.map .v) with
    | some [r]=>some (zdX (wkP pr g) n 0 r)
    | some rs=>match zdY (wkP pr g) n 0 rs with|(ps,b)=>some (.tup ps,b)
    | none=>none
   | _,_=>none
   else none
  | _=>none
 | _=>none
def zjU (T:TT) (σ:St) (t:Nat) (a x:PV):Option St :=
 match T t,a with
 | some ti,.c (.ptr i kk idx off)=>match cellsOf (norm T t x) (isAgg ti),look σ.hp i with
  | some cs,some b=>match b.nth pr kk idx with
   | some es=>if cs.length=ti.size∧off+ti.size≤es.length∧ti.size≠0 then
     match (if b.isRow then zbY pr σ.hp cs else some (cs,σ.hp)) with
     | some (cs',hp)=>match look hp i with
      | some _=>some ⟨σ.tm,retH pr σ.hp (zipM cs cs') (upd hp i ⟨b.isRow,b.lit,b.e,b.k,if b.lit then b.el.set idx (es.take off++cs'++es.drop (off+ti.size)) else pr.rset b.el idx (es.take off++cs'++es.drop (off+ti.size))⟩),σ.cnt⟩
      | none=>none
     | none=>none
    else none
   | none=>none
  | _,_=>none
 | _,_=>none
def asrc (σ:St) (k:Nat):PV→Option (List (List Cell)×List (Nm×Bk))
 | .c (.rd s e k' l)=>if k'=k then (pr.lend s l).map (·,σ.hp) else none
 | .c (.nil e k')=>some ([],σ.hp)
 | .c (.at (.string s))=>if k=1 then some (pr.bytes s,σ.hp) else none
 | .c (.row j e k' off m)=>match look σ.hp j with
  | some b=>if k'=k∧k=b.k then (if b.lit then (if off+m≤b.el.length then zbO pr (del σ.hp j) ((b.el.drop off).take m) else none)
   else match pr.rmov b.el off m with
    | some l=>some (l,upd σ.hp j ⟨b.isRow,b.lit,b.e,b.k,pr.rout b.el off m⟩)
    | none=>none) else none
  | none=>none
 | _=>none
def srcK:TK→Bool
 | .slice _ _ _=>true
 | .string=>true
 | _=>false
def zhe (T:TT) (σ:St) (n:Nm) (o:Oper) (t t':Nat) (s x:PV):Option St :=
 match T t with
 | some ⟨.slice e k by_,_,_⟩=>match T t',T e with
  | some ⟨kx,_,_⟩,some _=>if srcK kx=true∧k≠0∧by_≠0 then match asrc pr σ k x with
   | some (l,hp)=>match norm T t s with
    | .c (.nil _ _)=>if pr.fits 0 (pr.rlen l) by_ then some (retS pr σ.hp (retM t σ.hp x l) (aput T ⟨σ.tm,hp,σ.cnt⟩ o (.c (.row n e k 0 (pr.rlen l))) [(n,⟨true,false,e,k,l⟩)])) else none
    | .c (.row i e' k' off m)=>match look hp i with
     | some b=>if b.isRow∧k'=k∧k=b.k∧e=b.e∧b.full pr off m∧pr.fits m (pr.rlen l) by_∧zgB b then
       some (retS pr σ.hp (retM t σ.hp x l) (aput T ⟨σ.tm,del hp i,σ.cnt⟩ o (.c (.row n e k 0 (pr.addN m (pr.rlen l)))) [(n,⟨true,false,e,k,pr.rapp b.el l⟩)])) else none
     | none=>none
    | _=>none
   | none=>none
   else none
  | _,_=>none
 | _=>none
def znx (T:TT) (σ:St) (o:Oper) (t t':Nat) (s x:PV):Option St :=
 match T t,T t' with
 | some ⟨.slice e 1 _,_,_⟩,some ⟨.slice _ 1 _,_,_⟩=>match s,x with
  | .c (.row i _ 1 off m),.c y=>match look σ.hp i,frz1 pr (look σ.hp) y with
   | some b,some (.sl _ 1 l)=>if b.isRow=true∧b.lit=false∧b.k=1 then match pr.copy b.el off m l with
     | some (N,el)=>some (aput T ⟨σ.tm,upd σ.hp i ⟨b.isRow,b.lit,b.e,b.k,el⟩,σ.cnt⟩ o (.c (.at (.int .i64 (pr.int N)))) [])
     | none=>none
    else none
   | _,_=>none
  | _,_=>none
 | _,_=>none
def ownC (L:Nm→Option Bk):Cell→Option DT
 | .row i e k off n=>match L i with
  | some b=>if b.isRow∧k=b.k∧e=b.e∧b.full pr off n then (if b.lit then mapO (mapO own0) b.el else pr.own b.el).map (DT.sl e k) else none
  | none=>none
 | x=>own0 x
def ownP (L:Nm→Option Bk):PV→Option Arg
 | .c x=>(ownC pr L x).map .v
 | .agg l=>(mapO (ownC pr L) l).map .a
 | .tup _=>none
def zdE:Cell→List Nm
 | .row i _ _ _ _=>[i]
 | _=>[]
def zqs:PV→List Nm
 | .c x=>zdE x
 | .agg l=>l.flatMap zdE
 | .tup _=>[]
def zh5:List Nm→Bool
 | []=>true
 | x::l=>!l.contains x && zh5 l
def mutK:Nat:=2 ^ 40
def zkp:PV→Bool
 | .c (.fn g [])=>mutIds.contains g
 | _=>false
def zql:Cell→Bool
 | .at _=>true
 | .nil _ _=>true
 | .row _ _ _ _ _=>true
 | .ptr _ _ _ _=>true
 | .dead=>true
 | .rd s _ _ _=>s
 | .bp s _ _=>s
 | _=>false
def zkb:Cell→Bool
 | .fn _ caps=>caps.all zql
 | x=>zql x
def zx3:PV→Bool
 | .c x=>zkb x
 | .agg l=>l.all zkb
 | .tup _=>false
def zt4:PV→Bool
 | .c x=>zkb x
 | .agg l=>l.all zkb
 | .tup l=>l.all zx3
def zn0:Cell→Bool
 | .own _ _ _=>true
 | _=>false
def zlQ (b:Bk):Bool:=bif b.isRow && !b.lit then (match pr.own b.el with|some _=>true|none=>false) else b.el.all fun es=>es.all fun x=>zkb x || zn0 x
def zjl:List (Nm×Bk)→Bool
 | []=>true
 | x::l=>bif zlQ pr x.2 then zjl l else false
def zgO:PV→List Cell
 | .c x=>[x]
 | .agg l=>l
 | .tup _=>[]
def amut (T:TT) (ρ:Fns) (σ:St) (o:Oper) (f:PV) (as:List Operand) (ts:List Nat):Option St:=(fun _:Prims=>none) pr
def zke:PV→Bool
 | .c (.fn g [])=>conIds.contains g
 | _=>false
def dels (hp:List (Nm×Bk)):List Nm→List (Nm×Bk)
 | []=>hp
 | n::l=>dels (del hp n) l
def conR (hp:List (Nm×Bk)) (i:Nm):List PV→Option (List Arg×List Nm)
 | [.c (.fn f caps)]=>if caps.all zql then (frz pr (look (del hp i)) (.fn f caps)).map fun d=>([.v d],[]) else none
 | [.c (.at u),.c (.row j e k off n)]=>match look hp j with
  | some b=>match b.lit,b.el with
   | true,[es]=>if off=0∧n=1∧k=b.k∧es.all (fun x=>!zn0 x)=true∧zh5 (i::j::es.flatMap zdE)=true then (mapO (ownC pr (look hp)) es).map fun ds=>([.v (.at u),.v (.sl e k [ds])],es.flatMap zdE) else none
   | _,_=>none
  | none=>none
 | _=>none
def ztQ (T:TT) (ρ:Fns) (σ:St) (n:Nm) (o:Oper) (g:Nat) (i:Nm) (d:Option DT) (r:Option (List Arg×List Nm)):Option St :=
 match d,r with
 | some d,some (xs,ns)=>match ρ (g+mutK) (.v d::xs) with
  | some [.v (.sl e k l)]=>if σ.tm.all zt4=true then bif zjl pr σ.hp then some (aput T ⟨σ.tm,dels (del σ.hp i) ns,σ.cnt⟩ o (.c (.row n e k 0 (pr.len l))) [(n,⟨true,false,e,k,pr.opn l⟩)]) else none else none
  | _=>none
 | _,_=>none
def acon (T:TT) (ρ:Fns) (σ:St) (n:Nm) (o:Oper) (f:PV) (as:List Operand) (ts:List Nat):Option St :=
 match f with
 | .c (.fn g [])=>if as.length=ts.length then match ((as.zip ts).map (fun (x,t)=>norm T t (σ.get x)):List PV) with
  | .c (.row i e k off m)::ps=>ztQ pr T ρ σ n o g i (ownC pr (look σ.hp) (.row i e k off m)) (conR pr σ.hp i ps)
  | _=>none
  else none
 | _=>none
def curE (g:Nat):Option Nat:=(curIds.find? fun x=>Nat.beq x.1 g).map (·.2)
def newE (g:Nat):Option Nat:=(newIds.find? fun x=>Nat.beq x.1 g).map (·.2)
def zye:PV→Bool
 | .c (.fn g [])=>shrIds.contains g || ((newE g).isSome || (borIds.contains g || parIds.contains g))
 | _=>false
def zlR:PV→Bool
 | .c (.fn g [])=>(curE g).isSome
 | _=>false
def boxD:Cell→Option DT
 | .at v=>some (.at v)
 | .rd true e k l=>some (.sl e k l)
 | _=>none
def boxC:DT→Cell
 | .at v=>.at v
 | .sl e k l=>.rd true e k l
 | _=>.dead
def boxK:DT→Bool
 | .at _=>true
 | .sl _ _ _=>true
 | _=>false
def ziy (n:Nat→Nm) (rs:List Arg):PV×List (Nm×Bk):=match rs with
 | [r]=>zdX pr n 0 r
 | rs=>match zdY pr n 0 rs with|(ps,b)=>(.tup ps,b)
def okNm (c i:Nat) (nb:List (Nm×Bk)):Bool:=nb.all fun x=>decide (x.1.1=c∧x.1.2.1=i)
def litB (nb:List (Nm×Bk)):Bool:=nb.all fun x=>x.2.lit || !x.2.isRow
def mkOp:Op→Bool
 | .makeSlice _ _ _=>true
 | _=>false
def zj7 (T:TT) (σ:St) (i:Nat) (o:Oper):Option (PV×List (Nm×Bk))→Option St
 | some (p,nb)=>if okNm σ.cnt i nb && (mkOp o.op || litB nb) then some (aput T σ o p nb) else none
 | none=>none
def zlO (T:TT) (σ:St) (i:Nat) (o:Oper):Option (PV×List (Nm×Bk))→Option St
 | some (p,nb)=>if okNm σ.cnt i nb then some (aput T σ o p nb) else none
 | none=>none
def acur (T:TT) (ρ:Fns) (σ:St) (i:Nat) (o:Oper) (f:PV) (as:List Operand) (ts:List Nat):Option St :=
 match f with
 | .c (.fn g [])=>if as.length=ts.length then match curE g,((as.zip ts).map (fun (x,t)=>norm T t (σ.get x)):List PV) with
  | some e,.c (.ptr n k 0 0)::ps=>match look σ.hp n with
   | some ⟨false,true,e',k',[es]⟩=>if e=e'∧k=k' then match mapO boxD es,mapO (frzP pr (look (del σ.hp n))) ps with
    | some ds,some xs=>match ρ (g+mutK) (.v (.ptr ds)::xs) with
     | some (.v (.ptr ds')::rs)=>if ds'.length=ds.length∧ds'.all boxK=true then
       if okNm σ.cnt i (ziy pr (nmOf σ i) rs).2=true then some (aput T ⟨σ.tm,upd σ.hp n ⟨false,true,e,k,[ds'.map boxC]⟩,σ.cnt⟩ o (ziy pr (nmOf σ i) rs).1 (ziy pr (nmOf σ i) rs).2) else none
      else none
     | _=>none
    | _,_=>none
    else none
   | _=>none
  | _,_=>none
  else none
 | _=>none
def tArg:PV→Option Arg
 | .c x=>(boxD x).map .v
 | .agg l=>(mapO boxD l).map .a
 | .tup _=>none
def zib (s:Bool):Arg→PV
 | .v d=>.c (zhY d s)
 | .a l=>.agg (l.map (zhY · s))
def zqu (rs:List Arg):PV:=match rs with
 | [r]=>zib false r
 | rs=>.tup (rs.map (zib false))
def zyc (c:Cell) (rs:List Arg):PV:=match rs with
 | []=>.c c
 | rs=>.tup (.c c::rs.map (zib false))
def anew (T:TT) (ρ:Fns) (σ:St) (i:Nat) (o:Oper) (g e:Nat) (xs:Option (List Arg)):Option St:=match xs with
 | some xs=>match zqk ρ (g+mutK) xs with
  | some (.v (.fn 2 [])::.v (.ptr ds)::rs)=>if ds.all boxK=true then some (aput T σ o (zyc (.ptr (σ.cnt,i,0) ds.length 0 0) rs) [((σ.cnt,i,0),⟨false,true,e,ds.length,[ds.map boxC]⟩)]) else none
  | _=>none
 | none=>none
def ztZ (T:TT) (ρ:Fns) (σ:St) (o:Oper) (g:Nat) (xs:Option (List Arg)):Option St:=match xs with
 | some xs=>match zqk ρ (g+mutK) xs with
  | some (.v (.fn 1 [])::rs)=>some (aput T σ o (zqu rs) [])
  | _=>none
 | none=>none
def acv (T:TT) (ρ:Fns) (σ:St) (o:Oper) (g e:Nat) (ps:List PV):Option St:=match ps with
 | .c (.ptr n k 0 0)::ps=>match look σ.hp n with
  | some ⟨false,true,e',k',[es]⟩=>if e=e'∧k=k' then match mapO boxD es,mapO tArg ps with
   | some ds,some xs=>match ρ (g+mutK) (.v (.ptr ds)::xs) with
    | some (.v (.fn 0 [])::.v (.ptr ds')::rs)=>if ds'.length=ds.length∧ds'.all boxK=true then some (aput T ⟨σ.tm,upd σ.hp n ⟨false,true,e,k,[ds'.map boxC]⟩,σ.cnt⟩ o (zqu rs) []) else none
    | _=>none
   | _,_=>none
   else none
  | _=>none
 | _=>none
def acb (T:TT) (ρ:Fns) (σ:St) (i:Nat) (o:Oper) (g e:Nat) (ps:List PV):Option St:=match ps with
 | .c (.ptr n k 0 0)::ps=>match look σ.hp n with
  | some ⟨false,true,e',k',[es]⟩=>if e=e'∧k=k' then match mapO boxD es,mapO tArg ps with
   | some ds,some xs=>match ρ (g+mutK) (.v (.ptr ds)::xs) with
    | some [.v (.fn 3 []),.v (.ptr ds'),.v (.sl t kk l)]=>if ds'.length=ds.length∧ds'.all boxK=true then match pr.lend false l with
      | some el=>some (aput T ⟨σ.tm,upd σ.hp n ⟨false,true,e,k,[ds'.map boxC]⟩,σ.cnt⟩ o (.c (.row (σ.cnt,i,0) t kk 0 (pr.len l))) [((σ.cnt,i,0),⟨true,false,t,kk,el⟩)])
      | none=>none
     else none
    | _=>none
   | _,_=>none
   else none
  | _=>none
 | _=>none
def acp (T:TT) (ρ:Fns) (σ:St) (o:Oper) (g e:Nat) (ps:List PV):Option St:=match ps with
 | .c (.ptr n k 0 0)::ps=>match look σ.hp n with
  | some ⟨false,true,e',k',[es]⟩=>if e=e'∧k=k' then match mapO boxD es,mapO (frzP pr (look (del σ.hp n))) ps with
   | some ds,some xs=>match ρ (g+mutK) (.v (.ptr ds)::xs) with
    | some (.v (.fn 4 [])::.v (.ptr ds')::rs)=>if ds'.length=ds.length∧ds'.all boxK=true then some (aput T ⟨σ.tm,upd σ.hp n ⟨false,true,e,k,[ds'.map boxC]⟩,σ.cnt⟩ o (zqu rs) []) else none
    | _=>none
   | _,_=>none
   else none
  | _=>none
 | _=>none
def ashr (T:TT) (ρ:Fns) (σ:St) (i:Nat) (o:Oper) (f:PV) (as:List Operand) (ts:List Nat):Option St:=match f with
 | .c (.fn g [])=>if as.length=ts.length then match newE g with
  | some e=>anew T ρ σ i o g e (mapO tArg ((as.zip ts).map (fun (x,t)=>norm T t (σ.get x)):List PV))
  | none=>match curE g with
   | some e=>(match borIds.contains g with
    | true=>acb pr T ρ σ i o g e ((as.zip ts).map (fun (x,t)=>norm T t (σ.get x)):List PV)
    | false=>(match parIds.contains g with
     | true=>acp pr T ρ σ o g e ((as.zip ts).map (fun (x,t)=>norm T t (σ.get x)):List PV)
     | false=>acv T ρ σ o g e ((as.zip ts).map (fun (x,t)=>norm T t (σ.get x)):List PV)))
   | none=>ztZ T ρ σ o g (mapO tArg ((as.zip ts).map (fun (x,t)=>norm T t (σ.get x)):List PV))
  else none
 | _=>none
def zgp (T:TT) (ρ:Fns) (σ:St) (i:Nat) (o:Oper):Option St :=
 match o.op with
 | .store t a x=>(zjU pr T σ t (σ.get a) (σ.get x)).map fun σ=>aput T σ o (.c (.at undef)) []
 | .call { callee:=.builtin .append,args:=as,argTypes:=ts }=>match as.toList,ts.toList with
  | [s,x],[t,t']=>zhe pr T σ (σ.cnt,i,0) o t t' (σ.get s) (norm T t' (σ.get x))
  | _,_=>none
 | .call { callee:=.builtin .copy,args:=as,argTypes:=ts }=>match as.toList,ts.toList with
  | [s,x],[t,t']=>znx pr T σ o t t' (σ.get s) (norm T t' (σ.get x))
  | _,_=>none
 | .call { callee:=.value f,args:=as,argTypes:=ts }=>bif zkp (σ.get f) then amut pr T ρ σ o (σ.get f) as.toList ts.toList else bif zke (σ.get f) then acon pr T ρ σ (σ.cnt,i,0) o (σ.get f) as.toList ts.toList else bif zlR (σ.get f) then acur pr T ρ σ i o (σ.get f) as.toList ts.toList else zlO T σ i o (zgn pr T ρ (look σ.hp) (nmOf σ i) σ.get { callee:=.value f,args:=as,argTypes:=ts })
 | _=>zj7 T σ i o (zb2 pr T (look σ.hp) (nmOf σ i) σ.get o)
def vshr (T:TT) (ρ:Fns) (σ:St) (i:Nat) (o:Oper):Option (Option St):=match o.op with
 | .call { callee:=.value f,args:=as,argTypes:=ts }=>bif zye (σ.get f) then some (ashr pr T ρ σ i o (σ.get f) as.toList ts.toList) else none
 | _=>none
def zyg (T:TT) (σ:St) (i:Nat) (o:Oper) (t:Nat) (n:Nm) (kk idx off:Nat) (b:Bk):Option St:=match T t,b.nth pr kk idx with
 | some ti,some es=>if off=0∧ti.size=es.length∧isAgg ti=true∧σ.tm.all zt4=true then (match zjl pr σ.hp,mapO own0 es with
  | true,some ds=>if okNm σ.cnt i (ziy pr (nmOf σ i) [.a ds]).2=true then some (aput T ⟨σ.tm,del σ.hp n,σ.cnt⟩ o (ziy pr (nmOf σ i) [.a ds]).1 (ziy pr (nmOf σ i) [.a ds]).2) else none
  | _,_=>none) else none
 | _,_=>none
def zqj (T:TT) (σ:St) (i:Nat) (o:Oper):Option (Option St):=match o.op with
 | .load t x=>(match takIds.contains t with
  | true=>(match σ.get x with
   | .c (.ptr n kk idx off)=>(match look σ.hp n with
    | some b=>(match b.isRow && (!b.lit && Nat.beq n.1 σ.cnt) with
     | true=>some (zyg pr T σ i o t n kk idx off b)
     | false=>none)
    | none=>none)
   | _=>none)
  | false=>none)
 | _=>none
def zgE (T:TT) (ρ:Fns) (σ:St) (i:Nat) (o:Oper):Option St:=match vshr pr T ρ σ i o with
 | some r=>r
 | none=>match zqj pr T σ i o with
  | some r=>r
  | none=>zgp pr T ρ σ i o
end
def nmNe (m n:Nm):Bool:=match m,n with|(a,b,c),(d,e,f)=>!(Nat.beq a d && (Nat.beq b e && Nat.beq c f))
def notP (n:Nm):PV→Bool
 | .c (.ptr m _ _ _)=>nmNe m n
 | _=>true
def zcA (n:Nm) (σ:St) (o:Oper):Bool:=match o.op with
 | .store _ a _=>(match σ.get a with
  | .c (.ptr m _ _ _)=>nmNe m n && (match look σ.hp m with
   | some b=>!b.isRow
   | none=>false)
  | _=>false)
 | .call { callee:=.builtin .append,.. }=>false
 | .call { callee:=.builtin .copy,.. }=>false
 | .call { callee:=.value f,args:=as,.. }=>(match zkp (σ.get f) || zke (σ.get f) with
  | true=>false
  | false=>as.toList.all fun x=>notP n (σ.get x))
 | .load t x=>(match takIds.contains t with
  | true=>notP n (σ.get x)
  | false=>true)
 | _=>true
def newT (ops:Array Oper):Operand→Bool
 | .tmp p=>ops.toList.any fun o=>(match o.dst with
  | some d=>Nat.beq d p
  | none=>false) && (match o.op with
  | .alloc _=>true
  | _=>false)
 | _=>false
def zAl (ops:Array Oper) (n:Nm) (σ:St) (o:Oper):Bool:=match o.op with
 | .store _ a _=>newT ops a || zcA n σ o
 | _=>zcA n σ o
def boxN (σ:St):PV→Option Nm
 | .c (.ptr m _ _ _)=>(match look σ.hp m with
  | some b=>(match b.isRow with
   | true=>none
   | false=>some m)
  | none=>none)
 | _=>none
def zul (σ:St) (ops:Array Oper):List Nm:=(ops.toList.filterMap fun o=>match o.op with
 | .load _ (.tmp p)=>boxN σ (σ.get (.tmp p))
 | .fieldAddr _ (.tmp p) _=>boxN σ (σ.get (.tmp p))
 | _=>none).filter fun n=>ops.toList.all (zAl ops n σ)
def chkH (H:List Nm) (σ:St) (o:Oper):Bool:=H.all fun n=>zcA n σ o
def zjr (σ:St) (d:Option Nat):Option (Option Bool) :=
 match d with
 | none=>some none
 | some t=>match σ.tm[t]? with
  | some (.c (.at (.bool b)))=>some (some b)
  | some (.c (.at (.tuple _)))=>some none
  | _=>none
def zrB (T:TT) (σ:St) (o:Oper):Option (List (List DT)) :=
 match o.op with
 | .binOp .eql t x (.const (.slice none 0 0)) _=>match T t with
  | some ⟨.slice _ _ _,_,_⟩=>match σ.get x with
   | .c (.rd _ _ _ l)=>some l
   | _=>none
  | _=>none
 | _=>none
section
variable (pr:Prims)
def rebC (L:Nm→Option Bk) (x:Cell):Cell:=match x with
 | .at v=>.at v
 | .nil e k=>.nil e k
 | .rd _ e k l=>.rd true e k l
 | .row i e k off n=>match frz pr L (.row i e k off n) with
  | some (.sl e' k' l)=>.rd true e' k' l
  | _=>.dead
 | .ptr i k idx off=>match L i with
  | some b=>match b.nth pr k idx with
   | some es=>match mapO frz0 es with
    | some ds=>.bp true ds off
    | none=>.dead
   | none=>.dead
  | none=>.dead
 | _=>.dead
def rebP (L:Nm→Option Bk) (p:PV):PV:=match p with
 | .c x=>.c (rebC pr L x)
 | .agg l=>.agg (l.map (rebC pr L))
 | .tup _=>.c .dead
def rebS (σ:St):St:=⟨σ.tm.map (rebP pr (look σ.hp)),[],σ.cnt⟩
def zyi (T:TT) (ρ:Fns) (σ:St) (o:Oper):Option (Option PV):=(fun _:Prims=>none) pr
end
section
variable {β:Type} (pr:Prims)
def areg (T:TT) (ρ:Fns) (ops:Array Oper):List Oper→Nat→St→(St→Option β)→Option β
 | [],_,σ,k=>k σ
 | o::r,i,σ,k=>match o.guard with
  | none=>match zrB T σ o with
   | some l=>pr.both (pr.len l) (areg T ρ ops r (i+1) (aput T σ o (.c (.at (.bool false))) []) k) (areg T ρ ops r (i+1) (aput T σ o (.c (.at (.bool true))) []) k)
   | none=>match zyi pr T ρ σ o with
    | some (some p)=>areg T ρ ops r (i+1) (aput T (rebS pr σ) o p []) k
    | some none=>none
    | none=>match zgE pr T ρ σ i o with
     | some σ'=>areg T ρ ops r (i+1) σ' k
     | none=>none
  | some (j,want)=>match zjr σ ((ops[j]?).bind (·.dst)) with
   | some (some b)=>if b=want then (match zgp pr T ρ σ i o with
     | some σ'=>areg T ρ ops r (i+1) σ' k
     | none=>none) else areg T ρ ops r (i+1) (aput T σ o (.c (.at undef)) []) k
   | some none=>areg T ρ ops r (i+1) (aput T σ o (.c (.at undef)) []) k
   | none=>none
def effB:Op→Bool
 | .store _ _ _=>true
 | .call { callee:=.builtin .append,.. }=>true
 | .call { callee:=.builtin .copy,.. }=>true
 | .call { callee:=.value (.func g),.. }=>conIds.contains g || (curE g).isSome || (shrIds.contains g || (newE g).isSome)
 | _=>false
def ziU (ms:List Nat) (o:Oper):Nat:=o.after.toList.foldl (fun s e=>if Region.binds .any e then s ||| 2 ^ e.on ||| ms.getD e.on 0 else s) 0
def zdl:List Oper→List Nat→List Nat
 | [],ms=>ms
 | o::l,ms=>zdl l (ms++[ziU ms o])
def zlZ (c m:Nat) (L:Nm→Option Bk) (n:Nm):Option Bk:=if n.1=c∧Nat.testBit m n.2.1=false then none else L n
def zqt (c i:Nat) (lit:Bool):Option (PV×List (Nm×Bk))→Option (PV×List (Nm×Bk))
 | some (p,nb)=>if okNm c i nb && (!lit || litB nb) then some (p,nb) else none
 | none=>none
def zyb (t:Nat):List Oper→Nat→Option Nat
 | [],_=>none
 | p::l,j=>if p.dst=some t then (match p.op with|.buildSlice _ 0 _=>some j|_=>none) else zyb t l (j+1)
def zzw (ops:Array Oper) (o:Oper):Bool:=match o.dst with
 | some d=>ops.toList.any fun p=>match p.op with
  | .call { callee:=.builtin .append,args:=as,.. }=>(match as.toList with|.tmp t::_=>t == d|_=>false)
  | _=>false
 | none=>false
def zcf (ops:Array Oper) (o:Oper):Option Nat :=
 match o.op with
 | .call { callee:=.builtin .append,args:=as,argTypes:=ts }=>match as.toList,o.guard with
  | [.tmp t,_],none=>bif zzw ops o then none else zyb t ops.toList 0
  | _,_=>none
 | _=>none
def zqm (ops:Array Oper) (d:Nat):List Oper→Nat→Option Nat
 | [],_=>none
 | o::l,j=>if zcf ops o=some d then some j else zqm ops d l (j+1)
def zqx (ops:Array Oper) (o:Oper):Bool:=effB o.op && (zcf ops o).isNone
def cons (ops:Array Oper) (d:Nat):Option Nat:=zqm ops d ops.toList 0
def zlY (ops:Array Oper) (c m:Nat) (L:Nm→Option Bk) (n:Nm):Option Bk:=if n.1=c∧(Nat.testBit m n.2.1=false∨(cons ops n.2.1).isSome=true) then none else L n
def delE (ops:Array Oper) (σ:St) (o:Oper):St:=match zcf ops o with
 | some d=>⟨σ.tm,del σ.hp (σ.cnt,d,0),σ.cnt⟩
 | none=>σ
def zeE (T:TT) (ops:Array Oper) (σ:St) (o:Oper) (p:PV) (nb:List (Nm×Bk)):St:=aput T (delE ops σ o) o p nb
def aeat (T:TT) (σ:St) (i m d:Nat) (o:Oper):Option (PV×List (Nm×Bk)) :=
 match o.op with
 | .call { callee:=.builtin .append,args:=as,argTypes:=ts }=>match as.toList,ts.toList with
  | [s,x],[t,t']=>match T t with
   | some ⟨.slice e k by_,_,_⟩=>match T t',T e with
    | some ⟨kx,_,_⟩,some _=>if srcK kx=true∧k≠0∧by_≠0 then match norm T t' (σ.get x) with
     | .c (.rd s' e'' k'' l'')=>if k''=k then match pr.lend s' l'' with
      | some l=>match norm T t (σ.get s) with
       | .c (.row i' e' k' off n')=>match zlZ σ.cnt m (look σ.hp) i' with
        | some b=>if b.isRow∧k'=k∧k=b.k∧e=b.e∧b.full pr off n'∧pr.fits n' (pr.rlen l) by_∧zgB b then
          if i'=(σ.cnt,d,0)∧(σ.hp.all fun x=>!decide (x.1.1=σ.cnt∧x.1.2.1=d) || decide (x.1=i'))=true then
           some (.c (.row (σ.cnt,i,0) e k 0 (pr.addN n' (pr.rlen l))),[((σ.cnt,i,0),⟨true,false,e,k,pr.rapp b.el l⟩)])
          else none
         else none
        | none=>none
       | _=>none
      | none=>none
      else none
     | _=>none
     else none
    | _,_=>none
   | _=>none
  | _,_=>none
 | _=>none
def ares (T:TT) (ρ:Fns) (ops:Array Oper) (σ:St) (i m:Nat) (o:Oper):Option (PV×List (Nm×Bk)) :=
 match zcf ops o with
 | some d=>aeat pr T σ i m d o
 | none=>match o.op with
  | .call { callee:=.value f,args:=as,argTypes:=ts }=>bif zkp (σ.get f) || (zke (σ.get f) || zlR (σ.get f)) then none else zqt σ.cnt i false (zgn pr T ρ (zlY ops σ.cnt m (look σ.hp)) (nmOf σ i) σ.get { callee:=.value f,args:=as,argTypes:=ts })
  | _=>zqt σ.cnt i (!mkOp o.op) (zb2 pr T (zlY ops σ.cnt m (look σ.hp)) (nmOf σ i) σ.get o)
def zjp (ops:Array Oper) (f i:Nat):List Oper:=(ops.toList.drop f).take 1++((ops.toList.drop i).take (f - i)++ops.toList.drop (f+1))
def zud (T:TT) (ρ:Fns) (ops:Array Oper) (L:Nat×Nat) (i:Nat) (σ:St) (k:St→Option β) (x:Option β):Option β:=bif Nat.ble L.1 i then pr.both 0 x (areg pr T ρ ops (zjp ops L.2 i) i σ k) else x
def ziq (T:TT) (ρ:Fns) (ops:Array Oper) (M:List Nat) (L:Nat×Nat):List Oper→Nat→St→(St→Option β)→Option β
 | [],_,σ,k=>k σ
 | o::r,i,σ,k=>if zqx ops o then areg pr T ρ ops (o::r) i σ k else zud pr T ρ ops L i σ k (match o.guard with
  | none=>match ares pr T ρ ops σ i (M.getD i 0) o with
   | some (p,nb)=>ziq T ρ ops M L r (i+1) (zeE T ops σ o p nb) k
   | none=>none
  | some (j,want)=>match zjr σ ((ops[j]?).bind (·.dst)) with
   | some (some b)=>if b=want then (match ares pr T ρ ops σ i (M.getD i 0) o with
     | some (p,nb)=>ziq T ρ ops M L r (i+1) (zeE T ops σ o p nb) k
     | none=>none) else ziq T ρ ops M L r (i+1) (zeE T ops σ o (.c (.at undef)) []) k
   | some none=>ziq T ρ ops M L r (i+1) (zeE T ops σ o (.c (.at undef)) []) k
   | none=>none)
def zn (ops:Array Oper):List Oper→Nat
 | []=>0
 | o::l=>if zqx ops o=true then 0 else zn ops l+1
def zis (o:Oper):Bool:=(match o.op with
 | .move (.tmp _)=>true
 | .extract (.tmp _) _=>true
 | _=>false) && o.guard.isNone
def tOp (o:Oper):Bool:=(match o.op with
 | .move (.tmp _)=>true
 | .extract (.tmp _) _=>true
 | .slice _ (.tmp _) _ _ none=>true
 | _=>false) && o.guard.isNone
def zgr (ops:Array Oper) (o:Oper):Array Bool:=(Array.range ops.size).map fun j=>o.after.any fun e=>Region.binds .any e && e.on == j
def zh3 (ops:Array Oper):Nat→Nat→Bool
 | 0,_=>false
 | n+1,q=>match ops[q]? with
  | some o=>match tOp o with
   | true=>(match Region.noSelect ops && Region.free .any ops (zgr ops o) q with
    | true=>o.after.all (fun e=>match Region.binds .any e with
     | true=>zh3 ops n e.on
     | false=>true)
    | false=>false)
   | false=>false
  | none=>false
def zop (ops:Array Oper):List Oper→Nat→Nat
 | [],_=>0
 | o::l,i=>bif zqx ops o then 2 ^ i+zop ops l (i+1) else zop ops l (i+1)
def zAm (a:Nat):Bool:=bif Nat.beq a 0 then false else !Nat.beq (Nat.land a (Nat.pred a)) 0
def zuv (s:Nat):Bool:=bif Nat.beq s 0 then false else zAm (Nat.land s (Nat.pred s))
def zuw (ops:Array Oper):Bool:=zuv (zop ops ops.toList 0)
def erl (ops:Array Oper) (q:Nat):Bool:=bif zuw ops then zh3 ops 4 q else false
def zz9 (ops:Array Oper) (m:Nat) (b:Bool) (j:Nat):Bool:=match Nat.testBit m j with
 | true=>false
 | false=>match (match ops[j]? with|some o=>zis o|none=>true) with
  | true=>false
  | false=>match b with
   | true=>!zh3 ops 4 j
   | false=>true
def zvF (ops:Array Oper) (m f:Nat):Nat×Nat:=match Nat.blt f ops.size with
 | true=>(((List.range f).find? (zz9 ops m (zuw ops))).getD f,f)
 | false=>(f,f)
def zvG (ops:Array Oper) (M:List Nat) (f:Nat):Nat×Nat:=zvF ops (M.getD f 0) f
def zkh (ops:Array Oper) (M:List Nat):Nat×Nat:=zvG ops M (zn ops ops.toList)
def posL:List Nat→Nat→Nat→Nat
 | [],_,k=>k
 | x::l,i,k=>if x=i then k else posL l i (k+1)
def reO (p:List Nat) (o:Oper):Oper:={ o with after:=o.after.map fun e=>{ e with on:=posL p e.on 0 } }
def zhW (ops:Array Oper) (p:List Nat):Array Oper:=match ops.toList with
 | []=>#[]
 | o0::_=>(p.map fun i=>reO p (ops.toList.getD i o0)).toArray
def zqv (ops:Array Oper) (p:List Nat):Bool :=
 decide (p.length=ops.size) && ((List.range ops.size).all (fun i=>decide (posL p i 0 < ops.size) && decide (p.getD (posL p i 0) 0=i) && decide (p.getD i 0 < ops.size) && decide (posL p (p.getD i 0) 0=i)) &&
  ops.toList.all fun o=>o.guard.isNone && o.after.toList.all fun e=>decide (e.on < ops.size))
def znz (M:List Nat) (s i:Nat):Bool:=Nat.testBit s i || !Nat.beq (Nat.land (M.getD i 0) s) 0
def zkA (ops:Array Oper) (p:List Nat):Array Oper:=bif zqv ops p then zhW ops p else ops
def zAt (ops:Array Oper) (M:List Nat) (s:Nat) (E:List Nat):List Nat:=E++((List.range ops.size).filter (fun i=>!(znz M s i || E.contains i))++(List.range ops.size).filter (fun i=>znz M s i && !E.contains i))
def zyf (ops:Array Oper) (M:List Nat) (f s:Nat):Array Oper:=match zuv s with
 | true=>zkA ops (zAt ops M s ((List.range ops.size).filter (zh3 ops 4)))
 | false=>match (List.range ops.size).all (fun i=>Nat.blt i f || znz M s i) with
  | true=>ops
  | false=>zkA ops ((List.range ops.size).filter (fun i=>!znz M s i)++(List.range ops.size).filter (znz M s))
def zvH (m f n:Nat):List Nat:=(List.range f).filter (fun i=>Nat.testBit m i)++((List.range f).filter (fun i=>!Nat.testBit m i)++(List.range (n - f)).map (f+·))
def zwv (ops:Array Oper) (p:List Nat):Array Oper:=bif p == List.range ops.size then ops else zkA ops p
def zwu (ops:Array Oper) (f:Nat):Array Oper:=bif Nat.blt f ops.size then zwv ops (zvH ((zdl ops.toList []).getD f 0) f ops.size) else ops
def zom (ops:Array Oper):Array Oper:=zwu ops (zn ops ops.toList)
def zon (ops:Array Oper):Array Oper:=zyf ops (zdl ops.toList []) (zn ops ops.toList) (zop ops ops.toList 0)
def zmb (ops:Array Oper):Array Oper:=zom (zon ops)
def zvf (T:TT) (ρ:Fns) (ops:Array Oper) (M:List Nat) (σ:St) (k:St→Option β):Option β:=ziq pr T ρ ops M (zkh ops M) ops.toList 0 σ k
def zve (T:TT) (ρ:Fns) (ops:Array Oper) (σ:St) (k:St→Option β):Option β:=zvf pr T ρ ops (zdl ops.toList []) σ k
def fldB (T:TT) (t f:Nat):Bool:=match T t with
 | some ⟨.struct fs,_,_⟩=>(match fs[f]? with
  | some y=>!Nat.beq y.2.1 0
  | none=>false)
 | _=>false
def tOpF (T:TT) (o:Oper):Bool:=tOp o || ((match o.op with
 | .fieldAddr t (.tmp _) f=>fldB T t f
 | .assign (.tmp _)=>true
 | _=>false) && o.guard.isNone)
def frX (T:TT) (ops:Array Oper) (i:Nat):Bool:=match ops[i]? with
 | some o=>tOpF T o && (Region.noSelect ops && Region.free .any ops (zgr ops o) i)
 | none=>false
def genB (ops:Array Oper):Bool:=ops.toList.any fun o=>match o.op with
 | .call { callee:=.value (.func g),.. }=>(curE g).isSome || (shrIds.contains g || (newE g).isSome)
 | _=>false
def zi4 (ops:Array Oper) (done:List Nat):List Nat:=(List.range ops.size).filter fun i=>!done.contains i && match ops[i]? with
 | some o=>o.after.all fun e=>!Region.binds .any e || done.contains e.on
 | none=>false
def zlT:List (Option β)→Option β
 | []=>none
 | [x]=>x
 | x::y::l=>pr.both 0 x (zlT (y::l))
def ldX (H:List Nm) (ops:Array Oper) (σ:St) (i:Nat):Bool:=match ops[i]? with
 | some o=>(match o.op with
  | .load t (.tmp p)=>!takIds.contains t && (match σ.get (.tmp p) with
   | .c (.ptr m _ _ _)=>H.any (fun n=>!nmNe m n)
   | _=>false)
  | _=>false) && (o.guard.isNone && (Region.noSelect ops && Region.free .any ops (zgr ops o) i))
 | none=>false
def ltNm:Nm→Nm→Bool
 | (a,b,c),(d,e,f)=>bif Nat.blt a d then true else bif Nat.beq a d then (bif Nat.blt b e then true else bif Nat.beq b e then Nat.blt c f else false) else false
def insH (x:Nm×Bk):List (Nm×Bk)→List (Nm×Bk)
 | []=>[x]
 | y::r=>bif ltNm y.1 x.1 then y::insH x r else x::y::r
def srtH:List (Nm×Bk)→List (Nm×Bk)
 | []=>[]
 | x::r=>insH x (srtH r)
def agen (T:TT) (ρ:Fns) (ops:Array Oper) (H:List Nm):Nat→List Nat→St→(St→Option β)→Option β
 | 0,done,σ,k=>match zi4 ops done with
  | []=>k ⟨σ.tm,srtH σ.hp,σ.cnt⟩
  | _=>none
 | n+1,done,σ,k=>match zi4 ops done with
  | []=>none
  | i::r=>match (i::r).find? (fun j=>frX T ops j || ldX H ops σ j) with
   | some j=>(match ops[j]? with
    | some o=>(match o.guard with
     | none=>(match zgE pr T ρ σ j o with
      | some σ'=>agen T ρ ops H n (j::done) σ' k
      | none=>none)
     | some _=>none)
    | none=>none)
   | none=>zlT pr ((i::r).map fun j=>match ops[j]? with
    | some o=>(match o.guard with
     | none=>(match zgE pr T ρ σ j o with
      | some σ'=>(match chkH H σ o with
       | true=>agen T ρ ops H n (j::done) σ' k
       | false=>none)
      | none=>none)
     | some _=>none)
    | none=>none)
def ztT (T:TT) (ρ:Fns) (ops:Array Oper) (σ:St) (k:St→Option β):Option β:=match genB ops with
 | true=>agen pr T ρ ops (zul σ ops) ops.size [] σ k
 | false=>zve pr T ρ (zmb ops) σ k
inductive Ex where
 | normal
 | exit (id:Nat)
 | ret
structure CS where
 m:List (Nm×Nm)
 hp:List (Nm×Bk)
 nx:Nat
def CS.nm (s:CS):Nm:=(0,0,s.nx)
def ren (m:List (Nm×Nm)) (i:Nm):Option Nm :=
 match m with
 | []=>none
 | (j,b)::r=>if j=i then some b else ren r i
def zbX (hp:List (Nm×Bk)) (s:CS):Cell→CS×Cell
 | .row i e k off n=>match ren s.m i with
  | some j=>(s,.row j e k off n)
  | none=>match look hp i with
   | some b=>if b.isRow && zgB b then (⟨(i,s.nm)::s.m,s.hp++[(s.nm,{ b with lit:=false })],s.nx+1⟩,.row s.nm e k off n) else (s,.dead)
   | none=>(s,.dead)
 | .nil e k=>(⟨s.m,s.hp++[(s.nm,⟨true,false,e,k,[]⟩)],s.nx+1⟩,.row s.nm e k 0 0)
 | .at v=>(s,.at v)
 | .rd b e k l=>(s,.rd b e k l)
 | .bp b l off=>(s,.bp b l off)
 | _=>(s,.dead)
def zdD (hp:List (Nm×Bk)):CS→List Cell→CS×List Cell
 | s,[]=>(s,[])
 | s,x::l=>match zbX hp s x with
  | (s,y)=>match zdD hp s l with
   | (s,ys)=>(s,y::ys)
def zaZ (hp:List (Nm×Bk)) (s:CS):Cell→CS×Cell
 | .ptr i kk idx off=>match ren s.m i with
  | some j=>(s,.ptr j kk idx off)
  | none=>match look hp i with
   | some b=>if b.isRow then (if zgB b then (⟨(i,s.nm)::s.m,s.hp++[(s.nm,{ b with lit:=false })],s.nx+1⟩,.ptr s.nm kk idx off) else (s,.dead)) else
    match b.el with
    | [es]=>match zdD hp ⟨(i,s.nm)::s.m,s.hp,s.nx+1⟩ es with
     | (s',es')=>(⟨s'.m,(s.nm,{ b with el:=[es'] })::s'.hp,s'.nx⟩,.ptr s.nm kk idx off)
    | _=>(s,.dead)
   | none=>(s,.dead)
 | x=>zbX hp s x
def zc7 (hp:List (Nm×Bk)):CS→List Cell→CS×List Cell
 | s,[]=>(s,[])
 | s,x::l=>match zaZ hp s x with
  | (s,y)=>match zc7 hp s l with
   | (s,ys)=>(s,y::ys)
def zhr (hp:List (Nm×Bk)) (s:CS):PV→CS×PV
 | .c (.fn f caps)=>match zc7 hp s caps with|(s,cs)=>(s,.c (.fn f cs))
 | .c x=>match zaZ hp s x with|(s,y)=>(s,.c y)
 | .agg l=>match zc7 hp s l with|(s,ys)=>(s,.agg ys)
 | .tup _=>(s,.c .dead)
def zgN (σ:St):CS→List Nat→List PV→CS×List PV
 | s,[],tm=>(s,tm)
 | s,t::r,tm=>match zhr σ.hp s (σ.tm.getD t (.c .dead)) with|(s,p)=>zgN σ s r (tm.set t p)
def zky (hp:List (Nm×Bk)):List (Nm×Bk):=match look hp curN with
 | some b=>if b.isRow then [] else if zaW b.el then [(curN,b)] else []
 | none=>[]
def zc0 (lv:List Nat) (σ:St):St :=
 match zgN σ ⟨[(curN,curN)],zky σ.hp,0⟩ lv (List.replicate σ.tm.length (.c .dead)) with
 | (s,tm)=>⟨tm,s.hp,1⟩
def zb1 (F:St→(Ex→St→Option β)→Option β) (lv:List Nat):Nat→St→(Ex→St→Option β)→Option β
 | 0,_,_=>none
 | m+1,σ,k=>F (zc0 lv σ) fun e σ'=>match e with
  | .normal=>zb1 F lv m σ' k
  | e=>k e σ'
def fuel:Nat:=2 ^ 62
def first:Code→Nat
 | .region id _ _=>id
 | .seq a _=>first a
 | .block _ c=>first c
 | .loop c=>first c
 | .scope c=>first c
 | _=>0
def cx:List Nat→St→St
 | [],σ=>σ
 | _::l,σ=>zc0 l σ
def zzB (el:List (List Cell)):Bool:=el.any fun es=>es.any fun x=>match x with
 | .row _ _ _ _ _=>true
 | _=>false
def zma (σ:St) (t:Nat):St:=match σ.tm.getD t (.c .dead) with
 | .c (.row n _ _ _ _)=>match look σ.hp n with
  | some ⟨true,true,e,k,el⟩=>(match zzB el with
   | true=>(match zbO pr (del σ.hp n) el with
    | some (el',hp')=>⟨σ.tm,(n,⟨true,false,e,k,el'⟩)::hp',σ.cnt⟩
    | none=>σ)
   | false=>σ)
  | _=>σ
 | _=>σ
def zoj:List Nat→St→St
 | [],σ=>σ
 | t::r,σ=>zoj r (zma pr σ t)
abbrev zgK (β:Type):=(St→(Ex→St→Option β)→Option β)→List Nat→St→(Ex→St→Option β)→Option β
def zgo (al:zgK β) (T:TT) (ρ:Fns) (lv:Nat→List Nat):Code→St→(Ex→St→Option β)→Option β
 | .skip,σ,k=>k .normal σ
 | .label _,σ,k=>k .normal σ
 | .region _ ops d,σ,k=>match d with
  | true=>ztT pr T ρ ops σ fun σ'=>k .normal ⟨σ'.tm,σ'.hp,σ'.cnt+1⟩
  | false=>areg pr T ρ ops ops.toList 0 σ fun σ'=>k .normal ⟨σ'.tm,σ'.hp,σ'.cnt+1⟩
 | .seq a b,σ,k=>zgo al T ρ lv a σ fun e σ'=>match e with
  | .normal=>zgo al T ρ lv b σ' k
  | e=>k e σ'
 | .cond c x y,σ,k=>match σ.get c with
  | .c (.at (.bool b))=>if b=true then zgo al T ρ lv x σ k else zgo al T ρ lv y σ k
  | _=>none
 | .block id c,σ,k=>zgo al T ρ lv c σ fun e σ'=>match e with
  | .exit j=>if j=id then k .normal σ' else k (.exit j) σ'
  | e=>k e σ'
 | .loop c,σ,k=>al (fun σ k=>zgo al T ρ lv c σ k) (lv (first c)) (zoj pr (lv (first c)) σ) k
 | .exit id,σ,k=>k (.exit id) (cx (lv (id+1048576)) σ)
 | .ret,σ,k=>k .ret σ
 | _,_,_=>none
end
section
variable (pr:Prims)
def zu1:Arg→PV
 | .v d=>.c (zhY d true)
 | .a l=>.agg (l.map (zhY · true))
def zf3 (fe:FE) (xs:List Arg):St:=⟨xs.map zu1++List.replicate (fe.fn.ntmps - xs.length) (.c (.at undef)),[],1⟩
def resP (T:TT) (σ:St) (t:Nat):ResultVar→Option PV
 | .tmp r=>some (norm T t (σ.tm.getD r (.c .dead)))
 | .cell r u=>match T u,σ.tm.getD r (.c .dead) with
  | some ti,.c (.ptr i kk idx off)=>match look σ.hp i with
   | some b=>match b.nth pr kk idx with
    | some es=>if off+ti.size≤es.length then zfP (isAgg ti) (((es.drop off).take ti.size).map outC) else none
    | none=>none
   | none=>none
  | _,_=>none
def zi5 (T:TT) (fn:Func) (σ:St):Option (List Arg) :=
 match mapO (fun (r,t)=>resP pr T σ t r) (fn.results.toList.zip fn.resultTypes.toList) with
 | some ps=>if fn.results.size=fn.resultTypes.size∧zh5 (ps.flatMap zqs)=true then mapO (ownP pr (look σ.hp)) ps else none
 | none=>none
def ziR (al:zgK (List Arg)) (T:TT) (ρ:Fns) (fe:FE) (xs:List Arg):Option (List Arg) :=
 zgo pr al T ρ fe.live fe.body (zf3 fe xs) fun e σ=>match e with
  | .normal=>zi5 pr T fe.fn σ
  | .ret=>zi5 pr T fe.fn σ
  | .exit _=>none
def zjw (fe:FE) (e:Nat) (s:Bool) (ds:List DT) (xs:List Arg):St:=⟨.c (.ptr curN ds.length 0 0)::(xs.map (zib s)++List.replicate (fe.fn.ntmps - (xs.length+1)) (.c (.at undef))),[(curN,⟨false,true,e,ds.length,[ds.map boxC]⟩)],1⟩
def zhL (T:TT) (fn:Func) (σ:St):Option (List Arg):=match mapO (fun (r,t)=>resP pr T σ t r) (fn.results.toList.zip fn.resultTypes.toList) with
 | some ps=>if fn.results.size=fn.resultTypes.size then mapO (frzP pr (look σ.hp)) ps else none
 | none=>none
def ziL (T:TT) (fn:Func) (e n:Nat) (v:Bool) (σ:St):Option (List Arg):=match look σ.hp curN with
 | some ⟨false,true,e',k',[es]⟩=>if e=e'∧es.length=n then match mapO boxD es with
  | some ds'=>match v with
   | true=>(zhL pr T fn ⟨σ.tm,del σ.hp curN,σ.cnt⟩).map fun ys=>.v (.fn 0 [])::.v (.ptr ds')::ys
   | false=>(zi5 pr T fn ⟨σ.tm,del σ.hp curN,σ.cnt⟩).map fun ys=>.v (.ptr ds')::ys
  | none=>none
  else none
 | _=>none
def zhh (al:zgK (List Arg)) (T:TT) (ρ:Fns) (fe:FE) (e:Nat) (v:Bool) (xs:List Arg):Option (List Arg):=match xs with
 | .v (.ptr ds)::xs=>if ds.all boxK=true then zgo pr al T ρ fe.live fe.body (zjw fe e v ds xs) fun x σ=>match x with
   | .normal=>ziL pr T fe.fn e ds.length v σ
   | .ret=>ziL pr T fe.fn e ds.length v σ
   | .exit _=>none
  else none
 | _=>none
def zoE (al:zgK (List Arg)) (T:TT) (ρ:Fns) (fe:FE) (xs:List Arg):Option (List Arg) :=
 zgo pr al T ρ fe.live fe.body (zf3 fe xs) fun x σ=>match x with
  | .normal=>(zhL pr T fe.fn σ).map (.v (.fn 1 [])::·)
  | .ret=>(zhL pr T fe.fn σ).map (.v (.fn 1 [])::·)
  | .exit _=>none
def zj4 (T:TT) (fn:Func) (e:Nat) (σ:St):Option (List Arg):=match (mapO (fun (r,t)=>resP pr T σ t r) (fn.results.toList.zip fn.resultTypes.toList):Option (List PV)) with
 | some (.c (.ptr n k 0 0)::ps)=>if fn.results.size=fn.resultTypes.size then match look σ.hp n with
  | some ⟨false,true,e',k',[es]⟩=>if e=e' then match mapO boxD es,mapO (frzP pr (look (del σ.hp n))) ps with
   | some ds,some rs=>some (.v (.fn 2 [])::.v (.ptr ds)::rs)
   | _,_=>none
   else none
  | _=>none
  else none
 | _=>none
def zoD (al:zgK (List Arg)) (T:TT) (ρ:Fns) (fe:FE) (e:Nat) (xs:List Arg):Option (List Arg) :=
 zgo pr al T ρ fe.live fe.body (zf3 fe xs) fun x σ=>match x with
  | .normal=>zj4 pr T fe.fn e σ
  | .ret=>zj4 pr T fe.fn e σ
  | .exit _=>none
def spcB (g:Nat):Bool:=viewIds.isEmpty && ((curE g).isSome || (shrIds.contains g || (newE g).isSome))
def spcF (f:FuncId):Option FuncId:=if 2 ^ 40≤f∧spcB (f - 2 ^ 40)=true then some (f - 2 ^ 40) else none
def shpN:Option (List Arg)→Option (List Arg)
 | some (.v (.fn 2 [])::.v (.ptr ds)::rs)=>some (.v (.fn 2 [])::.v (.ptr ds)::rs)
 | _=>none
def shpC:Option (List Arg)→Option (List Arg)
 | some (.v (.ptr ds)::rs)=>some (.v (.ptr ds)::rs)
 | _=>none
def shpW:Option (List Arg)→Option (List Arg)
 | some (.v (.fn 0 [])::.v (.ptr ds)::rs)=>some (.v (.fn 0 [])::.v (.ptr ds)::rs)
 | _=>none
def shpS:Option (List Arg)→Option (List Arg)
 | some (.v (.fn 1 [])::rs)=>some (.v (.fn 1 [])::rs)
 | _=>none
def ziv (al:zgK (List Arg)) (T:TT) (ρ:Fns) (g:Nat) (fe:FE) (xs:List Arg):Option (List Arg):=match newE g with
 | some e=>shpN (zoD pr al T ρ fe e xs)
 | none=>match curE g with
  | some e=>(match shrIds.contains g with
   | true=>shpW (zhh pr al T ρ fe e true xs)
   | false=>shpC (zhh pr al T ρ fe e false xs))
  | none=>shpS (zoE pr al T ρ fe xs)
def ev (G:FuncId→Option FE) (X:Fns) (T:TT):Nat→Fns
 | 0,f,xs=>X f xs
 | n+1,f,xs=>match G f with
  | some fe=>ziR pr (fun F lv=>zb1 F lv fuel) T (ev G X T n) fe xs
  | none=>match spcF f with
   | some g=>(match G g with
    | some fe=>ziv pr (fun F lv=>zb1 F lv fuel) T (ev G X T n) g fe xs
    | none=>X f xs)
   | none=>X f xs
end
theorem cFk {pb:{β:Type}→Nat→Option β→Option β→Option β} (h:@pb=@Prims.both za) {γ:Type} {a b r:Option γ} (ha:a=r) (hb:b=r):pb 0 a b=r:=by
 have h1:@pb γ 0 a b=@Prims.both za γ 0 a b:=by rw [h]
 rw [h1]
 show zhq 0 a b=r
 exact zj8 ha fun _=>hb
end Go.Proofs.YtifkepnfaggkiaaGreatDoor
