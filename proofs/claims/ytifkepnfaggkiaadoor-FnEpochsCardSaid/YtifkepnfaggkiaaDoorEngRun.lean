/- The abstract interpreter: stores, appends, calls, regions, code, functions. Definitions alone. -/
import Derived.Test.YtifkepnfaggkiaaDoorEngDef
import Derived.Test.YtifkepnfaggkiaaDoorIds
namespace Go.Proofs.YtifkepnfaggkiaaDoor
open Go.RowKit
set_option linter.unusedVariables false
set_option linter.unusedSimpArgs false
set_option linter.unusedSectionVars false

/-- the name of the box that the function was given -/
def curN : Nm := (0, 1, 0)
/-- the function table of the interpreter -/
abbrev Fns := FuncId → List Arg → Option (List Arg)
structure FE where
  fn : Func
  body : Code
  live : Nat → List Nat

section
variable (pr : Prims)
def Bk.full (b : Bk) (off n : Nat) : Bool := if b.lit then off == 0 && n == b.el.length else pr.full off n b.el
/-- cells that lead to no name of ours -/
def simpleC : Cell → Bool
  | .at _ => true
  | .nil _ _ => true
  | .rd _ _ _ _ => true
  | .own _ _ _ => true
  | .dead => true
  | _ => false
def simpleL (el : List (List Cell)) : Bool := el.all fun es => es.all simpleC
def simpleB (b : Bk) : Bool := if b.lit then simpleL b.el else true
/-- a row that is moved into a cell -/
def closeC (hp : List (Nm × Bk)) : Cell → Option (Cell × List (Nm × Bk))
  | .row i e k off n => match look hp i with
    | some b => if b.isRow ∧ k = b.k ∧ e = b.e ∧ b.full pr off n then (if b.lit then mapO (mapO own0) b.el else pr.own b.el).map fun l => (.own e k l, del hp i) else none
    | none => none
  | .at v => if plainV v then some (.at v, hp) else none
  | .nil e k => some (.nil e k, hp)
  | .rd s e k l => some (.rd s e k l, hp)
  | .own e k l => some (.own e k l, hp)
  | _ => none
def closeL : List (Nm × Bk) → List Cell → Option (List Cell × List (Nm × Bk))
  | hp, [] => some ([], hp)
  | hp, x :: l => match closeC pr hp x with
    | some (y, hp) => (closeL hp l).map fun (ys, hp) => (y :: ys, hp)
    | none => none
def closeLL : List (Nm × Bk) → List (List Cell) → Option (List (List Cell) × List (Nm × Bk))
  | hp, [] => some ([], hp)
  | hp, x :: l => match closeL pr hp x with
    | some (y, hp) => (closeLL hp l).map fun (ys, hp) => (y :: ys, hp)
    | none => none

/-- rows that have been moved: what they hold -/
def zipM : List Cell → List Cell → List (Nm × List (List DT))
  | .row r _ _ _ _ :: cs, .own _ _ l :: ds => (r, l) :: zipM cs ds
  | _ :: cs, _ :: ds => zipM cs ds
  | _, _ => []
def lookM : List (Nm × List (List DT)) → Nm → Option (List (List DT))
  | [], _ => none
  | (m, l) :: ps, n => if m = n then some l else lookM ps n
/-- a cell of a box that names a row that has been moved: it is a view from now on -/
def retC (hp0 : List (Nm × Bk)) (ps : List (Nm × List (List DT))) (x : Cell) : Cell := match x with
  | .row r e k off n => match lookM ps r, look hp0 r with
    | some l, some b => if k ≠ 0 ∧ k = b.k ∧ e = b.e ∧ b.full pr off n then .rd false e k l else .row r e k off n
    | _, _ => .row r e k off n
  | x => x
def retB (hp0 : List (Nm × Bk)) (ps : List (Nm × List (List DT))) (b : Bk) : Bk := if b.isRow then b else ⟨b.isRow, b.lit, b.e, b.k, b.el.map fun es => es.map (retC pr hp0 ps)⟩
def retH (hp0 : List (Nm × Bk)) (ps : List (Nm × List (List DT))) (hp : List (Nm × Bk)) : List (Nm × Bk) := match ps with
  | [] => hp
  | _ :: _ => hp.map fun x => (x.1, retB pr hp0 ps x.2)
def retP (hp0 : List (Nm × Bk)) (ps : List (Nm × List (List DT))) (p : PV) : PV := match p with
  | .c x => .c (retC pr hp0 ps x)
  | .agg l => .agg (l.map (retC pr hp0 ps))
  | .tup l => .tup l
def retS (hp0 : List (Nm × Bk)) (ps : List (Nm × List (List DT))) (σ : St) : St := match ps with
  | [] => σ
  | _ :: _ => ⟨σ.tm.map (retP pr hp0 ps), retH pr hp0 ps σ.hp, σ.cnt⟩
def zipLL : List (List Cell) → List (List Cell) → List (Nm × List (List DT))
  | c :: cs, d :: ds => zipM c d ++ zipLL cs ds
  | _, _ => []
/-- rows that an append of a literal moves -/
def srcM (hp0 : List (Nm × Bk)) (x : PV) (l : List (List Cell)) : List (Nm × List (List DT)) := match x with
  | .c (.row j _ _ off m) => match look hp0 j with
    | some b => if b.lit then zipLL ((b.el.drop off).take m) l else []
    | none => []
  | _ => []
/-- only at types of rows that are told -/
def retM (t : Nat) (hp0 : List (Nm × Bk)) (x : PV) (l : List (List Cell)) : List (Nm × List (List DT)) := if retTys.contains t then srcM hp0 x l else []
def aput (T : TT) (σ : St) (o : Oper) (p : PV) (nb : List (Nm × Bk)) : St :=
  match o.dst with
  | some d => ⟨σ.tm.set d (norm T o.type p), nb ++ σ.hp, σ.cnt⟩
  | none => ⟨σ.tm, nb ++ σ.hp, σ.cnt⟩

/-- the names of an operation's blocks -/
def nmOf (σ : St) (i : Nat) : Nat → Nm := match σ with | ⟨_, _, c⟩ => fun j => (c, i, j)
theorem nmOf_eq (σ : St) (i : Nat) : nmOf σ i = fun j => (σ.cnt, i, j) := rfl
def callL (ρ : Fns) (g : FuncId) (l : List Arg) : Option (List Arg) := match l with
  | [] => ρ g []
  | x :: r => ρ g (x :: r)
theorem callL_eq (ρ : Fns) (g : FuncId) (l : List Arg) : callL ρ g l = ρ g l := by cases l <;> rfl
/-- an argument: a nil slice gets its type, but for those functions that ask for nil itself -/
def normA (T : TT) (g : FuncId) (t : Nat) (p : PV) : PV := if nilIds.contains g then p else norm T t p
/-- functions whose results are rows with elements to be read -/
def wkP (g : Nat) : Prims := bif wkIds.contains g then { pr with opn := fun l => (pr.lend false l).getD [] } else pr
/-- a call: its arguments as data, its results as rows of ours -/
def acall (T : TT) (ρ : Fns) (L : Nm → Option Bk) (n : Nat → Nm) (get : Operand → PV) (c : Call) : Option (PV × List (Nm × Bk)) :=
  match c.callee with
  | .value f => match get f with
    | .c (.fn g caps) => if c.args.size = c.argTypes.size ∧ g < 2 ^ 40 then match mapO (fun (x, t) => frzP pr L (normA T g t (get x))) (c.args.toList.zip c.argTypes.toList), mapO (frz2 pr L) caps with
      | some xs, some cs => match callL ρ g (xs ++ cs.map .v) with
        | some [r] => some (openA (wkP pr g) n 0 r)
        | some rs => match openR (wkP pr g) n 0 rs with | (ps, b) => some (.tup ps, b)
        | none => none
      | _, _ => none
      else none
    | _ => none
  | _ => none

def astore (T : TT) (σ : St) (t : Nat) (a x : PV) : Option St :=
  match T t, a with
  | some ti, .c (.ptr i kk idx off) => match cellsOf (norm T t x) (isAgg ti), look σ.hp i with
    | some cs, some b => match b.nth pr kk idx with
      | some es => if cs.length = ti.size ∧ off + ti.size ≤ es.length ∧ ti.size ≠ 0 then
          match (if b.isRow then closeL pr σ.hp cs else some (cs, σ.hp)) with
          | some (cs', hp) => match look hp i with
            | some _ => some ⟨σ.tm, retH pr σ.hp (zipM cs cs') (upd hp i ⟨b.isRow, b.lit, b.e, b.k, if b.lit then b.el.set idx (es.take off ++ cs' ++ es.drop (off + ti.size)) else pr.rset b.el idx (es.take off ++ cs' ++ es.drop (off + ti.size))⟩), σ.cnt⟩
            | none => none
          | none => none
        else none
      | none => none
    | _, _ => none
  | _, _ => none

/-- what is appended (its elements have k cells): its elements, and the memory without what has been moved -/
def asrc (σ : St) (k : Nat) : PV → Option (List (List Cell) × List (Nm × Bk))
  | .c (.rd s e k' l) => if k' = k then (pr.lend s l).map (·, σ.hp) else none
  | .c (.nil e k') => some ([], σ.hp)
  | .c (.at (.string s)) => if k = 1 then some (pr.bytes s, σ.hp) else none
  | .c (.row j e k' off m) => match look σ.hp j with
    | some b => if k' = k ∧ k = b.k then (if b.lit then (if off + m ≤ b.el.length then closeLL pr (del σ.hp j) ((b.el.drop off).take m) else none)
      else match pr.rmov b.el off m with
        | some l => some (l, upd σ.hp j ⟨b.isRow, b.lit, b.e, b.k, pr.rout b.el off m⟩)
        | none => none) else none
    | none => none
  | _ => none
def srcK : TK → Bool
  | .slice _ _ _ => true
  | .string => true
  | _ => false
def aappend (T : TT) (σ : St) (n : Nm) (o : Oper) (t t' : Nat) (s x : PV) : Option St :=
  match T t with
  | some ⟨.slice e k by_, _, _⟩ => match T t', T e with
    | some ⟨kx, _, _⟩, some _ => if srcK kx = true ∧ k ≠ 0 ∧ by_ ≠ 0 then match asrc pr σ k x with
      | some (l, hp) => match norm T t s with
        | .c (.nil _ _) => if pr.fits 0 (pr.rlen l) by_ then some (retS pr σ.hp (retM t σ.hp x l) (aput T ⟨σ.tm, hp, σ.cnt⟩ o (.c (.row n e k 0 (pr.rlen l))) [(n, ⟨true, false, e, k, l⟩)])) else none
        | .c (.row i e' k' off m) => match look hp i with
          | some b => if b.isRow ∧ k' = k ∧ k = b.k ∧ e = b.e ∧ b.full pr off m ∧ pr.fits m (pr.rlen l) by_ ∧ simpleB b then
              some (retS pr σ.hp (retM t σ.hp x l) (aput T ⟨σ.tm, del hp i, σ.cnt⟩ o (.c (.row n e k 0 (pr.addN m (pr.rlen l)))) [(n, ⟨true, false, e, k, pr.rapp b.el l⟩)])) else none
          | none => none
        | _ => none
      | none => none
      else none
    | _, _ => none
  | _ => none

/-- cells of one word are copied into a row of ours -/
def acopy (T : TT) (σ : St) (o : Oper) (t t' : Nat) (s x : PV) : Option St :=
  match T t, T t' with
  | some ⟨.slice e 1 _, _, _⟩, some ⟨.slice _ 1 _, _, _⟩ => match s, x with
    | .c (.row i _ 1 off m), .c y => match look σ.hp i, frz1 pr (look σ.hp) y with
      | some b, some (.sl _ 1 l) => if b.isRow = true ∧ b.lit = false ∧ b.k = 1 then match pr.copy b.el off m l with
          | some (N, el) => some (aput T ⟨σ.tm, upd σ.hp i ⟨b.isRow, b.lit, b.e, b.k, el⟩, σ.cnt⟩ o (.c (.at (.int .i64 (pr.int N)))) [])
          | none => none
        else none
      | _, _ => none
    | _, _ => none
  | _, _ => none
def ownC (L : Nm → Option Bk) : Cell → Option DT
  | .row i e k off n => match L i with
    | some b => if b.isRow ∧ k = b.k ∧ e = b.e ∧ b.full pr off n then (if b.lit then mapO (mapO own0) b.el else pr.own b.el).map (DT.sl e k) else none
    | none => none
  | x => own0 x
def ownP (L : Nm → Option Bk) : PV → Option Arg
  | .c x => (ownC pr L x).map .v
  | .agg l => (mapO (ownC pr L) l).map .a
  | .tup _ => none
def nameC : Cell → List Nm
  | .row i _ _ _ _ => [i]
  | _ => []
def nameP : PV → List Nm
  | .c x => nameC x
  | .agg l => l.flatMap nameC
  | .tup _ => []
def nodupB : List Nm → Bool
  | [] => true
  | x :: l => !l.contains x && nodupB l

/-! calls that write into what they are given -/
/-- the numbers under which such functions stand in the table -/
def mutK : Nat := 2 ^ 40
def mutOf : PV → Bool
  | .c (.fn g []) => mutIds.contains g
  | _ => false
/-- cells that lead into no row of ours -/
def calmL : Cell → Bool
  | .at _ => true
  | .nil _ _ => true
  | .row _ _ _ _ _ => true
  | .ptr _ _ _ _ => true
  | .dead => true
  | .rd s _ _ _ => s
  | .bp s _ _ => s
  | _ => false
def calmC : Cell → Bool
  | .fn _ caps => caps.all calmL
  | x => calmL x
def calmV : PV → Bool
  | .c x => calmC x
  | .agg l => l.all calmC
  | .tup _ => false
def calmP : PV → Bool
  | .c x => calmC x
  | .agg l => l.all calmC
  | .tup l => l.all calmV
def isOwn : Cell → Bool
  | .own _ _ _ => true
  | _ => false
def calmB (b : Bk) : Bool := bif b.isRow && !b.lit then (match pr.own b.el with | some _ => true | none => false) else b.el.all fun es => es.all fun x => calmC x || isOwn x
def calmH : List (Nm × Bk) → Bool
  | [] => true
  | x :: l => bif calmB pr x.2 then calmH l else false
def wbC (hp : List (Nm × Bk)) : Cell → DT → Option (List (Nm × Bk))
  | .row i e k off n, .sl e' k' l => if e = e' ∧ k = k' then some (upd hp i ⟨true, false, e, k, pr.opn l⟩) else none
  | .at _, .at _ => some hp
  | _, _ => none
def wbL : List (Nm × Bk) → List Cell → List DT → Option (List (Nm × Bk))
  | hp, [], [] => some hp
  | hp, x :: cs, d :: ds => match wbC pr hp x d with
    | some hp => wbL hp cs ds
    | none => none
  | _, _, _ => none
def cellsP : PV → List Cell
  | .c x => [x]
  | .agg l => l
  | .tup _ => []
def dtsA : Arg → List DT
  | .v d => [d]
  | .a l => l
def shapeOk : PV → Arg → Bool
  | .c _, .v _ => true
  | .agg l, .a l' => l.length == l'.length
  | _, _ => false
def shapesOk : List PV → List Arg → Bool
  | [], [] => true
  | p :: ps, y :: ys => shapeOk p y && shapesOk ps ys
  | _, _ => false
def amut (T : TT) (ρ : Fns) (σ : St) (o : Oper) (f : PV) (as : List Operand) (ts : List Nat) : Option St :=
  match f with
  | .c (.fn g []) => if as.length = ts.length then match mapO (fun (x, t) => ownP pr (look σ.hp) (norm T t (σ.get x))) (as.zip ts) with
    | some xs => match ρ (g + mutK) xs with
      | some (.v (.at r) :: ys) => if nodupB (((as.zip ts).map fun (x, t) => norm T t (σ.get x)).flatMap nameP) = true ∧ shapesOk ((as.zip ts).map fun (x, t) => norm T t (σ.get x)) ys = true ∧ σ.tm.all calmP = true then
          bif calmH pr σ.hp then
            match wbL pr σ.hp (((as.zip ts).map fun (x, t) => norm T t (σ.get x)).flatMap cellsP) (ys.flatMap dtsA) with
            | some hp => some (aput T ⟨σ.tm, hp, σ.cnt⟩ o (.c (.at r)) [])
            | none => none
          else none
        else none
      | _ => none
    | none => none
    else none
  | _ => none
/-! calls that eat a row of ours and give another -/
def conOf : PV → Bool
  | .c (.fn g []) => conIds.contains g
  | _ => false
def dels (hp : List (Nm × Bk)) : List Nm → List (Nm × Bk)
  | [] => hp
  | n :: l => dels (del hp n) l
/-- what such a call takes besides the row: data, and the names that go with the row's -/
def conR (hp : List (Nm × Bk)) (i : Nm) : List PV → Option (List Arg × List Nm)
  | [.c (.fn f caps)] => if caps.all calmL then (frz pr (look (del hp i)) (.fn f caps)).map fun d => ([.v d], []) else none
  | [.c (.at u), .c (.row j e k off n)] => match look hp j with
    | some b => match b.lit, b.el with
      | true, [es] => if off = 0 ∧ n = 1 ∧ k = b.k ∧ es.all (fun x => !isOwn x) = true ∧ nodupB (i :: j :: es.flatMap nameC) = true then (mapO (ownC pr (look hp)) es).map fun ds => ([.v (.at u), .v (.sl e k [ds])], es.flatMap nameC) else none
      | _, _ => none
    | none => none
  | _ => none
def acon1 (T : TT) (ρ : Fns) (σ : St) (n : Nm) (o : Oper) (g : Nat) (i : Nm) (d : Option DT) (r : Option (List Arg × List Nm)) : Option St :=
  match d, r with
  | some d, some (xs, ns) => match ρ (g + mutK) (.v d :: xs) with
    | some [.v (.sl e k l)] => if σ.tm.all calmP = true then bif calmH pr σ.hp then some (aput T ⟨σ.tm, dels (del σ.hp i) ns, σ.cnt⟩ o (.c (.row n e k 0 (pr.len l))) [(n, ⟨true, false, e, k, pr.opn l⟩)]) else none else none
    | _ => none
  | _, _ => none
def acon (T : TT) (ρ : Fns) (σ : St) (n : Nm) (o : Oper) (f : PV) (as : List Operand) (ts : List Nat) : Option St :=
  match f with
  | .c (.fn g []) => if as.length = ts.length then match ((as.zip ts).map (fun (x, t) => norm T t (σ.get x)) : List PV) with
    | .c (.row i e k off m) :: ps => acon1 pr T ρ σ n o g i (ownC pr (look σ.hp) (.row i e k off m)) (conR pr σ.hp i ps)
    | _ => none
    else none
  | _ => none
/-! calls that write into the box they are given -/
/-- the type of the box that a function is given -/
def curE (g : Nat) : Option Nat := (curIds.find? fun x => Nat.beq x.1 g).map (·.2)
/-- the type of the box that a function makes -/
def newE (g : Nat) : Option Nat := (newIds.find? fun x => Nat.beq x.1 g).map (·.2)
/-- functions whose results may share memory, or that make a box -/
def shrOf : PV → Bool
  | .c (.fn g []) => shrIds.contains g || ((newE g).isSome || borIds.contains g)
  | _ => false
def curOf : PV → Bool
  | .c (.fn g []) => (curE g).isSome
  | _ => false
def boxD : Cell → Option DT
  | .at v => some (.at v)
  | .rd true e k l => some (.sl e k l)
  | _ => none
def boxC : DT → Cell
  | .at v => .at v
  | .sl e k l => .rd true e k l
  | _ => .dead
def boxK : DT → Bool
  | .at _ => true
  | .sl _ _ _ => true
  | _ => false
def openX (n : Nat → Nm) (rs : List Arg) : PV × List (Nm × Bk) := match rs with
  | [r] => openA pr n 0 r
  | rs => match openR pr n 0 rs with | (ps, b) => (.tup ps, b)
def okNm (c i : Nat) (nb : List (Nm × Bk)) : Bool := nb.all fun x => decide (x.1.1 = c ∧ x.1.2.1 = i)
def litB (nb : List (Nm × Bk)) : Bool := nb.all fun x => x.2.lit || !x.2.isRow
def mkOp : Op → Bool
  | .makeSlice _ _ _ => true
  | _ => false
def aputl (T : TT) (σ : St) (i : Nat) (o : Oper) : Option (PV × List (Nm × Bk)) → Option St
  | some (p, nb) => if okNm σ.cnt i nb && (mkOp o.op || litB nb) then some (aput T σ o p nb) else none
  | none => none
def aputs (T : TT) (σ : St) (i : Nat) (o : Oper) : Option (PV × List (Nm × Bk)) → Option St
  | some (p, nb) => if okNm σ.cnt i nb then some (aput T σ o p nb) else none
  | none => none
def acur (T : TT) (ρ : Fns) (σ : St) (i : Nat) (o : Oper) (f : PV) (as : List Operand) (ts : List Nat) : Option St :=
  match f with
  | .c (.fn g []) => if as.length = ts.length then match curE g, ((as.zip ts).map (fun (x, t) => norm T t (σ.get x)) : List PV) with
    | some e, .c (.ptr n k 0 0) :: ps => match look σ.hp n with
      | some ⟨false, true, e', k', [es]⟩ => if e = e' ∧ k = k' then match mapO boxD es, mapO (frzP pr (look (del σ.hp n))) ps with
        | some ds, some xs => match ρ (g + mutK) (.v (.ptr ds) :: xs) with
          | some (.v (.ptr ds') :: rs) => if ds'.length = ds.length ∧ ds'.all boxK = true then
              if okNm σ.cnt i (openX pr (nmOf σ i) rs).2 = true then some (aput T ⟨σ.tm, upd σ.hp n ⟨false, true, e, k, [ds'.map boxC]⟩, σ.cnt⟩ o (openX pr (nmOf σ i) rs).1 (openX pr (nmOf σ i) rs).2) else none
            else none
          | _ => none
        | _, _ => none
        else none
      | _ => none
    | _, _ => none
    else none
  | _ => none
/-- what may be read for ever -/
def tArg : PV → Option Arg
  | .c x => (boxD x).map .v
  | .agg l => (mapO boxD l).map .a
  | .tup _ => none
def thawD2 (s : Bool) : Arg → PV
  | .v d => .c (thawD d s)
  | .a l => .agg (l.map (thawD · s))
def packR (rs : List Arg) : PV := match rs with
  | [r] => thawD2 false r
  | rs => .tup (rs.map (thawD2 false))
def anew (T : TT) (ρ : Fns) (σ : St) (i : Nat) (o : Oper) (g e : Nat) (xs : Option (List Arg)) : Option St := match xs with
  | some xs => match callL ρ (g + mutK) xs with
    | some [.v (.fn 2 []), .v (.ptr ds)] => if ds.all boxK = true then some (aput T σ o (.c (.ptr (σ.cnt, i, 0) ds.length 0 0)) [((σ.cnt, i, 0), ⟨false, true, e, ds.length, [ds.map boxC]⟩)]) else none
    | _ => none
  | none => none
def aview (T : TT) (ρ : Fns) (σ : St) (o : Oper) (g : Nat) (xs : Option (List Arg)) : Option St := match xs with
  | some xs => match callL ρ (g + mutK) xs with
    | some (.v (.fn 1 []) :: rs) => some (aput T σ o (packR rs) [])
    | _ => none
  | none => none
def acv (T : TT) (ρ : Fns) (σ : St) (o : Oper) (g e : Nat) (ps : List PV) : Option St := match ps with
  | .c (.ptr n k 0 0) :: ps => match look σ.hp n with
    | some ⟨false, true, e', k', [es]⟩ => if e = e' ∧ k = k' then match mapO boxD es, mapO tArg ps with
      | some ds, some xs => match ρ (g + mutK) (.v (.ptr ds) :: xs) with
        | some (.v (.fn 0 []) :: .v (.ptr ds') :: rs) => if ds'.length = ds.length ∧ ds'.all boxK = true then some (aput T ⟨σ.tm, upd σ.hp n ⟨false, true, e, k, [ds'.map boxC]⟩, σ.cnt⟩ o (packR rs) []) else none
        | _ => none
      | _, _ => none
      else none
    | _ => none
  | _ => none
def acb (T : TT) (ρ : Fns) (σ : St) (i : Nat) (o : Oper) (g e : Nat) (ps : List PV) : Option St := match ps with
  | .c (.ptr n k 0 0) :: ps => match look σ.hp n with
    | some ⟨false, true, e', k', [es]⟩ => if e = e' ∧ k = k' then match mapO boxD es, mapO tArg ps with
      | some ds, some xs => match ρ (g + mutK) (.v (.ptr ds) :: xs) with
        | some [.v (.fn 3 []), .v (.ptr ds'), .v (.sl t kk l)] => if ds'.length = ds.length ∧ ds'.all boxK = true then match pr.lend false l with
            | some el => some (aput T ⟨σ.tm, upd σ.hp n ⟨false, true, e, k, [ds'.map boxC]⟩, σ.cnt⟩ o (.c (.row (σ.cnt, i, 0) t kk 0 (pr.len l))) [((σ.cnt, i, 0), ⟨true, false, t, kk, el⟩)])
            | none => none
          else none
        | _ => none
      | _, _ => none
      else none
    | _ => none
  | _ => none
def ashr (T : TT) (ρ : Fns) (σ : St) (i : Nat) (o : Oper) (f : PV) (as : List Operand) (ts : List Nat) : Option St := match f with
  | .c (.fn g []) => if as.length = ts.length then match newE g with
    | some e => anew T ρ σ i o g e (mapO tArg ((as.zip ts).map (fun (x, t) => norm T t (σ.get x)) : List PV))
    | none => match curE g with
      | some e => (match borIds.contains g with
        | true => acb pr T ρ σ i o g e ((as.zip ts).map (fun (x, t) => norm T t (σ.get x)) : List PV)
        | false => acv T ρ σ o g e ((as.zip ts).map (fun (x, t) => norm T t (σ.get x)) : List PV))
      | none => aview T ρ σ o g (mapO tArg ((as.zip ts).map (fun (x, t) => norm T t (σ.get x)) : List PV))
    else none
  | _ => none
def astep (T : TT) (ρ : Fns) (σ : St) (i : Nat) (o : Oper) : Option St :=
  match o.op with
  | .store t a x => (astore pr T σ t (σ.get a) (σ.get x)).map fun σ => aput T σ o (.c (.at undef)) []
  | .call { callee := .builtin .append, args := as, argTypes := ts } => match as.toList, ts.toList with
    | [s, x], [t, t'] => aappend pr T σ (σ.cnt, i, 0) o t t' (σ.get s) (norm T t' (σ.get x))
    | _, _ => none
  | .call { callee := .builtin .copy, args := as, argTypes := ts } => match as.toList, ts.toList with
    | [s, x], [t, t'] => acopy pr T σ o t t' (σ.get s) (norm T t' (σ.get x))
    | _, _ => none
  | .call { callee := .value f, args := as, argTypes := ts } => bif mutOf (σ.get f) then amut pr T ρ σ o (σ.get f) as.toList ts.toList else bif conOf (σ.get f) then acon pr T ρ σ (σ.cnt, i, 0) o (σ.get f) as.toList ts.toList else bif curOf (σ.get f) then acur pr T ρ σ i o (σ.get f) as.toList ts.toList else aputs T σ i o (acall pr T ρ (look σ.hp) (nmOf σ i) σ.get { callee := .value f, args := as, argTypes := ts })
  | _ => aputl T σ i o (apure pr T (look σ.hp) (nmOf σ i) σ.get o)

/-- calls after which more is there to be read -/
def vshr (T : TT) (ρ : Fns) (σ : St) (i : Nat) (o : Oper) : Option (Option St) := match o.op with
  | .call { callee := .value f, args := as, argTypes := ts } => bif shrOf (σ.get f) then some (ashr pr T ρ σ i o (σ.get f) as.toList ts.toList) else none
  | _ => none
def vstep (T : TT) (ρ : Fns) (σ : St) (i : Nat) (o : Oper) : Option St := match vshr pr T ρ σ i o with
  | some r => r
  | none => astep pr T ρ σ i o
end
def gbool (σ : St) (d : Option Nat) : Option (Option Bool) :=
  match d with
  | none => some none
  | some t => match σ.tm[t]? with
    | some (.c (.at (.bool b))) => some (some b)
    | some (.c (.at (.tuple _))) => some none
    | _ => none

/-- is a slice asked for nil? -/
def nilAsk (T : TT) (σ : St) (o : Oper) : Option (List (List DT)) :=
  match o.op with
  | .binOp .eql t x (.const (.slice none 0 0)) _ => match T t with
    | some ⟨.slice _ _ _, _, _⟩ => match σ.get x with
      | .c (.rd _ _ _ l) => some l
      | _ => none
    | _ => none
  | _ => none
/-! calls that give a view: from there on all that is there is lent -/
section
variable (pr : Prims)
def rebC (L : Nm → Option Bk) (x : Cell) : Cell := match x with
  | .at v => .at v
  | .nil e k => .nil e k
  | .rd _ e k l => .rd true e k l
  | .row i e k off n => match frz pr L (.row i e k off n) with
    | some (.sl e' k' l) => .rd true e' k' l
    | _ => .dead
  | .ptr i k idx off => match L i with
    | some b => match b.nth pr k idx with
      | some es => match mapO frz0 es with
        | some ds => .bp true ds off
        | none => .dead
      | none => .dead
    | none => .dead
  | _ => .dead
def rebP (L : Nm → Option Bk) (p : PV) : PV := match p with
  | .c x => .c (rebC pr L x)
  | .agg l => .agg (l.map (rebC pr L))
  | .tup _ => .c .dead
def rebS (σ : St) : St := ⟨σ.tm.map (rebP pr (look σ.hp)), [], σ.cnt⟩
/-- what such a call gives -/
def viewP : Option (List Arg) → Option PV
  | some [.v (.sl e k l), .v (.sl _ _ _)] => some (.c (.rd true e k l))
  | _ => none
def vcall (T : TT) (ρ : Fns) (σ : St) (o : Oper) : Option (Option PV) := match o.op with
  | .call { callee := .value f, args := as, argTypes := ts } => match σ.get f with
    | .c (.fn g []) => if viewIds.contains g = true ∧ as.size = ts.size ∧ o.guard.isNone = true then match mapO (fun (x, t) => frzP pr (look σ.hp) (normA T g t (σ.get x))) (as.toList.zip ts.toList) with
      | some xs => some (viewP (callL ρ (g + mutK) xs))
      | none => some none
      else none
    | _ => none
  | _ => none
end
section
variable {β : Type} (pr : Prims)
def areg (T : TT) (ρ : Fns) (ops : Array Oper) : List Oper → Nat → St → (St → Option β) → Option β
  | [], _, σ, k => k σ
  | o :: r, i, σ, k => match o.guard with
    | none => match nilAsk T σ o with
      | some l => pr.both (pr.len l) (areg T ρ ops r (i + 1) (aput T σ o (.c (.at (.bool false))) []) k) (areg T ρ ops r (i + 1) (aput T σ o (.c (.at (.bool true))) []) k)
      | none => match vcall pr T ρ σ o with
        | some (some p) => areg T ρ ops r (i + 1) (aput T (rebS pr σ) o p []) k
        | some none => none
        | none => match vstep pr T ρ σ i o with
          | some σ' => areg T ρ ops r (i + 1) σ' k
          | none => none
    | some (j, want) => match gbool σ ((ops[j]?).bind (·.dst)) with
      | some (some b) => if b = want then (match astep pr T ρ σ i o with
          | some σ' => areg T ρ ops r (i + 1) σ' k
          | none => none) else areg T ρ ops r (i + 1) (aput T σ o (.c (.at undef)) []) k
      | some none => areg T ρ ops r (i + 1) (aput T σ o (.c (.at undef)) []) k
      | none => none

/-! a region that draws its order: each operation sees the blocks of those that must come before it -/
def effB : Op → Bool
  | .store _ _ _ => true
  | .call { callee := .builtin .append, .. } => true
  | .call { callee := .builtin .copy, .. } => true
  | .call { callee := .value (.func g), .. } => conIds.contains g || (curE g).isSome || (shrIds.contains g || (newE g).isSome)
  | _ => false
def maskOf (ms : List Nat) (o : Oper) : Nat := o.after.toList.foldl (fun s e => if Region.binds .any e then s ||| 2 ^ e.on ||| ms.getD e.on 0 else s) 0
def masks : List Oper → List Nat → List Nat
  | [], ms => ms
  | o :: l, ms => masks l (ms ++ [maskOf ms o])
def lookR (c m : Nat) (L : Nm → Option Bk) (n : Nm) : Option Bk := if n.1 = c ∧ Nat.testBit m n.2.1 = false then none else L n
def okRes (c i : Nat) (lit : Bool) : Option (PV × List (Nm × Bk)) → Option (PV × List (Nm × Bk))
  | some (p, nb) => if okNm c i nb && (!lit || litB nb) then some (p, nb) else none
  | none => none
/-! an append to a literal of no elements: it eats the literal, and no other operation looks at it -/
def litAt (t : Nat) : List Oper → Nat → Option Nat
  | [], _ => none
  | p :: l, j => if p.dst = some t then (match p.op with | .buildSlice _ 0 _ => some j | _ => none) else litAt t l (j + 1)
/-- another append is made to what this one gives -/
def chainB (ops : Array Oper) (o : Oper) : Bool := match o.dst with
  | some d => ops.toList.any fun p => match p.op with
    | .call { callee := .builtin .append, args := as, .. } => (match as.toList with | .tmp t :: _ => t == d | _ => false)
    | _ => false
  | none => false
def eatOf (ops : Array Oper) (o : Oper) : Option Nat :=
  match o.op with
  | .call { callee := .builtin .append, args := as, argTypes := ts } => match as.toList, o.guard with
    | [.tmp t, _], none => bif chainB ops o then none else litAt t ops.toList 0
    | _, _ => none
  | _ => none
def consL (ops : Array Oper) (d : Nat) : List Oper → Nat → Option Nat
  | [], _ => none
  | o :: l, j => if eatOf ops o = some d then some j else consL ops d l (j + 1)
def stopB (ops : Array Oper) (o : Oper) : Bool := effB o.op && (eatOf ops o).isNone
def cons (ops : Array Oper) (d : Nat) : Option Nat := consL ops d ops.toList 0
def lookE (ops : Array Oper) (c m : Nat) (L : Nm → Option Bk) (n : Nm) : Option Bk := if n.1 = c ∧ (Nat.testBit m n.2.1 = false ∨ (cons ops n.2.1).isSome = true) then none else L n
def delE (ops : Array Oper) (σ : St) (o : Oper) : St := match eatOf ops o with
  | some d => ⟨σ.tm, del σ.hp (σ.cnt, d, 0), σ.cnt⟩
  | none => σ
def anext (T : TT) (ops : Array Oper) (σ : St) (o : Oper) (p : PV) (nb : List (Nm × Bk)) : St := aput T (delE ops σ o) o p nb
def aeat (T : TT) (σ : St) (i m d : Nat) (o : Oper) : Option (PV × List (Nm × Bk)) :=
  match o.op with
  | .call { callee := .builtin .append, args := as, argTypes := ts } => match as.toList, ts.toList with
    | [s, x], [t, t'] => match T t with
      | some ⟨.slice e k by_, _, _⟩ => match T t', T e with
        | some ⟨kx, _, _⟩, some _ => if srcK kx = true ∧ k ≠ 0 ∧ by_ ≠ 0 then match norm T t' (σ.get x) with
          | .c (.rd s' e'' k'' l'') => if k'' = k then match pr.lend s' l'' with
            | some l => match norm T t (σ.get s) with
              | .c (.row i' e' k' off n') => match lookR σ.cnt m (look σ.hp) i' with
                | some b => if b.isRow ∧ k' = k ∧ k = b.k ∧ e = b.e ∧ b.full pr off n' ∧ pr.fits n' (pr.rlen l) by_ ∧ simpleB b then
                    if i' = (σ.cnt, d, 0) ∧ (σ.hp.all fun x => !decide (x.1.1 = σ.cnt ∧ x.1.2.1 = d) || decide (x.1 = i')) = true then
                      some (.c (.row (σ.cnt, i, 0) e k 0 (pr.addN n' (pr.rlen l))), [((σ.cnt, i, 0), ⟨true, false, e, k, pr.rapp b.el l⟩)])
                    else none
                  else none
                | none => none
              | _ => none
            | none => none
            else none
          | _ => none
          else none
        | _, _ => none
      | _ => none
    | _, _ => none
  | _ => none
def ares (T : TT) (ρ : Fns) (ops : Array Oper) (σ : St) (i m : Nat) (o : Oper) : Option (PV × List (Nm × Bk)) :=
  match eatOf ops o with
  | some d => aeat pr T σ i m d o
  | none => match o.op with
    | .call { callee := .value f, args := as, argTypes := ts } => bif mutOf (σ.get f) || (conOf (σ.get f) || curOf (σ.get f)) then none else okRes σ.cnt i false (acall pr T ρ (lookE ops σ.cnt m (look σ.hp)) (nmOf σ i) σ.get { callee := .value f, args := as, argTypes := ts })
    | _ => okRes σ.cnt i (!mkOp o.op) (apure pr T (lookE ops σ.cnt m (look σ.hp)) (nmOf σ i) σ.get o)
/-! late operations: the first operation that changes what is there may come before those that stand at L.1 .. L.2 - 1 -/
def forkL (ops : Array Oper) (f i : Nat) : List Oper := (ops.toList.drop f).take 1 ++ ((ops.toList.drop i).take (f - i) ++ ops.toList.drop (f + 1))
def forkA (T : TT) (ρ : Fns) (ops : Array Oper) (L : Nat × Nat) (i : Nat) (σ : St) (k : St → Option β) (x : Option β) : Option β := bif Nat.ble L.1 i then pr.both 0 x (areg pr T ρ ops (forkL ops L.2 i) i σ k) else x
def aregD (T : TT) (ρ : Fns) (ops : Array Oper) (M : List Nat) (L : Nat × Nat) : List Oper → Nat → St → (St → Option β) → Option β
  | [], _, σ, k => k σ
  | o :: r, i, σ, k => if stopB ops o then areg pr T ρ ops (o :: r) i σ k else forkA pr T ρ ops L i σ k (match o.guard with
    | none => match ares pr T ρ ops σ i (M.getD i 0) o with
      | some (p, nb) => aregD T ρ ops M L r (i + 1) (anext T ops σ o p nb) k
      | none => none
    | some (j, want) => match gbool σ ((ops[j]?).bind (·.dst)) with
      | some (some b) => if b = want then (match ares pr T ρ ops σ i (M.getD i 0) o with
          | some (p, nb) => aregD T ρ ops M L r (i + 1) (anext T ops σ o p nb) k
          | none => none) else aregD T ρ ops M L r (i + 1) (anext T ops σ o (.c (.at undef)) []) k
      | some none => aregD T ρ ops M L r (i + 1) (anext T ops σ o (.c (.at undef)) []) k
      | none => none)
/-- the operations before the first one that changes what is there -/
def front (ops : Array Oper) : List Oper → Nat
  | [] => 0
  | o :: l => if stopB ops o = true then 0 else front ops l + 1
/-- an operation that only copies out of temporaries -/
def copyB (o : Oper) : Bool := (match o.op with
  | .move (.tmp _) => true
  | .extract (.tmp _) _ => true
  | _ => false) && o.guard.isNone
/-- an operation that looks at temporaries alone -/
def tOp (o : Oper) : Bool := (match o.op with
  | .move (.tmp _) => true
  | .extract (.tmp _) _ => true
  | .slice _ (.tmp _) _ _ none => true
  | _ => false) && o.guard.isNone
def depsL (ops : Array Oper) (o : Oper) : Array Bool := (Array.range ops.size).map fun j => o.after.any fun e => Region.binds .any e && e.on == j
/-- early operations: they may be taken as soon as what they look at is there -/
def earlyB (ops : Array Oper) : Nat → Nat → Bool
  | 0, _ => false
  | n + 1, q => match ops[q]? with
    | some o => match tOp o with
      | true => (match Region.noSelect ops && Region.free .any ops (depsL ops o) q with
        | true => o.after.all (fun e => match Region.binds .any e with
          | true => earlyB ops n e.on
          | false => true)
        | false => false)
      | false => false
    | none => false
/-- regions with three operations or more that change what is there -/
def stopN (ops : Array Oper) : List Oper → Nat → Nat
  | [], _ => 0
  | o :: l, i => bif stopB ops o then 2 ^ i + stopN ops l (i + 1) else stopN ops l (i + 1)
def many2 (a : Nat) : Bool := bif Nat.beq a 0 then false else !Nat.beq (Nat.land a (Nat.pred a)) 0
def many3 (s : Nat) : Bool := bif Nat.beq s 0 then false else many2 (Nat.land s (Nat.pred s))
def manyB (ops : Array Oper) : Bool := many3 (stopN ops ops.toList 0)
def erl (ops : Array Oper) (q : Nat) : Bool := bif manyB ops then earlyB ops 4 q else false
def forkF (ops : Array Oper) (m : Nat) (b : Bool) (j : Nat) : Bool := match Nat.testBit m j with
  | true => false
  | false => match (match ops[j]? with | some o => copyB o | none => true) with
    | true => false
    | false => match b with
      | true => !earlyB ops 4 j
      | false => true
def forkP1 (ops : Array Oper) (m f : Nat) : Nat × Nat := match Nat.blt f ops.size with
  | true => (((List.range f).find? (forkF ops m (manyB ops))).getD f, f)
  | false => (f, f)
def forkP2 (ops : Array Oper) (M : List Nat) (f : Nat) : Nat × Nat := forkP1 ops (M.getD f 0) f
def forkP (ops : Array Oper) (M : List Nat) : Nat × Nat := forkP2 ops M (front ops ops.toList)
/-! a region may be written in another order: what need not come behind an operation that changes what is there comes first -/
def posL : List Nat → Nat → Nat → Nat
  | [], _, k => k
  | x :: l, i, k => if x = i then k else posL l i (k + 1)
def reO (p : List Nat) (o : Oper) : Oper := { o with after := o.after.map fun e => { e with on := posL p e.on 0 } }
def sortP (ops : Array Oper) (p : List Nat) : Array Oper := match ops.toList with
  | [] => #[]
  | o0 :: _ => (p.map fun i => reO p (ops.toList.getD i o0)).toArray
def permB (ops : Array Oper) (p : List Nat) : Bool :=
  decide (p.length = ops.size) && ((List.range ops.size).all (fun i => decide (posL p i 0 < ops.size) && decide (p.getD (posL p i 0) 0 = i) && decide (p.getD i 0 < ops.size) && decide (posL p (p.getD i 0) 0 = i)) &&
    ops.toList.all fun o => o.guard.isNone && o.after.toList.all fun e => decide (e.on < ops.size))
def backB (M : List Nat) (s i : Nat) : Bool := Nat.testBit s i || !Nat.beq (Nat.land (M.getD i 0) s) 0
def sort2 (ops : Array Oper) (p : List Nat) : Array Oper := bif permB ops p then sortP ops p else ops
def sortE (ops : Array Oper) (M : List Nat) (s : Nat) (E : List Nat) : List Nat := E ++ ((List.range ops.size).filter (fun i => !(backB M s i || E.contains i)) ++ (List.range ops.size).filter (fun i => backB M s i && !E.contains i))
def sort1 (ops : Array Oper) (M : List Nat) (f s : Nat) : Array Oper := match many3 s with
  | true => sort2 ops (sortE ops M s ((List.range ops.size).filter (earlyB ops 4)))
  | false => match (List.range ops.size).all (fun i => Nat.blt i f || backB M s i) with
    | true => ops
    | false => sort2 ops ((List.range ops.size).filter (fun i => !backB M s i) ++ (List.range ops.size).filter (backB M s))
/-- what the first operation that changes something needs comes before what it does not need -/
def frontP (m f n : Nat) : List Nat := (List.range f).filter (fun i => Nat.testBit m i) ++ ((List.range f).filter (fun i => !Nat.testBit m i) ++ (List.range (n - f)).map (f + ·))
def sortF2 (ops : Array Oper) (p : List Nat) : Array Oper := bif p == List.range ops.size then ops else sort2 ops p
def sortF1 (ops : Array Oper) (f : Nat) : Array Oper := bif Nat.blt f ops.size then sortF2 ops (frontP ((masks ops.toList []).getD f 0) f ops.size) else ops
def sortF (ops : Array Oper) : Array Oper := sortF1 ops (front ops ops.toList)
def sortG (ops : Array Oper) : Array Oper := sort1 ops (masks ops.toList []) (front ops ops.toList) (stopN ops ops.toList 0)
def sortR (ops : Array Oper) : Array Oper := sortF (sortG ops)
def adraw2 (T : TT) (ρ : Fns) (ops : Array Oper) (M : List Nat) (σ : St) (k : St → Option β) : Option β := aregD pr T ρ ops M (forkP ops M) ops.toList 0 σ k
def adraw1 (T : TT) (ρ : Fns) (ops : Array Oper) (σ : St) (k : St → Option β) : Option β := adraw2 pr T ρ ops (masks ops.toList []) σ k
/-! regions with calls that are given a box: all orders are tried, but that an operation that looks at temporaries alone is taken at once -/
def fldB (T : TT) (t f : Nat) : Bool := match T t with
  | some ⟨.struct fs, _, _⟩ => (match fs[f]? with
    | some y => !Nat.beq y.2.1 0
    | none => false)
  | _ => false
def tOpF (T : TT) (o : Oper) : Bool := tOp o || ((match o.op with
  | .fieldAddr t (.tmp _) f => fldB T t f
  | _ => false) && o.guard.isNone)
def frX (T : TT) (ops : Array Oper) (i : Nat) : Bool := match ops[i]? with
  | some o => tOpF T o && (Region.noSelect ops && Region.free .any ops (depsL ops o) i)
  | none => false
def genB (ops : Array Oper) : Bool := ops.toList.any fun o => match o.op with
  | .call { callee := .value (.func g), .. } => (curE g).isSome || (shrIds.contains g || (newE g).isSome)
  | _ => false
def readyB (ops : Array Oper) (done : List Nat) : List Nat := (List.range ops.size).filter fun i => !done.contains i && match ops[i]? with
  | some o => o.after.all fun e => !Region.binds .any e || done.contains e.on
  | none => false
def forkAll : List (Option β) → Option β
  | [] => none
  | [x] => x
  | x :: y :: l => pr.both 0 x (forkAll (y :: l))
def agen (T : TT) (ρ : Fns) (ops : Array Oper) : Nat → List Nat → St → (St → Option β) → Option β
  | 0, done, σ, k => match readyB ops done with
    | [] => k σ
    | _ => none
  | n + 1, done, σ, k => match readyB ops done with
    | [] => none
    | i :: r => match (i :: r).find? (frX T ops) with
      | some j => (match ops[j]? with
        | some o => (match o.guard with
          | none => (match vstep pr T ρ σ j o with
            | some σ' => agen T ρ ops n (j :: done) σ' k
            | none => none)
          | some _ => none)
        | none => none)
      | none => forkAll pr ((i :: r).map fun j => match ops[j]? with
        | some o => (match o.guard with
          | none => (match vstep pr T ρ σ j o with
            | some σ' => agen T ρ ops n (j :: done) σ' k
            | none => none)
          | some _ => none)
        | none => none)
def adraw (T : TT) (ρ : Fns) (ops : Array Oper) (σ : St) (k : St → Option β) : Option β := bif genB ops then agen pr T ρ ops ops.size [] σ k else adraw1 pr T ρ (sortR ops) σ k

inductive Ex where
  | normal
  | exit (id : Nat)
  | ret

/-! the state at a loop's head: what is live, its blocks numbered anew -/
structure CS where
  m : List (Nm × Nm)
  hp : List (Nm × Bk)
  nx : Nat
def CS.nm (s : CS) : Nm := (0, 0, s.nx)
def ren (m : List (Nm × Nm)) (i : Nm) : Option Nm :=
  match m with
  | [] => none
  | (j, b) :: r => if j = i then some b else ren r i
def canon0 (hp : List (Nm × Bk)) (s : CS) : Cell → CS × Cell
  | .row i e k off n => match ren s.m i with
    | some j => (s, .row j e k off n)
    | none => match look hp i with
      | some b => if b.isRow && simpleB b then (⟨(i, s.nm) :: s.m, s.hp ++ [(s.nm, { b with lit := false })], s.nx + 1⟩, .row s.nm e k off n) else (s, .dead)
      | none => (s, .dead)
  | .nil e k => (⟨s.m, s.hp ++ [(s.nm, ⟨true, false, e, k, []⟩)], s.nx + 1⟩, .row s.nm e k 0 0)
  | .at v => (s, .at v)
  | .rd b e k l => (s, .rd b e k l)
  | .bp b l off => (s, .bp b l off)
  | _ => (s, .dead)
def canonL0 (hp : List (Nm × Bk)) : CS → List Cell → CS × List Cell
  | s, [] => (s, [])
  | s, x :: l => match canon0 hp s x with
    | (s, y) => match canonL0 hp s l with
      | (s, ys) => (s, y :: ys)
def canon1 (hp : List (Nm × Bk)) (s : CS) : Cell → CS × Cell
  | .ptr i kk idx off => match ren s.m i with
    | some j => (s, .ptr j kk idx off)
    | none => match look hp i with
      | some b => if b.isRow then (if simpleB b then (⟨(i, s.nm) :: s.m, s.hp ++ [(s.nm, { b with lit := false })], s.nx + 1⟩, .ptr s.nm kk idx off) else (s, .dead)) else
        match b.el with
        | [es] => match canonL0 hp ⟨(i, s.nm) :: s.m, s.hp, s.nx + 1⟩ es with
          | (s', es') => (⟨s'.m, (s.nm, { b with el := [es'] }) :: s'.hp, s'.nx⟩, .ptr s.nm kk idx off)
        | _ => (s, .dead)
      | none => (s, .dead)
  | x => canon0 hp s x
def canonL1 (hp : List (Nm × Bk)) : CS → List Cell → CS × List Cell
  | s, [] => (s, [])
  | s, x :: l => match canon1 hp s x with
    | (s, y) => match canonL1 hp s l with
      | (s, ys) => (s, y :: ys)
def canonP (hp : List (Nm × Bk)) (s : CS) : PV → CS × PV
  | .c (.fn f caps) => match canonL1 hp s caps with | (s, cs) => (s, .c (.fn f cs))
  | .c x => match canon1 hp s x with | (s, y) => (s, .c y)
  | .agg l => match canonL1 hp s l with | (s, ys) => (s, .agg ys)
  | .tup _ => (s, .c .dead)
def canonT (σ : St) : CS → List Nat → List PV → CS × List PV
  | s, [], tm => (s, tm)
  | s, t :: r, tm => match canonP σ.hp s (σ.tm.getD t (.c .dead)) with | (s, p) => canonT σ s r (tm.set t p)
/-- the box that the function was given keeps its name -/
def seedH (hp : List (Nm × Bk)) : List (Nm × Bk) := match look hp curN with
  | some b => if b.isRow then [] else if simpleL b.el then [(curN, b)] else []
  | none => []
def canon (lv : List Nat) (σ : St) : St :=
  match canonT σ ⟨[(curN, curN)], seedH σ.hp, 0⟩ lv (List.replicate σ.tm.length (.c .dead)) with
  | (s, tm) => ⟨tm, s.hp, 1⟩

def aloop (F : St → (Ex → St → Option β) → Option β) (lv : List Nat) : Nat → St → (Ex → St → Option β) → Option β
  | 0, _, _ => none
  | m + 1, σ, k => F (canon lv σ) fun e σ' => match e with
    | .normal => aloop F lv m σ' k
    | e => k e σ'
def fuel : Nat := 2 ^ 62
/-- a loop is known by the first region in it -/
def first : Code → Nat
  | .region id _ _ => id
  | .seq a _ => first a
  | .block _ c => first c
  | .loop c => first c
  | .scope c => first c
  | _ => 0
/-- an exit: where the list is not empty, the state is put in order, with what its tail names -/
def cx : List Nat → St → St
  | [], σ => σ
  | _ :: l, σ => canon l σ
/-- how a loop is run: 'aloop' with its fuel -/
abbrev Looper (β : Type) := (St → (Ex → St → Option β) → Option β) → List Nat → St → (Ex → St → Option β) → Option β
def aexec (al : Looper β) (T : TT) (ρ : Fns) (lv : Nat → List Nat) : Code → St → (Ex → St → Option β) → Option β
  | .skip, σ, k => k .normal σ
  | .label _, σ, k => k .normal σ
  | .region _ ops d, σ, k => match d with
    | true => adraw pr T ρ ops σ fun σ' => k .normal ⟨σ'.tm, σ'.hp, σ'.cnt + 1⟩
    | false => areg pr T ρ ops ops.toList 0 σ fun σ' => k .normal ⟨σ'.tm, σ'.hp, σ'.cnt + 1⟩
  | .seq a b, σ, k => aexec al T ρ lv a σ fun e σ' => match e with
    | .normal => aexec al T ρ lv b σ' k
    | e => k e σ'
  | .cond c x y, σ, k => match σ.get c with
    | .c (.at (.bool b)) => if b = true then aexec al T ρ lv x σ k else aexec al T ρ lv y σ k
    | _ => none
  | .block id c, σ, k => aexec al T ρ lv c σ fun e σ' => match e with
    | .exit j => if j = id then k .normal σ' else k (.exit j) σ'
    | e => k e σ'
  | .loop c, σ, k => al (fun σ k => aexec al T ρ lv c σ k) (lv (first c)) σ k
  | .exit id, σ, k => k (.exit id) (cx (lv (id + 1048576)) σ)
  | .ret, σ, k => k .ret σ
  | _, _, _ => none
end

section
variable (pr : Prims)
/-! functions -/
def thawA : Arg → PV
  | .v d => .c (thawD d true)
  | .a l => .agg (l.map (thawD · true))
def initSt (fe : FE) (xs : List Arg) : St := ⟨xs.map thawA ++ List.replicate (fe.fn.ntmps - xs.length) (.c (.at undef)), [], 1⟩
def resP (T : TT) (σ : St) (t : Nat) : ResultVar → Option PV
  | .tmp r => some (norm T t (σ.tm.getD r (.c .dead)))
  | .cell r u => match T u, σ.tm.getD r (.c .dead) with
    | some ti, .c (.ptr i kk idx off) => match look σ.hp i with
      | some b => match b.nth pr kk idx with
        | some es => if off + ti.size ≤ es.length then packC (isAgg ti) (((es.drop off).take ti.size).map outC) else none
        | none => none
      | none => none
    | _, _ => none
def result (T : TT) (fn : Func) (σ : St) : Option (List Arg) :=
  match mapO (fun (r, t) => resP pr T σ t r) (fn.results.toList.zip fn.resultTypes.toList) with
  | some ps => if fn.results.size = fn.resultTypes.size ∧ nodupB (ps.flatMap nameP) = true then mapO (ownP pr (look σ.hp)) ps else none
  | none => none
def evBody (al : Looper (List Arg)) (T : TT) (ρ : Fns) (fe : FE) (xs : List Arg) : Option (List Arg) :=
  aexec pr al T ρ fe.live fe.body (initSt fe xs) fun e σ => match e with
    | .normal => result pr T fe.fn σ
    | .ret => result pr T fe.fn σ
    | .exit _ => none
/-- what is to be read of a result -/
def resultV (T : TT) (fn : Func) (σ : St) : Option (List Arg) := match mapO (fun (r, t) => resP pr T σ t r) (fn.results.toList.zip fn.resultTypes.toList) with
  | some [p] => if fn.results.size = fn.resultTypes.size then (match frzP pr (look σ.hp) p with
    | some (.v (.sl e k l)) => some [.v (.sl e k l), .v (.sl e k l)]
    | _ => none) else none
  | _ => none
def evBodyV (al : Looper (List Arg)) (T : TT) (ρ : Fns) (fe : FE) (xs : List Arg) : Option (List Arg) :=
  aexec pr al T ρ fe.live fe.body (initSt fe xs) fun e σ => match e with
    | .normal => resultV pr T fe.fn σ
    | .ret => resultV pr T fe.fn σ
    | .exit _ => none
def shapeV : Option (List Arg) → Option (List Arg)
  | some (.v (.sl e k l) :: _) => some [.v (.sl e k l), .v (.sl e k l)]
  | _ => none
/-! functions that are given a box, that make one, or whose results may share memory -/
def initC (fe : FE) (e : Nat) (s : Bool) (ds : List DT) (xs : List Arg) : St := ⟨.c (.ptr curN ds.length 0 0) :: (xs.map (thawD2 s) ++ List.replicate (fe.fn.ntmps - (xs.length + 1)) (.c (.at undef))), [(curN, ⟨false, true, e, ds.length, [ds.map boxC]⟩)], 1⟩
/-- results that are to be read -/
def resultR (T : TT) (fn : Func) (σ : St) : Option (List Arg) := match mapO (fun (r, t) => resP pr T σ t r) (fn.results.toList.zip fn.resultTypes.toList) with
  | some ps => if fn.results.size = fn.resultTypes.size then mapO (frzP pr (look σ.hp)) ps else none
  | none => none
def resultC (T : TT) (fn : Func) (e n : Nat) (v : Bool) (σ : St) : Option (List Arg) := match look σ.hp curN with
  | some ⟨false, true, e', k', [es]⟩ => if e = e' ∧ es.length = n then match mapO boxD es with
    | some ds' => match v with
      | true => (resultR pr T fn ⟨σ.tm, del σ.hp curN, σ.cnt⟩).map fun ys => .v (.fn 0 []) :: .v (.ptr ds') :: ys
      | false => (result pr T fn ⟨σ.tm, del σ.hp curN, σ.cnt⟩).map fun ys => .v (.ptr ds') :: ys
    | none => none
    else none
  | _ => none
/-- a row whose elements are to be read -/
def resultB (T : TT) (fn : Func) (σ : St) : Option Arg := match (mapO (fun (r, t) => resP pr T σ t r) (fn.results.toList.zip fn.resultTypes.toList) : Option (List PV)) with
  | some [.c (.row i t k 0 n)] => if fn.results.size = fn.resultTypes.size then match look σ.hp i with
    | some ⟨true, false, e', k', el⟩ => if t = e' ∧ k = k' ∧ pr.full 0 n el = true then (pr.frz el 0 n).map fun l => .v (.sl t k l) else none
    | _ => none
    else none
  | _ => none
def resultCB (T : TT) (fn : Func) (e n : Nat) (σ : St) : Option (List Arg) := match look σ.hp curN with
  | some ⟨false, true, e', k', [es]⟩ => if e = e' ∧ es.length = n then match mapO boxD es with
    | some ds' => (resultB pr T fn ⟨σ.tm, del σ.hp curN, σ.cnt⟩).map fun y => [.v (.fn 3 []), .v (.ptr ds'), y]
    | none => none
    else none
  | _ => none
def evBodyCB (al : Looper (List Arg)) (T : TT) (ρ : Fns) (fe : FE) (e : Nat) (xs : List Arg) : Option (List Arg) := match xs with
  | .v (.ptr ds) :: xs => if ds.all boxK = true then aexec pr al T ρ fe.live fe.body (initC fe e true ds xs) fun x σ => match x with
      | .normal => resultCB pr T fe.fn e ds.length σ
      | .ret => resultCB pr T fe.fn e ds.length σ
      | .exit _ => none
    else none
  | _ => none
def evBodyC (al : Looper (List Arg)) (T : TT) (ρ : Fns) (fe : FE) (e : Nat) (v : Bool) (xs : List Arg) : Option (List Arg) := match xs with
  | .v (.ptr ds) :: xs => if ds.all boxK = true then aexec pr al T ρ fe.live fe.body (initC fe e v ds xs) fun x σ => match x with
      | .normal => resultC pr T fe.fn e ds.length v σ
      | .ret => resultC pr T fe.fn e ds.length v σ
      | .exit _ => none
    else none
  | _ => none
def evBodyS (al : Looper (List Arg)) (T : TT) (ρ : Fns) (fe : FE) (xs : List Arg) : Option (List Arg) :=
  aexec pr al T ρ fe.live fe.body (initSt fe xs) fun x σ => match x with
    | .normal => (resultR pr T fe.fn σ).map (.v (.fn 1 []) :: ·)
    | .ret => (resultR pr T fe.fn σ).map (.v (.fn 1 []) :: ·)
    | .exit _ => none
def resultN (T : TT) (fn : Func) (e : Nat) (σ : St) : Option (List Arg) := match (mapO (fun (r, t) => resP pr T σ t r) (fn.results.toList.zip fn.resultTypes.toList) : Option (List PV)) with
  | some [.c (.ptr n k 0 0)] => if fn.results.size = fn.resultTypes.size then match look σ.hp n with
    | some ⟨false, true, e', k', [es]⟩ => if e = e' then (mapO boxD es).map fun ds => [.v (.fn 2 []), .v (.ptr ds)] else none
    | _ => none
    else none
  | _ => none
def evBodyN (al : Looper (List Arg)) (T : TT) (ρ : Fns) (fe : FE) (e : Nat) (xs : List Arg) : Option (List Arg) :=
  aexec pr al T ρ fe.live fe.body (initSt fe xs) fun x σ => match x with
    | .normal => resultN pr T fe.fn e σ
    | .ret => resultN pr T fe.fn e σ
    | .exit _ => none
def spcB (g : Nat) : Bool := viewIds.isEmpty && ((curE g).isSome || (shrIds.contains g || (newE g).isSome))
def spcF (f : FuncId) : Option FuncId := if 2 ^ 40 ≤ f ∧ spcB (f - 2 ^ 40) = true then some (f - 2 ^ 40) else none
def shpN : Option (List Arg) → Option (List Arg)
  | some [.v (.fn 2 []), .v (.ptr ds)] => some [.v (.fn 2 []), .v (.ptr ds)]
  | _ => none
def shpC : Option (List Arg) → Option (List Arg)
  | some (.v (.ptr ds) :: rs) => some (.v (.ptr ds) :: rs)
  | _ => none
def shpW : Option (List Arg) → Option (List Arg)
  | some (.v (.fn 0 []) :: .v (.ptr ds) :: rs) => some (.v (.fn 0 []) :: .v (.ptr ds) :: rs)
  | _ => none
def shpB : Option (List Arg) → Option (List Arg)
  | some [.v (.fn 3 []), .v (.ptr ds), .v (.sl t k l)] => some [.v (.fn 3 []), .v (.ptr ds), .v (.sl t k l)]
  | _ => none
def shpS : Option (List Arg) → Option (List Arg)
  | some (.v (.fn 1 []) :: rs) => some (.v (.fn 1 []) :: rs)
  | _ => none
def evSpc (al : Looper (List Arg)) (T : TT) (ρ : Fns) (g : Nat) (fe : FE) (xs : List Arg) : Option (List Arg) := match newE g with
  | some e => shpN (evBodyN pr al T ρ fe e xs)
  | none => match curE g with
    | some e => (match borIds.contains g with
      | true => shpB (evBodyCB pr al T ρ fe e xs)
      | false => (match shrIds.contains g with
        | true => shpW (evBodyC pr al T ρ fe e true xs)
        | false => shpC (evBodyC pr al T ρ fe e false xs)))
    | none => shpS (evBodyS pr al T ρ fe xs)
def viewF (f : FuncId) : Option FuncId := if 2 ^ 40 ≤ f ∧ viewIds.contains (f - 2 ^ 40) = true then some (f - 2 ^ 40) else none
def ev (G : FuncId → Option FE) (X : Fns) (T : TT) : Nat → Fns
  | 0, f, xs => X f xs
  | n + 1, f, xs => match G f with
    | some fe => evBody pr (fun F lv => aloop F lv fuel) T (ev G X T n) fe xs
    | none => match viewF f with
      | some g => (match G g with
        | some fe => shapeV (evBodyV pr (fun F lv => aloop F lv fuel) T (ev G X T n) fe xs)
        | none => X f xs)
      | none => match spcF f with
        | some g => (match G g with
          | some fe => evSpc pr (fun F lv => aloop F lv fuel) T (ev G X T n) g fe xs
          | none => X f xs)
        | none => X f xs

end

theorem cFk {pb : {β : Type} → Nat → Option β → Option β → Option β} (h : @pb = @Prims.both prims) {γ : Type} {a b r : Option γ} (ha : a = r) (hb : b = r) : pb 0 a b = r := by
  have h1 : @pb γ 0 a b = @Prims.both prims γ 0 a b := by rw [h]
  rw [h1]
  show bothO 0 a b = r
  exact bothO_eq ha fun _ => hb
end Go.Proofs.YtifkepnfaggkiaaDoor
