import Derived.Test.YtflhdodikmmdcaaGreatEngMut
namespace Go.Proofs.YtflhdodikmmdcaaGreat
open Go.RowKit
set_option linter.unusedVariables false
set_option linter.unusedSimpArgs false
set_option linter.unusedSectionVars false
theorem zla {T:TT} {E E':Env} {w0:Bs} {w w':World} {σ:St} {a:Act} (R:Rel E w0 σ a w) (G:Grow E E' w w') (hW:WfE E' w') {p:PV} {v:Value} (hv:CvP E' w' p v) {nb:List (Nm×Bk)} (hb:∀ x ∈ nb,BkOk E' w' x.1 x.2) (o:Oper):Rel E' w0 (aput T σ o p nb) (a.put o.dst v) w':=by
 refine zjr hW R.dfr R.siz (fun t q hq=>(R.tmp t q hq).grow R.wf G) (fun j b hj=>?_) (R.kp.trans G.ext) (zjm G.B G.φ R.bs) hv
 rcases zk6 hj with hj|hj
 ·exact hb _ hj
 ·exact (R.blk j b hj).grow R.wf G
theorem zst {i:Nm} {b:Bk}:∀ (ns:List Nm) (hp:List (Nm×Bk)),look (dels hp ns) i=some b→i ∉ ns∧look hp i=some b
 | [],hp,h=>⟨by simp,h⟩
 | n::l,hp,h=>by
  obtain ⟨h1,h2⟩:=zst l (del hp n) h
  obtain ⟨h3,h4⟩:=zcg h2
  exact ⟨by simp [h1,h3],h4⟩
def gone (E:Env) (ns:List Nm):Env:={ φ:=E.φ,B:=E.B,ω:=fun b=>match E.ω b with|some (m,x)=>if m ∈ ns then none else some (m,x)|none=>none }
theorem zno {E:Env} {ns:List Nm} {b:Nat} {y:Nm×Option (Nat×Nat)} (h:(gone E ns).ω b=some y):E.ω b=some y∧y.1 ∉ ns:=by
 have h':(match E.ω b with|some (m,x)=>if m ∈ ns then none else some (m,x)|none=>none)=some y:=h
 split at h'
 ·rename_i m x he
  split at h'
  ·cases h'
  ·rename_i hm
   injection h' with h'
   subst h'
   exact ⟨he,hm⟩
 ·cases h'
theorem znm {E:Env} {ns:List Nm} {b:Nat} {m:Nm} {x:Option (Nat×Nat)} (h:E.ω b=some (m,x)) (hm:m ∉ ns):(gone E ns).ω b=some (m,x):=by
 show (match E.ω b with|some (m,x)=>if m ∈ ns then none else some (m,x)|none=>none)=some (m,x)
 rw [h]
 exact if_neg hm
theorem znn {E:Env} {ns:List Nm} {b:Nat} {m:Nm} {x:Option (Nat×Nat)} (h:E.ω b=some (m,x)) (hm:m ∈ ns):(gone E ns).ω b=none:=by
 show (match E.ω b with|some (m,x)=>if m ∈ ns then none else some (m,x)|none=>none)=none
 rw [h]
 exact if_pos hm
theorem zoS {x:Nm} {l:List Nm} (h:zjJ (x::l)=true):x ∉ l∧zjJ l=true:=by
 simp only [zjJ,yM,ybd] at h
 refine ⟨fun hm=>?_,h.2⟩
 have:=ya6.2 hm
 rw [h.1] at this
 cases this
theorem ztW {E:Env} {w w':World} {ns:List Nm} (hSh:Sh E (gone E ns) w w') {S:Nat→Prop} (O:∀ b,b < w.heap.size→¬ S b→w'.heap[b]?=w.heap[b]?) (hS:∀ b m x,E.ω b=some (m,x)→m ∉ ns→¬ S b) (hW:WfE E w) {m:Nm} {b:Bk} (hm:m ∉ ns) (hB:BkOk E w m b) (hc:zl8 za b=true):BkOk (gone E ns) w' m b:=by
 rcases hB with ⟨h1,h2⟩|⟨g0,cur,fz,h1,h2,h3,h4,h5,h6⟩
 ·exact .inl ⟨h1,h2⟩
 ·refine .inr ⟨g0,cur,fz,h1,znm h2 hm,(O g0.1 (yn.1 h3).1 (hS g0.1 m _ h2 hm)).trans h3,h4,h5,fun x es hx=>?_⟩
  obtain ⟨hk,hj⟩:=h6 x es hx
  refine ⟨hk,fun j p hp=>?_⟩
  obtain ⟨u,hu,hC⟩:=hj j p hp
  refine ⟨u,hu,?_⟩
  cases p with
  | own e k l=>exact Ow.mono hC (fun b hb=>znm hb hm) (fun b hb hb'=>O b hb (hS b m _ hb' hm))
  | dead=>exact trivial
  | _ =>
   have hcc:=(zl9 hc hx hp).resolve_right (by simp [zkg])
   exact CvC.sh hSh hcc hC
theorem zwt {E:Env} {w w':World} {ns:List Nm} (hW:WfE E w) (hs:w.heap.size≤w'.heap.size):WfE (gone E ns) w':=⟨fun b x hb=>yW (hW.lt b x (zno hb).1) hs,fun b x hb=>hW.nb b x (zno hb).1,fun b hb=>yW (hW.bl b hb) hs⟩
theorem zxe {E:Env} {w:World} {hp:List (Nm×Bk)} (hW:WfE E w) (hB:∀ n b,look hp n=some b→BkOk E w n b) (hH:zjA za hp=true) {i:Nm} {ps:List PV} {xs:List Arg} {ns:List Nm} (h:conR za hp i ps=some (xs,ns)) {vs:List Value} (hl:vs.length=ps.length) (hc:∀ (j:Nat) p v,ps[j]?=some p→vs[j]?=some v→CvP E w p v) :
  i ∉ ns∧zyl w (fun b=>∃ m x,E.ω b=some (m,x)∧m ∈ ns) (EIn (gone E (i::ns)) w) xs vs:=by
 unfold conR at h
 split at h
 ·rename_i f caps
  split at h
  ·rename_i hcalm
   rw [yp] at h
   obtain ⟨d,hd,he⟩:=h
   simp only [yP] at he
   obtain ⟨rfl,rfl⟩:=he
   match vs,hl with
   | [v],_ =>
    refine ⟨by simp,?_⟩
    have hSh:Sh E (gone E [i]) w w:=⟨fun _=>rfl,fun _=>yaF,yz _,fun _ _ _=>rfl,fun _ g cur e fz _ hh=>⟨cur,e,fz,hh,rfl⟩⟩
    have hC:CvC (gone E [i]) w (.fn f caps) v:=CvC.sh hSh (x:=.fn f caps) hcalm (hc 0 _ v rfl rfl)
    have hr:=zqt (zwt hW (yz _)) (L:=look (del hp i)) (fun m b hb=>by
     obtain ⟨h1,h2⟩:=zcg hb
     exact ztW (S:=fun b=>∃ x,E.ω b=some (i,x)) hSh (fun _ _ _=>rfl) (fun b m x hm hn ⟨y,hy⟩=>by rw [hm] at hy;injection hy with hy;injection hy with hy;exact hn (by simp [hy])) hW (by simpa using h1) (hB m b h2) (zh6 hH h2)) hC hd
    unfold frz at hd
    simp only [yp] at hd
    obtain ⟨cs,_,rfl⟩:=hd
    exact hr
  ·cases h
 ·rename_i u j e k off n
  split at h
  ·rename_i b hb
   split at h
   ·rename_i es hlit hel
    split at h
    ·rename_i hcond
     obtain ⟨rfl,rfl,rfl,hno,hnd⟩:=hcond
     rw [yp] at h
     obtain ⟨ds,hds,he⟩:=h
     simp only [yP] at he
     obtain ⟨rfl,rfl⟩:=he
     obtain ⟨hi1,hnd1⟩:=zoS hnd
     obtain ⟨hj1,hnd2⟩:=zoS hnd1
     have hij:i≠j:=fun h=>hi1 (by simp [h])
     have hin:i ∉ es.flatMap zdf:=fun h=>hi1 (by simp only [yaA];exact .inr h)
     refine ⟨hin,?_⟩
     match vs,hl with
     | [v1,v2],_ =>
      have h1:v1=u:=hc 0 _ v1 rfl rfl
      have h2:CvL E w (.row j e b.k 0 1) v2:=hc 1 _ v2 rfl rfl
      refine ⟨h1,?_⟩
      obtain ⟨A,c,rfl,hn,hcm,h3⟩:=h2
      rcases hB j b hb with ⟨_,_,hnil⟩|⟨g,cur,fz,hφ,hω,hh,hfz,hrw,hcl⟩
      ·rw [hel] at hnil;cases hnil
      ·have hA:A=some ⟨g.1,g.2+0*b.k,none⟩:=by
        rcases h3 with ⟨_,_,hn0,_⟩|⟨g',hφ',hA,_⟩
        ·cases hn0
        ·rw [hφ] at hφ';injection hφ' with hφ';injection hφ' with hφ';subst hφ';exact (hA ycn).1
       subst hA
       obtain ⟨hke,hcj⟩:=hcl 0 es (by rw [hel];rfl)
       obtain ⟨hlen,hj⟩:=zV hds
       have hjn:j ∉ i::es.flatMap zdf:=by
        simp only [yaA,not_or]
        exact ⟨fun h=>hij h.symm,hj1⟩
       refine ⟨g.1,g.2+0*b.k,c,rfl,hn,⟨(yn.1 hh).1,.inl (by rw [znm hω hjn];simp)⟩,⟨cur,b.e,by rw [hh];exact yZ (fun z=>some (Obj.cells cur b.e z)) (show fz=(0,0) from hfz.1)⟩,fun b'=>match E.ω b' with|some (m,_)=>(posN m es).map (fun q=>(0,q))|none=>none,fun x ds' hx=>?_⟩
       cases x with
       | succ x=>simp at hx
       | zero =>
        simp only [yD,yd] at hx
        subst hx
        refine ⟨by rw [hlen,hke],fun q d hd=>?_⟩
        have hql:q < es.length:=by rw [← hlen];exact (yc.1 hd).1
        have hp:es[q]?=some es[q]:=yb hql
        obtain ⟨u',hu',hC⟩:=hcj q _ hp
        obtain ⟨d',hd',hf⟩:=hj q _ hp
        rw [hd'] at hd
        injection hd with hd
        subst hd
        refine ⟨u',?_,?_⟩
        ·rw [zT hh,← hu']
         congr 1
         omega
        ·have hne:∀ e k l,es[q]≠.own e k l:=fun e k l h=>by
          have:=yR.1 hno es[q] (yaa hql)
          rw [h] at this
          simp [zkg] at this
         refine zkL hB (hC.toC hne) hf (fun m hm b' y hb'=>?_)
         have hmem:m ∈ es.flatMap zdf:=List.mem_flatMap.2 ⟨es[q],yaa hql,by rw [hm];simp⟩
         refine ⟨⟨m,y,hb',hmem⟩,?_⟩
         dsimp only
         rw [hb']
         show (posN m es).map (fun q=>(0,q))=_
         rw [zlU es q es[q] m hnd2 hp hm]
         rfl
    ·cases h
   ·cases h
  ·cases h
 ·cases h
def zkX (E:Env) (b:Nat):Env:={ φ:=E.φ,B:=E.B,ω:=fun x=>if x=b then none else E.ω x }
theorem znW {E:Env} {b x:Nat} {y:Nm×Option (Nat×Nat)} (h:(zkX E b).ω x=some y):x≠b∧E.ω x=some y:=by
 unfold zkX at h
 dsimp only at h
 split at h
 ·cases h
 ·rename_i hx;exact ⟨hx,h⟩
theorem zyh {E:Env} {w:World} (hW:WfE E w) (b:Nat):WfE (zkX E b) w :=
 ⟨fun x y h=>hW.lt x y (znW h).2,fun x y h=>hW.nb x y (znW h).2,hW.bl⟩
theorem zvl {E:Env} {w:World} {b:Nat} {n:Nm} (hb:E.ω b=some (n,none)):Turn E (zkX E b) w w (fun _=>False) (fun m=>m=n):=by
 refine ⟨fun _ _ h=>h,fun x m y hx hm=>?_,fun x m c hx=>?_,fun _=>yaF,yz _,fun _ _ _=>rfl,fun _ h=>h.elim,fun _ h=>h.elim⟩
 ·show (if x=b then none else E.ω x)=_
  rw [if_neg (fun h=>by subst h;rw [hb] at hx;injection hx with hx;injection hx with h1 h2;exact hm h1.symm)]
  exact hx
 ·refine ⟨m,c,?_⟩
  show (if x=b then none else E.ω x)=_
  rw [if_neg (fun h=>by subst h;rw [hb] at hx;injection hx with hx;injection hx with h1 h2;cases h2)]
  exact hx
theorem zrl {E:Env} {w:World} (hW:WfE E w) {b:Nat} {n:Nm} (hb:E.ω b=some (n,none)) {x:Nat} (h:EIn (zkX E b) w x):x < w.heap.size∧x≠b:=by
 refine ⟨h.1,fun hx=>?_⟩
 subst hx
 rcases h.2 with h2|h2
 ·exact h2 (by simp [zkX])
 ·exact hW.nb x _ hb (tv_u h2)
theorem zrO {E:Env} {w:World} (hW:WfE E w) {L:Nm→Option Bk} (hL:∀ i b,L i=some b→BkOk E w i b) {p:PV} {v:Value} {a:Arg} (h:CvP E w p v) (hf:frzP za L p=some a):ArgRd (EIn E w) w a v:=by
 unfold frzP at hf
 split at hf
 ·rename_i x
  cases hd:frz za L x with
  | none=>simp [hd] at hf
  | some d=>simp only [hd,yk,yd] at hf;subst hf;exact zqt hW hL h hd
 ·rename_i l
  cases hd:mapO (frz za L) l with
  | none=>simp [hd] at hf
  | some ds =>
   simp only [hd,yk,yd] at hf
   subst hf
   obtain ⟨cs,rfl,hl,hj⟩:=h
   obtain ⟨hlen,hj2⟩:=zV hd
   refine ⟨cs,rfl,by omega,fun j d u hd' hu=>?_⟩
   have hjl:j < l.length:=by rw [← hlen];exact (yc.1 hd').1
   have hp:l[j]?=some l[j]:=yb hjl
   obtain ⟨d2,hd2,hf2⟩:=hj2 j _ hp
   rw [hd2] at hd'
   injection hd' with hd'
   subst hd'
   exact zqt hW hL (hj j _ u hp hu) hf2
 ·cases hf
theorem zlm {R:Nat→Prop} {w:World}:∀ (xs:List Arg) (vs:List Value),xs.length=vs.length→(∀ (j:Nat) x v,xs[j]?=some x→vs[j]?=some v→ArgRd R w x v)→zbL R w xs vs
 | [],[],_,_=>trivial
 | [],_::_,h,_=>by simp at h
 | _::_,[],h,_=>by simp at h
 | x::xs,v::vs,h,hj=>⟨hj 0 x v rfl rfl,zlm xs vs (by simpa using h) fun j x v hx hv=>hj (j+1) x v (by simpa using hx) (by simpa using hv)⟩
theorem ArgRd.up {R R':Nat→Prop} {w:World} (h:∀ b,R b→R' b) {a:Arg} {v:Value} (ha:ArgRd R w a v):ArgRd R' w a v:=by
 cases a with
 | v d=>exact Rd.mono ha h (zI _ _)
 | a l =>
  obtain ⟨cs,hv,hl,hj⟩:=ha
  exact ⟨cs,hv,hl,fun j d u hd hu=>Rd.mono (hj j d u hd hu) h (zI _ _)⟩
theorem zwn {E:Env} {w:World} {i:Nm} {x j:Nat} {p:Cell} {u:Value} {d:DT} (h:CvB E w i x j p u) (hd:boxD p=some d):Rd E.T w u d:=by
 unfold boxD at hd
 split at hd
 ·injection hd with hd;subst hd;have:u=_:=h;subst this;exact Rd.at _
 ·injection hd with hd;subst hd
  refine Rd.mono h (fun b hb=>?_) (zI _ _)
  rcases hb with hb|⟨hb,_⟩
  ·exact hb
  ·cases hb
 ·cases hd
theorem zue {n:Nat} {el:List (List Cell)} (h:za.full 0 n el=true):n=el.length:=(yaN h).2
def TOf (E:Env) (w:World) (s:Bool) (b:Nat):Prop:=if s=true then E.T b else EIs E w b
theorem TOf.lt {E:Env} {w:World} (hW:WfE E w) {s:Bool} {b:Nat} (h:TOf E w s b):b < w.heap.size:=by
 unfold TOf at h
 split at h
 ·exact hW.bl b h.1
 ·exact h.1
theorem TOf.ne {E:Env} {w:World} (hW:WfE E w) {s:Bool} {b g:Nat} {i:Nm} (h:TOf E w s b) (hg:E.ω g=some (i,none)):b≠g:=by
 intro hb
 subst hb
 unfold TOf at h
 split at h
 ·exact hW.nb _ _ hg h.1
 ·rcases h.2 with h|h|⟨n,c,h⟩
  ·exact hW.nb _ _ hg h.1
  ·exact hW.nb _ _ hg h.1
  ·rw [hg] at h;injection h with h;injection h with _ h;cases h
theorem TOf.rs {E:Env} {w:World} {s:Bool} {b:Nat} (h:TOf E w s b):RS E s b:=by
 unfold TOf at h
 split at h
 ·exact .inl h
 ·rename_i hs
  rcases h.2 with h|h|h
  ·exact .inl h
  ·exact .inr ⟨by simpa using hs,.inl h⟩
  ·exact .inr ⟨by simpa using hs,.inr h⟩
theorem zto {E:Env} {w:World} (hW:WfE E w) {i:Nm} {el:List (List Cell)} {l:List (List DT)} (h:zsb za i el=some l):l.length=el.length∧∀ (x:Nat) es,el[x]?=some es→∃ ds,l[x]?=some ds∧ds.length=es.length∧∀ (j:Nat) p,es[j]?=some p→∃ d,ds[j]?=some d∧∀ u,CvB E w i x j p u→Rd (TOf E w (zml i)) w u d:=by
 unfold zsb at h
 cases hc:zml i with
 | true =>
  rw [hc] at h
  obtain ⟨hl,hj⟩:=zV (show mapO (mapO boxD) el=some l from h)
  refine ⟨hl,fun x es hx=>?_⟩
  obtain ⟨ds,h1,h2⟩:=hj x es hx
  obtain ⟨hl2,hj2⟩:=zV h2
  refine ⟨ds,h1,hl2,fun j p hp=>?_⟩
  obtain ⟨d,h3,h4⟩:=hj2 j p hp
  exact ⟨d,h3,fun u hC=>Rd.mono (zwn hC h4) (fun b hb=>by unfold TOf;rw [if_pos rfl];exact hb) (zI _ _)⟩
 | false =>
  rw [hc] at h
  have h':zgP el 0 el.length=some l:=h
  unfold zgP at h'
  rw [if_pos (by omega),yau,yan] at h'
  obtain ⟨hl,hj⟩:=zV h'
  refine ⟨hl,fun x es hx=>?_⟩
  obtain ⟨ds,h1,h2⟩:=hj x es hx
  obtain ⟨hl2,hj2⟩:=zV h2
  refine ⟨ds,h1,hl2,fun j p hp=>?_⟩
  obtain ⟨d,h3,h4⟩:=hj2 j p hp
  exact ⟨d,h3,fun u hC=>Rd.mono (zBJ hW hC h4) (fun b hb=>by unfold TOf;rw [if_neg (by simp)];exact hb) (zI _ _)⟩
theorem zus {E:Env} {w:World} {s:Bool} {i:Nm} {x j:Nat} {d:DT} {c:Cell} {u:Value} (hl:zdO s d=some c) (h:Rd (RS E s) w u d):CvB E w i x j c u:=by
 unfold zdO at hl
 split at hl
 ·split at hl
  ·injection hl with hl;subst hl;obtain ⟨n,h⟩:=h;cases n<;>exact h
  ·cases hl
 ·injection hl with hl;subst hl;exact h
 ·cases hl
theorem zw7 {P:Program} {T:TT} {F:Fns} {w0:Bs} (hF:zay P F w0) {E:Env} {σ:St} {a:Act} {w:World} (R:Rel E w0 σ a w) {o:Oper} {f:Operand} {as:Array Operand} {ts:Array TypeId} (ho:o.op=.call { callee:=.value f,args:=as,argTypes:=ts }) {g e:Nat} (hgf:σ.get f=.c (.fn g [])) (hlen:as.toList.length=ts.toList.length) (hre:rowE g=some e) {σ':St}
  (h:arow za T F σ o g e ((as.toList.zip ts.toList).map (fun (x,t)=>norm T t (σ.get x)):List PV)=some σ') :
  ∃ g args,(execOp a.eval o).run P w=.ok (.enter g args) w∧Calls P g args w (fun e w'=>∃ v,e=.returned v∧Rel E w0 σ' (a.put o.dst v) w')∧σ'.cnt=σ.cnt:=by
 have hg:=zbq R
 generalize hps0:((as.toList.zip ts.toList).map (fun (x,t)=>norm T t (σ.get x)):List PV)=ps0 at h
 unfold arow at h
 split at h
 rotate_left
 ·cases h
 rename_i i e0 k0 n ps
 split at h
 rotate_left
 ·cases h
 rename_i e' k' el hlk
 split at h
 rotate_left
 ·cases h
 rename_i hek
 simp only [yM] at hek
 have he0:=yas hek.1
 have he1:=yas hek.2.1
 have hk1:=yas hek.2.2
 subst he0;subst he1;subst hk1
 unfold zw5 at h
 cases hfl:za.full 0 n el with
 | false=>rw [hfl] at h;cases h
 | true =>
 rw [hfl] at h
 simp only [yg] at h
 have hn:=zue hfl
 split at h
 rotate_left
 ·cases h
 rename_i l xs hl hxs
 obtain ⟨hll,hlj⟩:=zto R.wf hl
 unfold zw6 at h
 split at h
 rotate_left
 ·cases h
 rename_i e2 k2 l' hρ
 split at h
 rotate_left
 ·cases h
 rename_i hek2
 simp only [yM] at hek2
 have he2:=yas hek2.1
 have hk2:=yas hek2.2
 subst he2;subst hk2
 split at h
 rotate_left
 ·cases h
 rename_i el' hel
 cases hf2:za.full 0 (za.len l) el' with
 | false=>rw [hf2] at h;cases h
 | true =>
 rw [hf2] at h
 simp only [yg] at h
 injection h with h
 obtain ⟨e1,k1,l1,rest,l2,hx1,hy1,hE,hrow,_⟩:zgO P w0 g (.v (.sl e2 k2 l)::xs) [.v (.sl e2 k2 l')]:=by
  rcases (hF _ _ _ hρ).2 g rfl with ⟨_,_,h2,_⟩|h2|⟨_,_,_,h2,_⟩|⟨_,_,_,_,_,h2,_⟩|⟨_,_,_,_,_,h2,_⟩|⟨_,h2,_⟩|⟨_,_,h2,_⟩|⟨_,_,_,_,_,_,_,h2,_⟩|⟨_,_,_,_,_,h2,_⟩<;>first|exact h2|(simp at h2;done)
 simp only [yab,Arg.v.injEq,DT.sl.injEq,yx] at hx1 hy1
 obtain ⟨⟨rfl,rfl,rfl⟩,rfl⟩:=hx1
 obtain ⟨_,_,rfl⟩:=hy1
 obtain ⟨_,hcall⟩:=hrow _ hre
 obtain ⟨vs,hvs⟩:∃ vs,vs=as.toList.map a.eval:=⟨_,rfl⟩
 have hpl:(PV.c (.row i e2 k2 0 n)::ps).length=as.toList.length:=by rw [← hps0,yN,ybb,hlen,ybC]
 have hcv:∀ (j:Nat) p v,(PV.c (.row i e2 k2 0 n)::ps)[j]?=some p→vs[j]?=some v→CvP E w p v:=by
  intro j p v hp hv
  rw [← hps0,yl,yp] at hp
  obtain ⟨⟨x,t⟩,hz,rfl⟩:=hp
  rw [yaU] at hz
  rw [hvs,yl,hz.1] at hv
  simp only [yk,yd] at hv
  subst hv
  exact zcG (hg x)
 have hvl:vs.length=ps.length+1:=by rw [hvs,yN,← hpl];rfl
 match vs,hvl,hvs,hcv with
 | v::vs,hvl,hvs,hcv =>
 have hv0:CvL E w (.row i e2 k2 0 n) v:=hcv 0 _ v rfl rfl
 have hB:=R.blk i _ hlk
 obtain ⟨ob,hφ,hω,hrow⟩:∃ ob,E.φ i=some ob∧(∀ x,AtB ob x→E.ω x=some (i,none))∧RowN (TOf E w (zml i)) w ob v e2 k2 l:=by
  obtain ⟨A,c,hv,h1,h2,h3⟩:=hv0
  rcases hB with ⟨hp,_,hnil⟩|⟨g0,cur,fz,hp,hω,hh,hfz,hr,hc⟩
  ·rcases h3 with ⟨_,rfl,h4,h5,_⟩|⟨g1,hp1,_⟩
   ·refine ⟨none,hp,fun x ⟨b,hb,_⟩=>(by cases hb),?_,?_⟩
    ·rw [hv,h4,h5]
    ·have:l.length=0:=by rw [hll];exact yZ List.length hnil
     exact yay.1 this
   ·rw [hp] at hp1;cases hp1
  ·rcases h3 with ⟨hp1,_⟩|⟨g1,hp1,_,h4⟩
   ·rw [hp] at hp1;cases hp1
   ·rw [hp] at hp1
    injection hp1 with hp1
    injection hp1 with hp1
    subst hp1
    obtain ⟨rfl,cur1,e1,fz1,hh1,hs1⟩:=h4 rfl
    rw [hh] at hh1
    injection hh1 with hh1
    injection hh1 with hc1 he1 hf1
    subst hc1
    refine ⟨some g0,hp,fun x ⟨b,hb,hx⟩=>(by injection hb with hb;subst hb;rw [hx];exact hω),c,cur,fz,?_,hh,hfz.1,by rw [hll];have h9:n=el.length:=hn;omega,h2,hs1,fun x ds hx=>?_⟩
    ·rw [hv,hll,hn]
    ·have hxl:x < el.length:=by rw [← hll];exact (yc.1 hx).1
     have he:el[x]?=some el[x]:=yb hxl
     obtain ⟨ds',hd1,hd2,hd3⟩:=hlj x _ he
     rw [hx] at hd1
     injection hd1 with hd1
     subst hd1
     obtain ⟨h5,h6⟩:=hc x _ he
     refine ⟨hd2.trans h5,fun j d hd=>?_⟩
     have hjl:j < el[x].length:=by rw [← hd2];exact (yc.1 hd).1
     have hp2:el[x][j]?=some el[x][j]:=yb hjl
     obtain ⟨d',hd4,hd5⟩:=hd3 j _ hp2
     rw [hd] at hd4
     injection hd4 with hd4
     subst hd4
     obtain ⟨u,hu,hC⟩:=h6 j _ hp2
     exact ⟨u,hu,hd5 u hC⟩
 have hTn:∀ x,TOf E w (zml i) x→x < w.heap.size∧¬ AtB ob x:=fun x hx=>⟨hx.lt R.wf,fun ha=>hx.ne R.wf (hω x ha) rfl⟩
 have hfar:∀ x,AtB ob x→w0.w.heap.size≤x∨w0.C x:=fun x hx=>R.far (R.wf.nb x _ (hω x hx))
 obtain ⟨hxl,hxj⟩:=zV hxs
 have hargs:zbL (fun x=>x < w.heap.size∧¬ AtB ob x) w xs vs:=zlm xs vs (by rw [hxl];have h9:=hvl;rw [yac] at h9;omega) fun j x v hx hv=>by
  have hjl:j < ps.length:=by rw [← hxl];exact (yc.1 hx).1
  have hp:ps[j]?=some ps[j]:=yb hjl
  obtain ⟨x2,hx2,hf2⟩:=hxj j _ hp
  rw [hx2] at hx
  injection hx with hx
  subst hx
  have hC0:=hcv (j+1) ps[j] v (by rw [yaO];exact hp) (by rw [yaO];exact hv)
  cases hob:ob with
  | none=>exact (zrO R.wf (fun m c hm=>R.blk m c (zcg hm).2) hC0 hf2).up fun x hx=>⟨hx.1,fun ⟨b,hb,_⟩=>by cases hb⟩
  | some b =>
   have hωb:E.ω b.1=some (i,none):=hω b.1 ⟨b,hob,rfl⟩
   have hWo:=zyh R.wf b.1
   have hTo:=zvl (w:=w) hωb
   have hC:=hC0.turn R.wf hTo
   exact (zrO hWo (fun m c hm=>by
    obtain ⟨h1,h2⟩:=zcg hm
    exact (R.blk m c h2).turn R.wf hTo h1 (fun _ h=>h.elim)) hC hf2).up fun x hx=>⟨(zrl R.wf hωb hx).1,fun ⟨b',hb',hx'⟩=>by injection hb' with hb';subst hb';exact (zrl R.wf hωb hx).2 hx'⟩
 have hcf:=zfr hg hgf
 obtain ⟨cs,hfv,hcl,_⟩:=hcf
 have hcs:cs=[]:=by simpa using hcl
 subst hcs
 refine ⟨g,(v::vs).toArray,?_,(hcall w ob v _ vs R.kp hfar hTn hrow hargs).mono ?_,by rw [← h];unfold aput;split<;>rfl⟩
 ·have e1:as.map a.eval=(v::vs).toArray:=by rw [hvs,← yaY]
  simp only [execOp,ho,resolve,hfv,Deferred.ofValue,invoke,Sem.run_bind,Sem.run_pure,Result.andThen_ok,ybr,e1,hE _ w]
  simp
 ·rintro e' w' ⟨rfl,hx,hrow'⟩
  have G:Turn E E w w' (AtB ob) (fun _=>False):=⟨fun _ _ h=>h,fun _ _ _ h _=>h,fun _ _ _ h=>⟨_,_,h⟩,fun _=>yaF,hx.size,fun x hx' hne=>hx.block x hx' hne,fun x hb=>⟨i,hω x hb⟩,fun x hb cur e fz hh=>hx.sz x cur e fz hh⟩
  have hW':WfE E w':=⟨fun b x hb=>yW (R.wf.lt b x hb) hx.size,R.wf.nb,fun b hb=>yW (R.wf.bl b hb) hx.size⟩
  have hkp:w0.Ext w':=by
   have hk0:=R.kp
   refine ⟨hx.os.trans hk0.os,hx.tape.trans hk0.tape,hx.output.trans hk0.output,yaj hk0.size hx.size,fun x hxl hxc=>?_,fun x cur e fz hh=>?_⟩
   ·exact (hx.block x (yW hxl hk0.size) (fun hxb=>(hfar x hxb).elim (fun h=>absurd hxl (ya0.2 h)) hxc)).trans (hk0.block x hxl hxc)
   ·obtain ⟨c1,h1,h2⟩:=hk0.sz x cur e fz hh
    obtain ⟨c2,h3,h4⟩:=hx.sz x c1 e fz h1
    exact ⟨c2,h3,h4.trans h2⟩
  have hel':mapO (mapO (zdO (zml i))) l'=some el':=hel
  obtain ⟨hl1,hl2⟩:=zV hel'
  have R1:Rel E w0 ⟨σ.tm,upd σ.hp i ⟨true,false,e2,k2,el'⟩,σ.cnt⟩ a w':=by
   refine ⟨hW',R.dfr,R.siz,fun t p hp=>(R.tmp t p hp).turn R.wf G,fun m c hm=>?_,hkp,R.bs⟩
   rcases zhx hm with ⟨rfl,rfl⟩|⟨hne,hlk2⟩
   ·cases hob:ob with
    | none =>
     subst hob
     obtain ⟨_,hnil⟩:=hrow'
     refine .inl ⟨hφ,rfl,?_⟩
     rw [hnil] at hl1
     exact yay.1 hl1
    | some b =>
     subst hob
     obtain ⟨c,cur,fz,hv',hh,hfz,h1,h2,h3,h4⟩:=hrow'
     refine .inr ⟨b,cur,fz,hφ,hω b.1 ⟨b,rfl,rfl⟩,hh,⟨hfz,fun h=>by cases h⟩,fun _=>⟨c,h3,h2,by show el'.length≤c;omega⟩,fun x es hx'=>?_⟩
     have hxl2:x < l'.length:=by rw [← hl1];exact (yc.1 hx').1
     have hd:l'[x]?=some l'[x]:=yb hxl2
     obtain ⟨es',he3,hm3⟩:=hl2 x _ hd
     have hx2:el'[x]?=some es:=hx'
     rw [hx2] at he3
     injection he3 with he3
     subst he3
     obtain ⟨h5,h6⟩:=h4 x _ hd
     obtain ⟨hl3,hl4⟩:=zV hm3
     refine ⟨hl3.trans h5,fun j p hp=>?_⟩
     have hjl:j < l'[x].length:=by rw [← hl3];exact (yc.1 hp).1
     have hdj:l'[x][j]?=some l'[x][j]:=yb hjl
     obtain ⟨p',hp',hq⟩:=hl4 j _ hdj
     rw [hp] at hp'
     injection hp' with hp'
     subst hp'
     obtain ⟨u,hu,hr⟩:=h6 j _ hdj
     exact ⟨u,hu,zus hq (Rd.mono hr (fun b hb=>TOf.rs hb) (zI _ _))⟩
   ·exact (R.blk m c hlk2).turn R.wf G (fun h=>h) (fun x hxb hx2=>by
     rw [hω x hxb] at hx2
     injection hx2 with hx2
     injection hx2 with hx2
     exact hne hx2.symm)
  refine ⟨_,rfl,?_⟩
  rw [← h]
  exact zla R1 (Grow.refl E w') hW' (p:=.tup []) ⟨[],rfl,rfl,fun j p u hp _=>by simp at hp⟩ (fun x hx=>by cases hx) o
theorem zwW {P:Program} {T:TT} {F:Fns} {w0:Bs} (hF:zay P F w0) {E:Env} {σ:St} {a:Act} {w:World} (R:Rel E w0 σ a w) {n:Nm} (hn:E.φ n=none) {o:Oper} {f:Operand} {as:Array Operand} {ts:Array TypeId} (ho:o.op=.call { callee:=.value f,args:=as,argTypes:=ts }) {σ':St}
  (h:acon za T F σ n o (σ.get f) as.toList ts.toList=some σ') :
  ∃ g args,(execOp a.eval o).run P w=.ok (.enter g args) w∧Calls P g args w (fun e w'=>∃ v E',e=.returned v∧Rel E' w0 σ' (a.put o.dst v) w'∧∀ m,E'.φ m≠none→E.φ m≠none∨m=n)∧σ'.cnt=σ.cnt:=by
 have hg:=zbq R
 unfold acon at h
 split at h
 ·rename_i g hgf
  split at h
  ·rename_i hlen
   split at h
   ·rename_i e hre
    obtain ⟨g',args,h1,h2,h3⟩:=zw7 hF R ho hgf hlen hre h
    refine ⟨g',args,h1,h2.mono fun e' w' hq=>?_,h3⟩
    obtain ⟨v,he',R'⟩:=hq
    exact ⟨v,E,he',R',fun m hm=>.inl hm⟩
   rename_i hre
   split at h
   ·rename_i i e0 k0 off0 m0 ps hps
    unfold zwV at h
    split at h
    ·rename_i d xs ns hd hr
     split at h
     ·rename_i e k l hρ
      split at h
      ·rename_i hcalm
       cases hch:zjA za σ.hp with
       | false=>rw [hch] at h;cases h
       | true =>
        rw [hch] at h
        simp only [yg] at h
        injection h with h
        obtain ⟨e1,k1,l1,rest,l2,hxs,hys,hE,_,hcall⟩:zgO P w0 g (.v d::xs) [.v (.sl e k l)]:=by rcases (hF _ _ _ hρ).2 g rfl with ⟨_,_,h2,_⟩|h2|⟨_,_,_,h2,_⟩|⟨_,_,_,_,_,h2,_⟩|⟨_,_,_,_,_,h2,_⟩|⟨_,h2,_⟩|⟨_,_,h2,_⟩|⟨_,_,_,_,_,_,_,h2,_⟩|⟨_,_,_,_,_,h2,_⟩<;>first|exact h2|(simp at h2;done)
        simp only [yab,Arg.v.injEq,DT.sl.injEq,yx] at hxs hys
        obtain ⟨rfl,rfl⟩:=hxs
        obtain ⟨rfl,rfl,rfl⟩:=hys
        obtain ⟨vs,hvs⟩:∃ vs,vs=as.toList.map a.eval:=⟨_,rfl⟩
        have hpl:(PV.c (.row i e0 k0 off0 m0)::ps).length=as.toList.length:=by rw [← hps,yN,ybb,hlen,ybC]
        have hcv:∀ (j:Nat) p v,(PV.c (.row i e0 k0 off0 m0)::ps)[j]?=some p→vs[j]?=some v→CvP E w p v:=by
         intro j p v hp hv
         rw [← hps,yl,yp] at hp
         obtain ⟨⟨x,t⟩,hz,rfl⟩:=hp
         rw [yaU] at hz
         rw [hvs,yl,hz.1] at hv
         simp only [yk,yd] at hv
         subst hv
         exact zcG (hg x)
        have hvl:vs.length=ps.length+1:=by rw [hvs,yN,← hpl];rfl
        match vs,hvl,hvs,hcv with
        | v::vs,hvl,hvs,hcv =>
        have hv0:CvC E w (.row i e0 k0 off0 m0) v:=hcv 0 _ v rfl rfl
        obtain ⟨hin,hrest⟩:=zxe R.wf R.blk hch hr (vs:=vs) (by simpa using hvl) (fun j p v hp hv=>hcv (j+1) p v (by simpa using hp) (by simpa using hv))
        have hown:=zkL R.blk hv0 hd (S:=fun b=>∃ x,E.ω b=some (i,x)) (fun m hm b y hb=>by
         simp only [zdf,yab,yx] at hm
         subst hm
         exact ⟨y,hb⟩)
        have hcf:=zfr hg hgf
        obtain ⟨cs,hfv,hcl,_⟩:=hcf
        have hcs:cs=[]:=by simpa using hcl
        subst hcs
        have hS0:∀ b m x,E.ω b=some (m,x)→m ∉ i::ns→¬ (∃ x,E.ω b=some (i,x)):=fun b m x hb hm ⟨y,hy⟩=>by
         rw [hb] at hy
         injection hy with hy
         injection hy with hy
         exact hm (by simp [hy])
        refine ⟨g,(v::vs).toArray,?_,(hcall hre w v vs (fun b=>∃ x,E.ω b=some (i,x)) (fun b=>∃ m x,E.ω b=some (m,x)∧m ∈ ns) (EIn (gone E (i::ns)) w) R.kp (fun b hb=>?_) (fun b hb=>?_) (fun b hb=>?_) hown hrest).mono ?_,by rw [← h,zsj]⟩
        ·have e1:as.map a.eval=(v::vs).toArray:=by rw [hvs,← yaY]
         simp only [execOp,ho,resolve,hfv,Deferred.ofValue,invoke,Sem.run_bind,Sem.run_pure,Result.andThen_ok,ybr,e1,hE _ w]
         simp
        ·rcases hb with ⟨x,hb⟩|⟨m,x,hb,_⟩|hb
         ·exact R.wf.lt b _ hb
         ·exact R.wf.lt b _ hb
         ·exact hb.1
        ·obtain ⟨x,hb⟩:=hb
         refine ⟨R.far (R.wf.nb b _ hb),fun ⟨m,y,hb',hm⟩=>?_⟩
         rw [hb] at hb'
         injection hb' with hb'
         injection hb' with hb'
         exact hin (by rw [hb'];exact hm)
        ·obtain ⟨_,hb⟩:=hb
         have key:∀ m x,E.ω b=some (m,x)→m ∈ i::ns→False:=fun m x hbm hm=>by
          rcases hb with hb|hb
          ·exact hb (znn hbm hm)
          ·exact R.wf.nb b _ hbm (tv_u (E:=E) hb)
         exact ⟨fun ⟨x,hx⟩=>key i x hx (by simp),fun ⟨m,x,hx,hm⟩=>key m x hx (by simp [hm])⟩
        ·rintro e' w' ⟨v',rfl,O,hO⟩
         have hSh:Sh E (gone E (i::ns)) w w':=⟨fun _=>rfl,fun _=>yaF,O.size,fun b hb hB=>O.block b hb (fun ⟨x,hx⟩=>R.wf.nb b _ hx hB),fun j g0 cur e fz _ hh=>by
           obtain ⟨cur',h1,h2⟩:=O.sizes g0.1 cur e fz hh
           exact ⟨cur',e,fz,h1,h2⟩⟩
         have hWf:WfE (gone E (i::ns)) w':=zwt R.wf O.size
         have R2:Rel (gone E (i::ns)) w0 ⟨σ.tm,dels (del σ.hp i) ns,σ.cnt⟩ a w':=⟨hWf,R.dfr,R.siz,fun t q hq=>CvP.sh hSh (yR.1 hcalm q (yy hq)) (R.tmp t q hq),fun m b hb=>by
           obtain ⟨h1,h2⟩:=zst ns _ hb
           obtain ⟨h3,h4⟩:=zcg h2
           exact ztW hSh O.block hS0 R.wf (by simp [h1,h3]) (R.blk m b h4) (zh6 hch h4),by
           have hk:=R.kp
           refine ⟨O.os.trans hk.os,O.tape.trans hk.tape,O.output.trans hk.output,yaj hk.size O.size,fun b hb hc=>?_,fun b cur e fz hb=>by
           obtain ⟨c1,h1,h2⟩:=hk.sz b cur e fz hb
           obtain ⟨c2,h3,h4⟩:=O.sizes b c1 e fz h1
           exact ⟨c2,h3,h4.trans h2⟩⟩
           have hB:=(R.bs.u b).2 ⟨hb,hc⟩
           exact (hSh.same b (R.wf.bl b hB) hB).trans (hk.block b hb hc),zjm (E:=E) (fun _=>yaF) (fun _ _ h=>h) R.bs⟩
         obtain ⟨E',G,hW',hBk,hCv,hφ',_⟩:=zpt hWf (m:=n) hn (fun b hb=>by
          rcases hb with ⟨x,hb⟩|⟨m,x,hb,hm⟩|⟨hb1,hb2⟩
          ·exact ⟨yW (R.wf.lt b _ hb) O.size,znn hb (by simp),R.wf.nb b _ hb⟩
          ·exact ⟨yW (R.wf.lt b _ hb) O.size,znn hb (by simp [hm]),R.wf.nb b _ hb⟩
          ·refine ⟨hb2,?_,fun hB=>absurd (R.wf.bl b hB) (ya0.2 hb1)⟩
           cases hx:(gone E (i::ns)).ω b with
           | none=>rfl
           | some y=>exact absurd (R.wf.lt b _ (zno hx).1) (ya0.2 hb1)) hO
         refine ⟨v',E',rfl,?_,fun m hm=>hφ' m hm⟩
         rw [← h]
         exact zla R2 G hW' (show CvP E' w' (.c (.row n _ _ 0 (za.len _))) v' from hCv) (fun x hx=>by
          simp only [yU] at hx
          subst hx
          exact hBk) o
      ·cases h
     ·cases h
    ·cases h
   ·cases h
  ·cases h
 ·cases h
end Go.Proofs.YtflhdodikmmdcaaGreat
namespace Go.Proofs.YtflhdodikmmdcaaGreat
open Go.RowKit
set_option linter.unusedVariables false
set_option linter.unusedSimpArgs false
set_option linter.unusedSectionVars false
theorem zzk {T:TT} {t:Nat} {p:PV} {n:Nm} (h:notP n p=true):notP n (norm T t p)=true:=by
 unfold norm
 split
 ·rfl
 ·split<;>rfl
 ·exact h
theorem zwY {P:Program} {T:TT} {F:Fns} {w0:Bs} (hF:zay P F w0) {E:Env} {σ:St} {a:Act} {w:World} (R:Rel E w0 σ a w) {i:Nat} (hn:∀ j,E.φ (σ.cnt,i,j)=none) {o:Oper} {f:Operand} {as:Array Operand} {ts:Array TypeId} (ho:o.op=.call { callee:=.value f,args:=as,argTypes:=ts }) {σ':St}
  (h:acur za T F σ i o (σ.get f) as.toList ts.toList=some σ') :
  ∃ g args,(execOp a.eval o).run P w=.ok (.enter g args) w∧Calls P g args w (fun e w'=>∃ v E',e=.returned v∧Rel E' w0 σ' (a.put o.dst v) w'∧(∀ m,E'.φ m≠none→E.φ m≠none∨(m.1=σ.cnt∧m.2.1=i))∧∀ n,(as.toList.all fun x=>notP n (σ.get x))=true→Kep E E' w w' n)∧σ'.cnt=σ.cnt:=nomatch (show none=some _ from h)
end Go.Proofs.YtflhdodikmmdcaaGreat
