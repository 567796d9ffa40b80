import Derived.Test.YtifkepnfaggkiaaGreatDoorEngMut
namespace Go.Proofs.YtifkepnfaggkiaaGreatDoor
open Go.RowKit
set_option linter.unusedVariables false
set_option linter.unusedSimpArgs false
set_option linter.unusedSectionVars false
theorem zg9 {T:TT} {E E':Env} {w0:Bs} {w w':World} {σ:St} {a:Act} (R:Rel E w0 σ a w) (G:Grow E E' w w') (hW:WfE E' w') {p:PV} {v:Value} (hv:CvP E' w' p v) {nb:List (Nm×Bk)} (hb:∀ x ∈ nb,BkOk E' w' x.1 x.2) (o:Oper):Rel E' w0 (aput T σ o p nb) (a.put o.dst v) w':=by
 refine zgy hW R.dfr R.siz (fun t q hq=>(R.tmp t q hq).grow R.wf G) (fun j b hj=>?_) (R.kp.trans G.ext) (zhE G.B G.φ R.bs) hv
 rcases ziT hj with hj|hj
 ·exact hb _ hj
 ·exact (R.blk j b hj).grow R.wf G
theorem zpl {i:Nm} {b:Bk}:∀ (ns:List Nm) (hp:List (Nm×Bk)),look (dels hp ns) i=some b→i ∉ ns∧look hp i=some b
 | [],hp,h=>⟨by simp,h⟩
 | n::l,hp,h=>by
  obtain ⟨h1,h2⟩:=zpl l (del hp n) h
  obtain ⟨h3,h4⟩:=zaV h2
  exact ⟨by simp [h1,h3],h4⟩
def gone (E:Env) (ns:List Nm):Env:={ φ:=E.φ,B:=E.B,ω:=fun b=>match E.ω b with|some (m,x)=>if m ∈ ns then none else some (m,x)|none=>none }
theorem zk6 {E:Env} {ns:List Nm} {b:Nat} {y:Nm×Option (Nat×Nat)} (h:(gone E ns).ω b=some y):E.ω b=some y∧y.1 ∉ ns:=by
 have h':(match E.ω b with|some (m,x)=>if m ∈ ns then none else some (m,x)|none=>none)=some y:=h
 split at h'
 ·rename_i m x he
  split at h'
  ·cases h'
  ·rename_i hm
   injection h' with h'
   subst h'
   exact ⟨he,hm⟩
 ·cases h'
theorem zjs {E:Env} {ns:List Nm} {b:Nat} {m:Nm} {x:Option (Nat×Nat)} (h:E.ω b=some (m,x)) (hm:m ∉ ns):(gone E ns).ω b=some (m,x):=by
 show (match E.ω b with|some (m,x)=>if m ∈ ns then none else some (m,x)|none=>none)=some (m,x)
 rw [h]
 exact if_neg hm
theorem zjt {E:Env} {ns:List Nm} {b:Nat} {m:Nm} {x:Option (Nat×Nat)} (h:E.ω b=some (m,x)) (hm:m ∈ ns):(gone E ns).ω b=none:=by
 show (match E.ω b with|some (m,x)=>if m ∈ ns then none else some (m,x)|none=>none)=none
 rw [h]
 exact if_pos hm
theorem zmw {x:Nm} {l:List Nm} (h:zh5 (x::l)=true):x ∉ l∧zh5 l=true:=by
 simp only [zh5,Bool.and_eq_true,Bool.not_eq_true'] at h
 refine ⟨fun hm=>?_,h.2⟩
 have:=List.contains_iff_mem.2 hm
 rw [h.1] at this
 cases this
theorem zmR {E:Env} {w w':World} {ns:List Nm} (hSh:Sh E (gone E ns) w w') {S:Nat→Prop} (O:∀ b,b < w.heap.size→¬ S b→w'.heap[b]?=w.heap[b]?) (hS:∀ b m x,E.ω b=some (m,x)→m ∉ ns→¬ S b) (hW:WfE E w) {m:Nm} {b:Bk} (hm:m ∉ ns) (hB:BkOk E w m b) (hc:zlQ za b=true):BkOk (gone E ns) w' m b:=by
 rcases hB with ⟨h1,h2⟩|⟨g0,cur,fz,h1,h2,h3,h4,h5,h6⟩
 ·exact .inl ⟨h1,h2⟩
 ·refine .inr ⟨g0,cur,fz,h1,zjs h2 hm,(O g0 (Array.getElem?_eq_some_iff.1 h3).1 (hS g0 m _ h2 hm)).trans h3,h4,h5,fun x es hx=>?_⟩
  obtain ⟨hk,hj⟩:=h6 x es hx
  refine ⟨hk,fun j p hp=>?_⟩
  obtain ⟨u,hu,hC⟩:=hj j p hp
  refine ⟨u,hu,?_⟩
  cases p with
  | own e k l=>exact Ow.mono hC (fun b hb=>zjs hb hm) (fun b hb hb'=>O b hb (hS b m _ hb' hm))
  | dead=>exact trivial
  | _ =>
   have hcc:=(zt3 hc hx hp).resolve_right (by simp [zn0])
   exact CvC.sh hSh hcc hC
theorem zoI {E:Env} {w w':World} {ns:List Nm} (hW:WfE E w) (hs:w.heap.size≤w'.heap.size):WfE (gone E ns) w':=⟨fun b x hb=>Nat.lt_of_lt_of_le (hW.lt b x (zk6 hb).1) hs,fun b x hb=>hW.nb b x (zk6 hb).1,fun b hb=>Nat.lt_of_lt_of_le (hW.bl b hb) hs⟩
theorem zt5 {E:Env} {w:World} {hp:List (Nm×Bk)} (hW:WfE E w) (hB:∀ n b,look hp n=some b→BkOk E w n b) (hH:zjl za hp=true) {i:Nm} {ps:List PV} {xs:List Arg} {ns:List Nm} (h:conR za hp i ps=some (xs,ns)) {vs:List Value} (hl:vs.length=ps.length) (hc:∀ (j:Nat) p v,ps[j]?=some p→vs[j]?=some v→CvP E w p v) :
  i ∉ ns∧zu8 w (fun b=>∃ m x,E.ω b=some (m,x)∧m ∈ ns) (EIn (gone E (i::ns)) w) xs vs:=by
 unfold conR at h
 split at h
 ·rename_i f caps
  split at h
  ·rename_i hcalm
   rw [Option.map_eq_some_iff] at h
   obtain ⟨d,hd,he⟩:=h
   simp only [Prod.mk.injEq] at he
   obtain ⟨rfl,rfl⟩:=he
   match vs,hl with
   | [v],_ =>
    refine ⟨by simp,?_⟩
    have hSh:Sh E (gone E [i]) w w:=⟨fun _=>rfl,fun _=>Iff.rfl,Nat.le_refl _,fun _ _ _=>rfl,fun _ g cur e fz _ hh=>⟨cur,e,fz,hh,rfl⟩⟩
    have hC:CvC (gone E [i]) w (.fn f caps) v:=CvC.sh hSh (x:=.fn f caps) hcalm (hc 0 _ v rfl rfl)
    have hr:=znW (zoI hW (Nat.le_refl _)) (L:=look (del hp i)) (fun m b hb=>by
     obtain ⟨h1,h2⟩:=zaV hb
     exact zmR (S:=fun b=>∃ x,E.ω b=some (i,x)) hSh (fun _ _ _=>rfl) (fun b m x hm hn ⟨y,hy⟩=>by rw [hm] at hy;injection hy with hy;injection hy with hy;exact hn (by simp [hy])) hW (by simpa using h1) (hB m b h2) (zjm hH h2)) hC hd
    unfold frz at hd
    simp only [Option.map_eq_some_iff] at hd
    obtain ⟨cs,_,rfl⟩:=hd
    exact hr
  ·cases h
 ·rename_i u j e k off n
  split at h
  ·rename_i b hb
   split at h
   ·rename_i es hlit hel
    split at h
    ·rename_i hcond
     obtain ⟨rfl,rfl,rfl,hno,hnd⟩:=hcond
     rw [Option.map_eq_some_iff] at h
     obtain ⟨ds,hds,he⟩:=h
     simp only [Prod.mk.injEq] at he
     obtain ⟨rfl,rfl⟩:=he
     obtain ⟨hi1,hnd1⟩:=zmw hnd
     obtain ⟨hj1,hnd2⟩:=zmw hnd1
     have hij:i≠j:=fun h=>hi1 (by simp [h])
     have hin:i ∉ es.flatMap zdE:=fun h=>hi1 (by simp only [List.mem_cons];exact .inr h)
     refine ⟨hin,?_⟩
     match vs,hl with
     | [v1,v2],_ =>
      have h1:v1=u:=hc 0 _ v1 rfl rfl
      have h2:CvL E w (.row j e b.k 0 1) v2:=hc 1 _ v2 rfl rfl
      refine ⟨h1,?_⟩
      obtain ⟨A,c,rfl,hn,hcm,h3⟩:=h2
      rcases hB j b hb with ⟨_,_,hnil⟩|⟨g,cur,fz,hφ,hω,hh,hfz,hrw,hcl⟩
      ·rw [hel] at hnil;cases hnil
      ·have hA:A=some ⟨g,0*b.k,none⟩:=by
        rcases h3 with ⟨_,_,hn0,_⟩|⟨g',hφ',hA,_⟩
        ·cases hn0
        ·rw [hφ] at hφ';injection hφ' with hφ';injection hφ' with hφ';subst hφ';exact hA Nat.zero_lt_one
       subst hA
       obtain ⟨hke,hcj⟩:=hcl 0 es (by rw [hel];rfl)
       obtain ⟨hlen,hj⟩:=zF hds
       have hjn:j ∉ i::es.flatMap zdE:=by
        simp only [List.mem_cons,not_or]
        exact ⟨fun h=>hij h.symm,hj1⟩
       refine ⟨g,0*b.k,c,rfl,hn,⟨(Array.getElem?_eq_some_iff.1 hh).1,.inl (by rw [zjs hω hjn];simp)⟩,⟨cur,b.e,by rw [hh];exact congrArg (fun z=>some (Obj.cells cur b.e z)) (show fz=(0,0) from hfz)⟩,fun b'=>match E.ω b' with|some (m,_)=>(posN m es).map (fun q=>(0,q))|none=>none,fun x ds' hx=>?_⟩
       cases x with
       | succ x=>simp at hx
       | zero =>
        simp only [List.getElem?_cons_zero,Option.some.injEq] at hx
        subst hx
        refine ⟨by rw [hlen,hke],fun q d hd=>?_⟩
        have hql:q < es.length:=by rw [← hlen];exact (List.getElem?_eq_some_iff.1 hd).1
        have hp:es[q]?=some es[q]:=List.getElem?_eq_getElem hql
        obtain ⟨u',hu',hC⟩:=hcj q _ hp
        obtain ⟨d',hd',hf⟩:=hj q _ hp
        rw [hd'] at hd
        injection hd with hd
        subst hd
        refine ⟨u',?_,?_⟩
        ·rw [zab hh,← hu']
         congr 1
         omega
        ·have hne:∀ e k l,es[q]≠.own e k l:=fun e k l h=>by
          have:=List.all_eq_true.1 hno es[q] (List.getElem_mem hql)
          rw [h] at this
          simp [zn0] at this
         refine ziz hB (hC.toC hne) hf (fun m hm b' y hb'=>?_)
         have hmem:m ∈ es.flatMap zdE:=List.mem_flatMap.2 ⟨es[q],List.getElem_mem hql,by rw [hm];simp⟩
         refine ⟨⟨m,y,hb',hmem⟩,?_⟩
         dsimp only
         rw [hb']
         show (posN m es).map (fun q=>(0,q))=_
         rw [zl8 es q es[q] m hnd2 hp hm]
         rfl
    ·cases h
   ·cases h
  ·cases h
 ·cases h
theorem ztR {P:Program} {T:TT} {F:Fns} {w0:Bs} (hF:zac P F w0) {E:Env} {σ:St} {a:Act} {w:World} (R:Rel E w0 σ a w) {n:Nm} (hn:E.φ n=none) {o:Oper} {f:Operand} {as:Array Operand} {ts:Array TypeId} (ho:o.op=.call { callee:=.value f,args:=as,argTypes:=ts }) {σ':St}
  (h:acon za T F σ n o (σ.get f) as.toList ts.toList=some σ') :
  ∃ g args,(execOp a.eval o).run P w=.ok (.enter g args) w∧Calls P g args w (fun e w'=>∃ v E',e=.returned v∧Rel E' w0 σ' (a.put o.dst v) w'∧∀ m,E'.φ m≠none→E.φ m≠none∨m=n)∧σ'.cnt=σ.cnt:=by
 have hg:=zaA R
 unfold acon at h
 split at h
 ·rename_i g hgf
  split at h
  ·rename_i hlen
   split at h
   ·rename_i i e0 k0 off0 m0 ps hps
    unfold ztQ at h
    split at h
    ·rename_i d xs ns hd hr
     split at h
     ·rename_i e k l hρ
      split at h
      ·rename_i hcalm
       cases hch:zjl za σ.hp with
       | false=>rw [hch] at h;cases h
       | true =>
        rw [hch] at h
        simp only [cond_true] at h
        injection h with h
        obtain ⟨e1,k1,l1,rest,l2,hxs,hys,hE,hcall⟩:znv P w0 g (.v d::xs) [.v (.sl e k l)]:=by rcases (hF _ _ _ hρ).2 g rfl with ⟨_,_,h2,_⟩|h2|⟨_,_,_,h2,_⟩|⟨_,_,_,_,_,h2,_⟩|⟨_,_,_,_,_,h2,_⟩|⟨_,h2,_⟩|⟨_,_,h2,_⟩|⟨_,_,_,_,_,_,_,h2,_⟩|⟨_,_,_,_,_,h2,_⟩<;>first|exact h2|(simp at h2;done)
        simp only [List.cons.injEq,Arg.v.injEq,DT.sl.injEq,and_true] at hxs hys
        obtain ⟨rfl,rfl⟩:=hxs
        obtain ⟨rfl,rfl,rfl⟩:=hys
        obtain ⟨vs,hvs⟩:∃ vs,vs=as.toList.map a.eval:=⟨_,rfl⟩
        have hpl:(PV.c (.row i e0 k0 off0 m0)::ps).length=as.toList.length:=by rw [← hps,List.length_map,List.length_zip,hlen,Nat.min_self]
        have hcv:∀ (j:Nat) p v,(PV.c (.row i e0 k0 off0 m0)::ps)[j]?=some p→vs[j]?=some v→CvP E w p v:=by
         intro j p v hp hv
         rw [← hps,List.getElem?_map,Option.map_eq_some_iff] at hp
         obtain ⟨⟨x,t⟩,hz,rfl⟩:=hp
         rw [List.getElem?_zip_eq_some] at hz
         rw [hvs,List.getElem?_map,hz.1] at hv
         simp only [Option.map_some,Option.some.injEq] at hv
         subst hv
         exact zbQ (hg x)
        have hvl:vs.length=ps.length+1:=by rw [hvs,List.length_map,← hpl];rfl
        match vs,hvl,hvs,hcv with
        | v::vs,hvl,hvs,hcv =>
        have hv0:CvC E w (.row i e0 k0 off0 m0) v:=hcv 0 _ v rfl rfl
        obtain ⟨hin,hrest⟩:=zt5 R.wf R.blk hch hr (vs:=vs) (by simpa using hvl) (fun j p v hp hv=>hcv (j+1) p v (by simpa using hp) (by simpa using hv))
        have hown:=ziz R.blk hv0 hd (S:=fun b=>∃ x,E.ω b=some (i,x)) (fun m hm b y hb=>by
         simp only [zdE,List.cons.injEq,and_true] at hm
         subst hm
         exact ⟨y,hb⟩)
        have hcf:=zeF hg hgf
        obtain ⟨cs,hfv,hcl,_⟩:=hcf
        have hcs:cs=[]:=by simpa using hcl
        subst hcs
        have hS0:∀ b m x,E.ω b=some (m,x)→m ∉ i::ns→¬ (∃ x,E.ω b=some (i,x)):=fun b m x hb hm ⟨y,hy⟩=>by
         rw [hb] at hy
         injection hy with hy
         injection hy with hy
         exact hm (by simp [hy])
        refine ⟨g,(v::vs).toArray,?_,(hcall w v vs (fun b=>∃ x,E.ω b=some (i,x)) (fun b=>∃ m x,E.ω b=some (m,x)∧m ∈ ns) (EIn (gone E (i::ns)) w) R.kp (fun b hb=>?_) (fun b hb=>?_) (fun b hb=>?_) hown hrest).mono ?_,by rw [← h,zvj]⟩
        ·have e1:as.map a.eval=(v::vs).toArray:=by rw [hvs,← Array.toList_map]
         simp only [execOp,ho,resolve,hfv,Deferred.ofValue,invoke,Sem.run_bind,Sem.run_pure,Result.andThen_ok,Array.empty_append,e1,hE _ w]
         simp
        ·rcases hb with ⟨x,hb⟩|⟨m,x,hb,_⟩|hb
         ·exact R.wf.lt b _ hb
         ·exact R.wf.lt b _ hb
         ·exact hb.1
        ·obtain ⟨x,hb⟩:=hb
         refine ⟨R.far (R.wf.nb b _ hb),fun ⟨m,y,hb',hm⟩=>?_⟩
         rw [hb] at hb'
         injection hb' with hb'
         injection hb' with hb'
         exact hin (by rw [hb'];exact hm)
        ·obtain ⟨_,hb⟩:=hb
         have key:∀ m x,E.ω b=some (m,x)→m ∈ i::ns→False:=fun m x hbm hm=>by
          rcases hb with hb|hb
          ·exact hb (zjt hbm hm)
          ·exact R.wf.nb b _ hbm (tv_u (E:=E) hb)
         exact ⟨fun ⟨x,hx⟩=>key i x hx (by simp),fun ⟨m,x,hx,hm⟩=>key m x hx (by simp [hm])⟩
        ·rintro e' w' ⟨v',rfl,O,hO⟩
         have hSh:Sh E (gone E (i::ns)) w w':=⟨fun _=>rfl,fun _=>Iff.rfl,O.size,fun b hb hB=>O.block b hb (fun ⟨x,hx⟩=>R.wf.nb b _ hx hB),fun j g0 cur e fz _ hh=>by
           obtain ⟨cur',h1,h2⟩:=O.sizes g0 cur e fz hh
           exact ⟨cur',e,fz,h1,h2⟩⟩
         have hWf:WfE (gone E (i::ns)) w':=zoI R.wf O.size
         have R2:Rel (gone E (i::ns)) w0 ⟨σ.tm,dels (del σ.hp i) ns,σ.cnt⟩ a w':=⟨hWf,R.dfr,R.siz,fun t q hq=>CvP.sh hSh (List.all_eq_true.1 hcalm q (List.mem_of_getElem? hq)) (R.tmp t q hq),fun m b hb=>by
           obtain ⟨h1,h2⟩:=zpl ns _ hb
           obtain ⟨h3,h4⟩:=zaV h2
           exact zmR hSh O.block hS0 R.wf (by simp [h1,h3]) (R.blk m b h4) (zjm hch h4),by
           have hk:=R.kp
           refine ⟨O.os.trans hk.os,O.tape.trans hk.tape,O.output.trans hk.output,Nat.le_trans hk.size O.size,fun b hb hc=>?_,fun b cur e fz hb=>by
           obtain ⟨c1,h1,h2⟩:=hk.sz b cur e fz hb
           obtain ⟨c2,h3,h4⟩:=O.sizes b c1 e fz h1
           exact ⟨c2,h3,h4.trans h2⟩⟩
           have hB:=(R.bs.u b).2 ⟨hb,hc⟩
           exact (hSh.same b (R.wf.bl b hB) hB).trans (hk.block b hb hc),zhE (E:=E) (fun _=>Iff.rfl) (fun _ _ h=>h) R.bs⟩
         obtain ⟨E',G,hW',hBk,hCv,hφ',_⟩:=zrG hWf (m:=n) hn (fun b hb=>by
          rcases hb with ⟨x,hb⟩|⟨m,x,hb,hm⟩|⟨hb1,hb2⟩
          ·exact ⟨Nat.lt_of_lt_of_le (R.wf.lt b _ hb) O.size,zjt hb (by simp),R.wf.nb b _ hb⟩
          ·exact ⟨Nat.lt_of_lt_of_le (R.wf.lt b _ hb) O.size,zjt hb (by simp [hm]),R.wf.nb b _ hb⟩
          ·refine ⟨hb2,?_,fun hB=>absurd (R.wf.bl b hB) (Nat.not_lt.2 hb1)⟩
           cases hx:(gone E (i::ns)).ω b with
           | none=>rfl
           | some y=>exact absurd (R.wf.lt b _ (zk6 hx).1) (Nat.not_lt.2 hb1)) hO
         refine ⟨v',E',rfl,?_,fun m hm=>hφ' m hm⟩
         rw [← h]
         exact zg9 R2 G hW' (show CvP E' w' (.c (.row n _ _ 0 (za.len _))) v' from hCv) (fun x hx=>by
          simp only [List.mem_singleton] at hx
          subst hx
          exact hBk) o
      ·cases h
     ·cases h
    ·cases h
   ·cases h
  ·cases h
 ·cases h
end Go.Proofs.YtifkepnfaggkiaaGreatDoor
namespace Go.Proofs.YtifkepnfaggkiaaGreatDoor
open Go.RowKit
set_option linter.unusedVariables false
set_option linter.unusedSimpArgs false
set_option linter.unusedSectionVars false
def zen (E:Env) (b:Nat):Env:={ φ:=E.φ,B:=E.B,ω:=fun x=>if x=b then none else E.ω x }
theorem zlK {E:Env} {b x:Nat} {y:Nm×Option (Nat×Nat)} (h:(zen E b).ω x=some y):x≠b∧E.ω x=some y:=by
 unfold zen at h
 dsimp only at h
 split at h
 ·cases h
 ·rename_i hx;exact ⟨hx,h⟩
theorem zkH {E:Env} {w:World} (hW:WfE E w) (b:Nat):WfE (zen E b) w :=
 ⟨fun x y h=>hW.lt x y (zlK h).2,fun x y h=>hW.nb x y (zlK h).2,hW.bl⟩
theorem zhB {E:Env} {w:World} {b:Nat} {n:Nm} (hb:E.ω b=some (n,none)):Turn E (zen E b) w w (fun _=>False) (fun m=>m=n):=by
 refine ⟨fun _ _ h=>h,fun x m y hx hm=>?_,fun x m c hx=>?_,fun _=>Iff.rfl,Nat.le_refl _,fun _ _ _=>rfl,fun _ h=>h.elim,fun _ h=>h.elim⟩
 ·show (if x=b then none else E.ω x)=_
  rw [if_neg (fun h=>by subst h;rw [hb] at hx;injection hx with hx;injection hx with h1 h2;exact hm h1.symm)]
  exact hx
 ·refine ⟨m,c,?_⟩
  show (if x=b then none else E.ω x)=_
  rw [if_neg (fun h=>by subst h;rw [hb] at hx;injection hx with hx;injection hx with h1 h2;cases h2)]
  exact hx
theorem zos {E:Env} {w:World} (hW:WfE E w) {b:Nat} {n:Nm} (hb:E.ω b=some (n,none)) {x:Nat} (h:EIn (zen E b) w x):x < w.heap.size∧x≠b:=by
 refine ⟨h.1,fun hx=>?_⟩
 subst hx
 rcases h.2 with h2|h2
 ·exact h2 (by simp [zen])
 ·exact hW.nb x _ hb (tv_u h2)
theorem zlV {E:Env} {w:World} (hW:WfE E w) {L:Nm→Option Bk} (hL:∀ i b,L i=some b→BkOk E w i b) {p:PV} {v:Value} {a:Arg} (h:CvP E w p v) (hf:frzP za L p=some a):ArgRd (EIn E w) w a v:=by
 unfold frzP at hf
 split at hf
 ·rename_i x
  cases hd:frz za L x with
  | none=>simp [hd] at hf
  | some d=>simp only [hd,Option.map_some,Option.some.injEq] at hf;subst hf;exact znW hW hL h hd
 ·rename_i l
  cases hd:mapO (frz za L) l with
  | none=>simp [hd] at hf
  | some ds =>
   simp only [hd,Option.map_some,Option.some.injEq] at hf
   subst hf
   obtain ⟨cs,rfl,hl,hj⟩:=h
   obtain ⟨hlen,hj2⟩:=zF hd
   refine ⟨cs,rfl,by omega,fun j d u hd' hu=>?_⟩
   have hjl:j < l.length:=by rw [← hlen];exact (List.getElem?_eq_some_iff.1 hd').1
   have hp:l[j]?=some l[j]:=List.getElem?_eq_getElem hjl
   obtain ⟨d2,hd2,hf2⟩:=hj2 j _ hp
   rw [hd2] at hd'
   injection hd' with hd'
   subst hd'
   exact znW hW hL (hj j _ u hp hu) hf2
 ·cases hf
theorem zhf {R:Nat→Prop} {w:World}:∀ (xs:List Arg) (vs:List Value),xs.length=vs.length→(∀ (j:Nat) x v,xs[j]?=some x→vs[j]?=some v→ArgRd R w x v)→zau R w xs vs
 | [],[],_,_=>trivial
 | [],_::_,h,_=>by simp at h
 | _::_,[],h,_=>by simp at h
 | x::xs,v::vs,h,hj=>⟨hj 0 x v rfl rfl,zhf xs vs (by simpa using h) fun j x v hx hv=>hj (j+1) x v (by simpa using hx) (by simpa using hv)⟩
theorem ArgRd.up {R R':Nat→Prop} {w:World} (h:∀ b,R b→R' b) {a:Arg} {v:Value} (ha:ArgRd R w a v):ArgRd R' w a v:=by
 cases a with
 | v d=>exact Rd.mono ha h (zaa _ _)
 | a l =>
  obtain ⟨cs,hv,hl,hj⟩:=ha
  exact ⟨cs,hv,hl,fun j d u hd hu=>Rd.mono (hj j d u hd hu) h (zaa _ _)⟩
theorem zhg {E:Env} {w:World} {i:Nm} {x j:Nat} {p:Cell} {u:Value} {d:DT} (h:CvB E w i x j p u) (hd:boxD p=some d):Rd E.T w u d:=by
 unfold boxD at hd
 split at hd
 ·injection hd with hd;subst hd;have:u=_:=h;subst this;exact Rd.at _
 ·injection hd with hd;subst hd
  refine Rd.mono h (fun b hb=>?_) (zaa _ _)
  rcases hb with hb|⟨hb,_⟩
  ·exact hb
  ·cases hb
 ·cases hd
theorem zoy {E:Env} {w:World} {i:Nm} {x j:Nat} {u:Value} {d:DT} (h:Rd E.T w u d) (hd:boxK d=true):CvB E w i x j (boxC d) u:=by
 cases d with
 | «at» v=>obtain ⟨n,h⟩:=h;cases n<;>exact h
 | sl e k l=>exact Rd.mono h (fun b hb=>.inl hb) (zaa _ _)
 | ptr l=>cases hd
 | fn f c=>cases hd
theorem zmz {w:World} {n:Nat→Nm} (hinj:∀ a b,n a=n b→a=b) {S:Nat→Prop} {ω:Nat→Option Nat} (rs:List Arg) (us:List Value) (E:Env) (hW:WfE E w) (hn:∀ j,E.φ (n j)=none) (hS:∀ b,S b→b < w.heap.size∧¬ E.U b) (hω:∀ b,S b→E.ω b=none) (ho:ResOw w S ω 0 rs us) :
  ∃ E',Opened E w S E' (ziy za n rs).2∧CvP E' w (ziy za n rs).1 (zbR us):=by
 obtain ⟨E',O,hlen,hC⟩:=zjJ zob hinj rs us E 0 hW (fun j _=>hn j) hS (fun b j hb _ _=>hω b hb) ho
 match rs with
 | [r] =>
  have hs:zdY za n 0 [r]=([(zdX za n 0 r).1],(zdX za n 0 r).2++[]):=rfl
  rw [hs] at hC O hlen
  rw [List.append_nil] at O
  match us,hlen with
  | [v],_=>exact ⟨E',O,CvP.of_CvV (hC 0 _ v rfl rfl)⟩
 | [] =>
  refine ⟨E',O,?_⟩
  have h0:us.length=0:=hlen
  rw [zh7 (by omega)]
  exact ⟨us,rfl,hlen,hC⟩
 | r::r'::l =>
  refine ⟨E',O,?_⟩
  have h2:us.length≠1:=by
   have:(zdY za n 0 (r::r'::l)).1=(zdX za n 0 r).1::(zdX za n (0+r.width) r').1::(zdY za n (0+r.width+r'.width) l).1:=rfl
   rw [hlen,this,List.length_cons,List.length_cons]
   omega
  rw [zh7 h2]
  exact ⟨us,rfl,hlen,hC⟩
theorem zka {E:Env} {w0:Bs} {σ:St} {a:Act} {w w':World} (R:Rel E w0 σ a w) {n:Nm} {b e k:Nat} {ds':List DT} (hφ:E.φ n=some (some b)) (hω:E.ω b=some (n,none)) (hfar:w0.w.heap.size≤b∨w0.C b) (hx:(bsX w fun x=>x=b).Ext w') (hb:BoxAt E.T w' b e ds') (hk:ds'.length=k) (hd:ds'.all boxK=true):Rel E w0 ⟨σ.tm,upd σ.hp n ⟨false,true,e,k,[ds'.map boxC]⟩,σ.cnt⟩ a w':=by
 obtain ⟨cur',hh',hcell'⟩:=hb
 have G:Turn E E w w' (fun x=>x=b) (fun _=>False):=⟨fun _ _ h=>h,fun _ _ _ h _=>h,fun _ _ _ h=>⟨_,_,h⟩,fun _=>Iff.rfl,hx.size,fun x hx' hne=>hx.block x hx' hne,fun x hb=>⟨n,by rw [hb];exact hω⟩,fun x hb cur e fz hh=>hx.sz x cur e fz hh⟩
 have hW':WfE E w':=⟨fun b x hb=>Nat.lt_of_lt_of_le (R.wf.lt b x hb) hx.size,R.wf.nb,fun b hb=>Nat.lt_of_lt_of_le (R.wf.bl b hb) hx.size⟩
 have hkp:w0.Ext w':=by
  have hk0:=R.kp
  refine ⟨hx.os.trans hk0.os,hx.tape.trans hk0.tape,hx.output.trans hk0.output,Nat.le_trans hk0.size hx.size,fun x hxl hxc=>?_,fun x cur e fz hh=>?_⟩
  ·exact (hx.block x (Nat.lt_of_lt_of_le hxl hk0.size) (fun hxb=>by
    have hxb':x=b:=hxb
    subst hxb'
    exact hfar.elim (fun h=>absurd hxl (Nat.not_lt.2 h)) hxc)).trans (hk0.block x hxl hxc)
  ·obtain ⟨c1,h1,h2⟩:=hk0.sz x cur e fz hh
   obtain ⟨c2,h3,h4⟩:=hx.sz x c1 e fz h1
   exact ⟨c2,h3,h4.trans h2⟩
 refine ⟨hW',R.dfr,R.siz,fun t p hp=>(R.tmp t p hp).turn R.wf G,fun m c hm=>?_,hkp,R.bs⟩
 rcases zep hm with ⟨rfl,rfl⟩|⟨hne,hl⟩
 ·refine .inr ⟨b,cur',(0,0),hφ,hω,hh',rfl,fun h=>(by cases h),fun x es' hx'=>?_⟩
  cases x with
  | succ x=>simp at hx'
  | zero =>
   simp only [List.getElem?_cons_zero,Option.some.injEq] at hx'
   subst hx'
   refine ⟨by rw [List.length_map];exact hk,fun j p hp=>?_⟩
   rw [List.getElem?_map,Option.map_eq_some_iff] at hp
   obtain ⟨d,hd',rfl⟩:=hp
   obtain ⟨u,hu,hr⟩:=hcell' j d hd'
   exact ⟨u,by simpa using hu,zoy hr (List.all_eq_true.1 hd d (List.mem_of_getElem? hd'))⟩
 ·exact (R.blk m c hl).turn R.wf G (fun h=>h) (fun x hxb hx2=>by
   have hxb':x=b:=hxb
   subst hxb'
   rw [hω] at hx2
   injection hx2 with hx2
   injection hx2 with hx2
   exact hne hx2.symm)
theorem zxq {T:TT} {t:Nat} {p:PV} {n:Nm} {k a b:Nat} (h:norm T t p=.c (.ptr n k a b)):p=.c (.ptr n k a b):=by
 unfold norm at h
 split at h
 ·cases h
 ·split at h<;>cases h
 ·exact h
theorem zv5 {T:TT} {t:Nat} {p:PV} {n:Nm} (h:notP n p=true):notP n (norm T t p)=true:=by
 unfold norm
 split
 ·rfl
 ·split<;>rfl
 ·exact h
theorem ztS {P:Program} {T:TT} {F:Fns} {w0:Bs} (hF:zac P F w0) {E:Env} {σ:St} {a:Act} {w:World} (R:Rel E w0 σ a w) {i:Nat} (hn:∀ j,E.φ (σ.cnt,i,j)=none) {o:Oper} {f:Operand} {as:Array Operand} {ts:Array TypeId} (ho:o.op=.call { callee:=.value f,args:=as,argTypes:=ts }) {σ':St}
  (h:acur za T F σ i o (σ.get f) as.toList ts.toList=some σ') :
  ∃ g args,(execOp a.eval o).run P w=.ok (.enter g args) w∧Calls P g args w (fun e w'=>∃ v E',e=.returned v∧Rel E' w0 σ' (a.put o.dst v) w'∧(∀ m,E'.φ m≠none→E.φ m≠none∨(m.1=σ.cnt∧m.2.1=i))∧∀ n,(as.toList.all fun x=>notP n (σ.get x))=true→Kep E E' w w' n)∧σ'.cnt=σ.cnt:=by
 have hg:=zaA R
 unfold acur at h
 split at h
 ·rename_i g hgf
  split at h
  ·rename_i hlen
   split at h
   ·rename_i e n k ps he hps
    split at h
    ·rename_i e' k' es hlk
     split at h
     ·rename_i hek
      obtain ⟨rfl,rfl⟩:=hek
      split at h
      ·rename_i ds xs hds hxs
       split at h
       ·rename_i ds' rs hρ
        split at h
        ·rename_i hk
         split at h
         ·rename_i hok
          injection h with h
          obtain ⟨ds1,rest,ds1',rs1,hx1,hx2,hE,e1,he1,hcall⟩:zqg P w0 g (.v (.ptr ds)::xs) (.v (.ptr ds')::rs):=by
           rcases (hF _ _ _ hρ).2 g rfl with ⟨_,_,h2,_⟩|⟨_,_,_,_,_,_,h2,_⟩|⟨_,_,_,h2,_⟩|h2|⟨_,_,_,_,_,h2,_⟩|⟨_,h2,_⟩|⟨_,_,h2,_⟩|⟨_,_,_,_,_,_,_,h2,_⟩|⟨_,_,_,_,_,h2,_⟩<;>first|exact h2|(simp at h2;done)
          simp only [List.cons.injEq,Arg.v.injEq,DT.ptr.injEq] at hx1 hx2
          obtain ⟨rfl,rfl⟩:=hx1
          obtain ⟨rfl,rfl⟩:=hx2
          rw [he] at he1
          injection he1 with he1
          subst he1
          obtain ⟨vs,hvs⟩:∃ vs,vs=as.toList.map a.eval:=⟨_,rfl⟩
          have hpl:(PV.c (.ptr n k 0 0)::ps).length=as.toList.length:=by rw [← hps,List.length_map,List.length_zip,hlen,Nat.min_self]
          have hcv:∀ (j:Nat) p v,(PV.c (.ptr n k 0 0)::ps)[j]?=some p→vs[j]?=some v→CvP E w p v:=by
           intro j p v hp hv
           rw [← hps,List.getElem?_map,Option.map_eq_some_iff] at hp
           obtain ⟨⟨x,t⟩,hz,rfl⟩:=hp
           rw [List.getElem?_zip_eq_some] at hz
           rw [hvs,List.getElem?_map,hz.1] at hv
           simp only [Option.map_some,Option.some.injEq] at hv
           subst hv
           exact zbQ (hg x)
          have hvl:vs.length=ps.length+1:=by rw [hvs,List.length_map,← hpl];rfl
          match vs,hvl,hvs,hcv with
          | v::vs,hvl,hvs,hcv =>
          obtain ⟨b,hφ,hv0⟩:∃ g,E.φ n=some (some g)∧v=.pointer (some ⟨g,0*k+0,none⟩):=hcv 0 _ v rfl rfl
          rw [show 0*k+0=0 by simp] at hv0
          subst hv0
          rcases R.blk n _ hlk with ⟨_,h1,_⟩|⟨b',cur,fz,hφ',hω,hh,hfz,_,hc⟩
          ·cases h1
          rw [hφ] at hφ'
          injection hφ' with hφ'
          injection hφ' with hφ'
          subst hφ'
          have hfz':fz=(0,0):=hfz
          subst hfz'
          obtain ⟨hkl,hcell⟩:=hc 0 es rfl
          obtain ⟨hdl,hdj⟩:=zF hds
          have hbox:BoxAt E.T w b e ds:=⟨cur,hh,fun j d hd=>by
           have hjl:j < es.length:=by rw [← hdl];exact (List.getElem?_eq_some_iff.1 hd).1
           have hp:es[j]?=some es[j]:=List.getElem?_eq_getElem hjl
           obtain ⟨u,hu,hC⟩:=hcell j _ hp
           obtain ⟨d2,hd2,hb2⟩:=hdj j _ hp
           rw [hd2] at hd
           injection hd with hd
           subst hd
           exact ⟨u,by simpa using hu,zhg hC hb2⟩⟩
          have hT:∀ x,E.T x→x < w.heap.size∧x≠b:=fun x hx=>⟨R.wf.bl x hx.1,fun h=>by subst h;exact R.wf.nb x _ hω hx.1⟩
          have hWo:=zkH R.wf b
          have hTo:=zhB (w:=w) hω
          obtain ⟨hxl,hxj⟩:=zF hxs
          have hargs:zau (fun x=>x < w.heap.size∧x≠b) w xs vs:=zhf xs vs (by rw [hxl];have h9:=hvl;rw [List.length_cons] at h9;omega) fun j x v hx hv=>by
           have hjl:j < ps.length:=by rw [← hxl];exact (List.getElem?_eq_some_iff.1 hx).1
           have hp:ps[j]?=some ps[j]:=List.getElem?_eq_getElem hjl
           obtain ⟨x2,hx2,hf2⟩:=hxj j _ hp
           rw [hx2] at hx
           injection hx with hx
           subst hx
           have hC:=(hcv (j+1) ps[j] v (by rw [List.getElem?_cons_succ];exact hp) (by rw [List.getElem?_cons_succ];exact hv)).turn R.wf hTo
           exact (zlV hWo (fun m c hm=>by
            obtain ⟨h1,h2⟩:=zaV hm
            exact (R.blk m c h2).turn R.wf hTo h1 (fun _ h=>h.elim)) hC hf2).up fun x hx=>zos R.wf hω hx
          have hcf:=zeF hg hgf
          obtain ⟨cs,hfv,hcl,_⟩:=hcf
          have hcs:cs=[]:=by simpa using hcl
          subst hcs
          have hfar:=R.far (R.wf.nb b _ hω)
          refine ⟨g,(Value.pointer (some ⟨b,0,none⟩)::vs).toArray,?_,(hcall w b E.T vs R.kp hfar hT hbox hargs).mono ?_,by rw [← h];unfold aput;split<;>rfl⟩
          ·have e1:as.map a.eval=(Value.pointer (some ⟨b,0,none⟩)::vs).toArray:=by rw [hvs,← Array.toList_map]
           simp only [execOp,ho,resolve,hfv,Deferred.ofValue,invoke,Sem.run_bind,Sem.run_pure,Result.andThen_ok,Array.empty_append,e1,hE _ w]
           simp
          ·rintro e' w' ⟨us,ω,rfl,hx,⟨cur',hh',hcell'⟩,hres⟩
           have hW':WfE E w':=⟨fun b x hb=>Nat.lt_of_lt_of_le (R.wf.lt b x hb) hx.size,R.wf.nb,fun b hb=>Nat.lt_of_lt_of_le (R.wf.bl b hb) hx.size⟩
           have R1:Rel E w0 ⟨σ.tm,upd σ.hp n ⟨false,true,e,k,[ds'.map boxC]⟩,σ.cnt⟩ a w':=zka R hφ hω hfar hx ⟨cur',hh',hcell'⟩ (by rw [hk.1,hdl];exact hkl) hk.2
           obtain ⟨E',O,hC⟩:=zmz (n:=nmOf σ i) (fun a b hab=>by rw [zhi] at hab;injection hab with _ hab;injection hab) rs us E hW' (fun j=>by rw [zhi];exact hn j) (fun x hx'=>⟨hx'.2,fun hU=>absurd (R.wf.bl x hU) (Nat.not_lt.2 hx'.1)⟩) (fun x hx'=>by
            cases hx3:E.ω x with
            | none=>rfl
            | some y=>exact absurd (R.wf.lt x y hx3) (Nat.not_lt.2 hx'.1)) hres
           refine ⟨zbR us,E',rfl,?_,fun m hm=>?_,fun n2 hn2 b2 hf2 hb2=>?_⟩
           ·rw [← h]
            exact zg9 R1 O.g O.wf hC O.bk o
           ·rcases O.φ m hm with h1|⟨x,hx',rfl⟩
            ·exact .inl h1
            ·right
             unfold okNm at hok
             simpa using (List.all_eq_true.1 hok) x hx'
           ·refine ⟨O.g.φ n2 _ hf2,O.g.ω b2 _ hb2,hx.block b2 (R.wf.lt b2 _ hb2) fun hbb=>?_⟩
            have hbb:b2=b:=hbb
            rw [hbb,hω] at hb2
            injection hb2 with hb2
            injection hb2 with hb2
            subst hb2
            have hh0:((as.toList.zip ts.toList).map (fun (x,t)=>norm T t (σ.get x)):List PV)[0]?=some (.c (.ptr n k 0 0)):=by rw [hps];rfl
            rw [List.getElem?_map,Option.map_eq_some_iff] at hh0
            obtain ⟨⟨x0,t0⟩,hz0,hn0⟩:=hh0
            rw [List.getElem?_zip_eq_some] at hz0
            have h9:=List.all_eq_true.1 hn2 x0 (List.mem_of_getElem? hz0.1)
            rw [zxq hn0] at h9
            exact zl2 h9 rfl
         ·cases h
        ·cases h
       ·cases h
      ·cases h
     ·cases h
    ·cases h
   ·cases h
  ·cases h
 ·cases h
end Go.Proofs.YtifkepnfaggkiaaGreatDoor
