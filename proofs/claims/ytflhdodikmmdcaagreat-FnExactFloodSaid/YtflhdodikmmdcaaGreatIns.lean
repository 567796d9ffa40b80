import Derived.Test.YtflhdodikmmdcaaGreatInsC
import Derived.Test.YtflhdodikmmdcaaGreatInj
import Derived.Test.YtflhdodikmmdcaaGreatSd
import Derived.Test.YtflhdodikmmdcaaGreatEnc
namespace Go.Proofs.YtflhdodikmmdcaaGreat
open Go.RowKit
set_option linter.unusedVariables false
set_option linter.unusedSimpArgs false
set_option maxRecDepth 100000
theorem zCA {α:Type} (l:List α) (x:α) (i:Nat) (hi:i≤l.length) {t:Nat} {y:α} (h:(l.take i++x::l.drop i)[t]?=some y):(t < i∧l[t]?=some y)∨(t=i∧y=x)∨(i < t∧l[t - 1]?=some y):=by
 have htl:(l.take i).length=i:=by rw [yX];omega
 by_cases h1:t < i
 ·rw [yA (by omega),yaH,if_pos h1] at h
  exact .inl ⟨h1,h⟩
 ·rw [yw (by omega),htl] at h
  by_cases h2:t=i
  ·subst h2
   rw [Nat.sub_self] at h
   simp only [yD,yd] at h
   exact .inr (.inl ⟨rfl,h.symm⟩)
  ·rw [show t - i=(t - 1 - i)+1 by omega,yaO,yad,show i+(t - 1 - i)=t - 1 by omega] at h
   exact .inr (.inr ⟨by omega,h⟩)
theorem zBL {α:Type} (en:α→List DT) (hK:∀ x,(en x).length=3) (h1v:∀ x d,d ∈ en x→(∃ v,d=.at v∧oneV v)∨∃ e k l,d=.sl e k l) {w0:Bs} {l:List α} {i:Nat} {x:α} (hi:i≤l.length) (hl:l.length < 2 ^ 40) :
  zgO Tryz.prog w0 INSF [.v (.sl TE 3 (l.map en)),.v (.at (.int .i64 (i:Nat))),.v (.sl TE 3 [en x])] [.v (.sl TE 3 ((l.take i++x::l.drop i).map en))]:=by
 refine ⟨TE,3,l.map en,_,_,rfl,rfl,fun _ _=>by kernel_rfl,fun e1 h=>(by cases (show rowE INSF=none from rfl).symm.trans h),fun _ w v vs S S2 R hx hlt hS hR hOw hRest=>?_⟩
 match vs,hRest with
 | [v1,v2],⟨h1,hs⟩ =>
 subst h1
 obtain ⟨vb,voff,vc,rfl,hle,hRb,hvh,ωv,hv⟩:=hs
 have hvbl:vb < w.heap.size:=hlt vb (.inr (.inr hRb))
 obtain ⟨_,hv2⟩:=hv 0 (en x) rfl
 have hone:∀ y d u N Q,d ∈ en y→OwN w N Q u d→oneV u:=fun y d u N Q hd hOw=>by
  rcases h1v y d hd with ⟨v,hv,ho⟩|⟨e2,k2,l2,hv⟩
  ·rw [hv] at hOw
   have:u=v:=zj2 ⟨N,hOw⟩
   rw [this];exact ho
  ·rw [hv] at hOw
   exact zqM ⟨N,hOw⟩
 let V:List Value:=(List.range 3).map fun j=>(w.cell? ⟨vb,voff+j,none⟩).getD undef
 have hV:∀ j d,(en x)[j]?=some d→∃ u,V[j]?=some u∧w.cell? ⟨vb,voff+j,none⟩=some u∧Ow w (fun b=>S2 b∧ωv b=some (0,j)) u d:=fun j d hd=>by
  obtain ⟨u,hu,hO⟩:=hv2 j d hd
  rw [Nat.zero_mul,yL] at hu
  have hj:j < 3:=by rw [← hK x];exact (yc.1 hd).1
  exact ⟨u,by simp only [V,yl,yat hj,yk,hu,yaB],hu,hO⟩
 have hVl:V.length=3:=by simp [V]
 have hVc:∀ j u,V[j]?=some u→w.cell? ⟨vb,voff+j,none⟩=some u∧oneV u:=fun j u hu=>by
  have hj:j < 3:=by rw [← hVl];exact (yc.1 hu).1
  have hd:(en x)[j]?=some ((en x)[j]'(by rw [hK];exact hj)):=yb _
  obtain ⟨u',h1,h2,N,hO⟩:=hV j _ hd
  rw [hu] at h1
  injection h1 with h1
  subst h1
  exact ⟨h2,hone x _ u N _ (yy hd) hO⟩
 have hVone:∀ u ∈ V,oneV u:=fun u hu=>by
  obtain ⟨j,hj⟩:=yao hu
  exact (hVc j u hj).2
 have key:∀ (g oo c:Nat) (base:Option Addr) (C:List Value) (ω:Nat→Option (Nat×Nat)),((base=none∧l.length=0∧c=0∧g=w.heap.size)∨(base=some ⟨g,oo,none⟩∧S g∧ω g=none∧∃ cur,w.heap[g]?=some (.cells cur TE (0,0))∧cur.size=oo+c*3))→l.length≤c→c≤maxLen→C.length=l.length*3 →
   (base≠none→∀ j u,C[j]?=some u→w.cell? ⟨g,oo+j,none⟩=some u)→(∀ t y,l[t]?=some y→∀ j d,(en y)[j]?=some d→∃ u,C[t*3+j]?=some u∧Ow w (fun b=>S b∧ω b=some (t,j)) u d)→(∀ u ∈ C,oneV u) →
   Calls Tryz.prog INSF #[.slice base l.length c,.int .i64 (i:Nat),.slice (some ⟨vb,voff,none⟩) 1 vc] w fun e' w'=>∃ v',e'=.returned v'∧OutM S w w'∧Ow w' (fun b=>S b∨S2 b∨(w.heap.size≤b∧b < w'.heap.size)) v' (.sl TE 3 ((l.take i++x::l.drop i).map en)):=by
  intro g oo c base C ω hb hlc hcm hCl hCc hC hC1
  have hvg:vb≠g:=by
   rcases hb with ⟨_,_,_,rfl⟩|⟨_,hSg,_⟩
   ·omega
   ·rintro rfl;exact (hR vb hRb).1 hSg
  refine (zBN g oo c l.length i vb voff vc base C V w hi hl (by
   rcases hb with ⟨h1,h2,h3,_⟩|⟨h1,_,_,h2⟩
   ·exact .inl ⟨h1,h2,h3⟩
   ·exact .inr ⟨h1,h2⟩) hlc hcm hvg hCl hVl hCc (fun j u hu=>(hVc j u hu).1) hC1 hVone hvh).mono ?_
  rintro e' w' ⟨⟨g',o',c',cur',rfl,hg',hh',hs',hn',hc',hcell⟩,hO⟩
  refine ⟨_,rfl,⟨hO.os,hO.tape,hO.output,hO.size,fun b hb' hnS=>hO.block b hb' (fun he=>?_),hO.sizes⟩,?_⟩
  ·rcases hb with ⟨_,_,_,h4⟩|⟨_,hSg,_⟩
   ·omega
   ·exact hnS (by rw [he];exact hSg)
  ·have hlen:((l.take i++x::l.drop i).map en).length=l.length+1:=by
    simp only [yN,yO,yX,yac,yam]
    omega
   rw [← hlen]
   let ω2:Nat→Option (Nat×Nat):=fun b=>open Classical in if S2 b then (ωv b).map (fun q=>(i,q.2)) else if S b then (ω b).map (fun q=>(if q.1 < i then q.1 else q.1+1,q.2)) else none
   have hω2S:∀ b t j,S b→ω b=some (t,j)→ω2 b=some (if t < i then t else t+1,j):=fun b t j hb1 hb2=>by
    show @ite _ (S2 b) (Classical.propDecidable _) _ _=_
    rw [if_neg (hS b hb1).2,if_pos hb1,hb2]
    rfl
   have hω2V:∀ b j,S2 b→ωv b=some (0,j)→ω2 b=some (i,j):=fun b j hb1 hb2=>by
    show @ite _ (S2 b) (Classical.propDecidable _) _ _=_
    rw [if_pos hb1,hb2]
    rfl
   have hsame:∀ b,b < w.heap.size→¬ b=g→w'.heap[b]?=w.heap[b]?:=fun b hb1 hb2=>hO.block b hb1 hb2
   have hng:∀ b t j,S b→ω b=some (t,j)→¬ b=g:=fun b t j hb1 hb2 he=>by
    rcases hb with ⟨_,_,_,h4⟩|⟨_,_,h5,_⟩
    ·have:=hlt b (.inl hb1)
     omega
    ·rw [he,h5] at hb2;cases hb2
   have hng2:∀ b,S2 b→¬ b=g:=fun b hb1 he=>by
    rcases hb with ⟨_,_,_,h4⟩|⟨_,hSg,_⟩
    ·have:=hlt b (.inr (.inl hb1))
     omega
    ·exact (hS g hSg).2 (by rw [← he];exact hb1)
   refine Ow.sl (g:=g') (o:=o') (cur:=cur') (fz:=(0,0)) ?_ hh' rfl (by rw [hlen];exact hn') hc' hs' ω2 ?_ (fun t es ht=>?_)
   ·rcases hg' with rfl|hg'
    ·rcases hb with ⟨_,_,_,rfl⟩|⟨_,hSg,_⟩
     ·exact .inr (.inr ⟨yz _,(yn.1 hh').1⟩)
     ·exact .inl hSg
    ·exact .inr (.inr hg')
   ·show @ite _ (S2 g') (Classical.propDecidable _) _ _=_
    have hS2g:¬ S2 g':=fun h=>by
     rcases hg' with rfl|hg'
     ·exact hng2 _ h rfl
     ·have:=hlt g' (.inr (.inl h))
      omega
    rw [if_neg hS2g]
    by_cases hSg':S g'
    ·rw [if_pos hSg']
     rcases hg' with rfl|hg'
     ·rcases hb with ⟨_,_,_,h4⟩|⟨_,_,h5,_⟩
      ·have:=hlt _ (.inl hSg')
       omega
      ·rw [h5];rfl
     ·have:=hlt g' (.inl hSg')
      omega
    ·rw [if_neg hSg']
   ·rw [yl,yp] at ht
    obtain ⟨y,hy,rfl⟩:=ht
    have htl:(C.take (i*3)).length=i*3:=by rw [yX];omega
    refine ⟨hK y,fun j d hd=>?_⟩
    have hj2:j < 3:=by rw [← hK y];exact (yc.1 hd).1
    rcases zCA l x i hi hy with ⟨h1,h2⟩|⟨rfl,rfl⟩|⟨h1,h2⟩
    ·obtain ⟨u,hu,hO1⟩:=hC t y h2 j d hd
     refine ⟨u,(by rw [yaf]:_=_).trans (hcell _ _ ?_),Ow.mono hO1 (fun b hb1=>⟨.inl hb1.1,?_⟩) (fun b hb1 hb2=>hsame b hb1 (hng b t j hb2.1 hb2.2))⟩
     ·rw [yal,yA (by omega),yaH,if_pos (by omega)]
      exact hu
     ·rw [hω2S b t j hb1.1 hb1.2,if_pos h1]
    ·obtain ⟨u,hu,_,hO1⟩:=hV j d hd
     refine ⟨u,(by rw [yaf]:_=_).trans (hcell _ _ ?_),Ow.mono hO1 (fun b hb1=>⟨.inr (.inl hb1.1),hω2V b j hb1.1 hb1.2⟩) (fun b hb1 hb2=>hsame b hb1 (hng2 b hb2.1))⟩
     rw [yal,yw (by omega),htl,show t*3+j - t*3=j by omega,yA (by rw [hVl];exact hj2)]
     exact hu
    ·obtain ⟨u,hu,hO1⟩:=hC (t - 1) y h2 j d hd
     refine ⟨u,(by rw [yaf]:_=_).trans (hcell _ _ ?_),Ow.mono hO1 (fun b hb1=>⟨.inl hb1.1,?_⟩) (fun b hb1 hb2=>hsame b hb1 (hng b (t - 1) j hb2.1 hb2.2))⟩
     ·rw [yal,yw (by omega),htl,yw (by rw [hVl];omega),hVl,yad,show i*3+(t*3+j - i*3 - 3)=(t - 1)*3+j by omega]
      exact hu
     ·rw [hω2S b (t - 1) j hb1.1 hb1.2,if_neg (by omega),show t - 1+1=t by omega]
 obtain ⟨N,hO⟩:=hOw
 cases N with
 | zero=>exact hO.elim
 | succ N =>
 rcases hO with ⟨rfl,hnil⟩|⟨g,oo,c,cur,fz,rfl,hSg,hh,hf,hl1,hl2,hl3,ω,hω,hi2⟩
 ·have hl0:l=[]:=by simpa using hnil
  have:=key w.heap.size 0 0 none [] (fun _=>none) (.inl ⟨rfl,by rw [hl0];rfl,rfl,rfl⟩) (by rw [hl0];exact yz _) (by simp [maxLen]) (by rw [hl0];rfl) (fun h=>absurd rfl h) (fun t y hy=>by rw [hl0] at hy;simp at hy) (fun u hu=>by cases hu)
  rw [hl0] at this ⊢
  exact this
 ·have hfz:fz=(0,0):=hf
  subst hfz
  rw [yN] at hl1 ⊢
  let C:List Value:=(List.range (l.length*3)).map fun j=>(cur[oo+j]?).getD undef
  have hCl:C.length=l.length*3:=by simp [C]
  have hCj:∀ j u,C[j]?=some u→cur[oo+j]?=some u:=fun j u hu=>by
   have hj:j < l.length*3:=by rw [← hCl];exact (yc.1 hu).1
   have hjc:oo+j < cur.size:=by omega
   simp only [C,yl,yat hj,yk,yd] at hu
   rw [yS hjc] at hu ⊢
   simpa using hu
  have hCe:∀ t y,l[t]?=some y→∀ j d,(en y)[j]?=some d→∃ u,C[t*3+j]?=some u∧OwN w N (fun b=>S b∧ω b=some (t,j)) u d:=fun t y hy j d hd=>by
   obtain ⟨u,hu,hO1⟩:=(hi2 t (en y) (by rw [yl,hy];rfl)).2 j d hd
   have hj:j < 3:=by rw [← hK y];exact (yc.1 hd).1
   have ht:t < l.length:=(yc.1 hy).1
   refine ⟨u,?_,hO1⟩
   simp only [C,yl,yat (show t*3+j < l.length*3 by omega),yk,← yaf,hu,yaB]
  refine key g oo c _ C ω (.inr ⟨rfl,hSg,hω,cur,hh,hl3⟩) hl1 hl2 hCl (fun _ j u hu=>by rw [zT hh];exact hCj j u hu) (fun t y hy j d hd=>by
   obtain ⟨u,h1,h2⟩:=hCe t y hy j d hd
   exact ⟨u,h1,N,h2⟩) (fun u hu=>?_)
  obtain ⟨q,hq⟩:=yao hu
  have hql:q < l.length*3:=by rw [← hCl];exact (yc.1 hq).1
  have hqt:q / 3 < l.length:=by omega
  have hy:l[q / 3]?=some l[q / 3]:=yb hqt
  have hd:(en l[q / 3])[q % 3]?=some ((en l[q / 3])[q % 3]'(by rw [hK];omega)):=yb _
  obtain ⟨u',h1,h2⟩:=hCe (q / 3) _ hy (q % 3) _ hd
  rw [show q / 3*3+q % 3=q by omega,hq] at h1
  injection h1 with h1
  subst h1
  exact hone _ _ _ _ _ (yy hd) h2
end Go.Proofs.YtflhdodikmmdcaaGreat
namespace Go.Proofs.YtflhdodikmmdcaaGreat
open Go.RowKit
set_option linter.unusedVariables false
set_option linter.unusedSimpArgs false
set_option maxRecDepth 100000
noncomputable section
def aIns (i:List zf×Int×zf):List Arg:=[.v (.sl 180 3 (List.map zl i.1)),.v (.at (.int .i64 i.2.1)),.v (.sl 180 3 [[.at (.int .i64 i.2.2.face),.at (.int .i64 i.2.2.nonce),.at (.int .i64 i.2.2.expiry)]])]
def rIns (i:List zf×Int×zf):Option (List Arg):=(zaJ i.1 i.2.1 i.2.2).bind fun r=>some [.v (.sl 180 3 (List.map zl r))]
theorem zAa (i j:List zf×Int×zf) (h:aIns i=aIns j):i=j:=by
 obtain ⟨l1,c1,x1⟩:=i
 obtain ⟨l2,c2,x2⟩:=j
 have hx:zl x1=zl x2:=by
  have h2:=yZ (fun q=>q[2]?) h
  simp only [aIns,yaO,yD,yd,Arg.v.injEq,DT.sl.injEq,yu,yab,yx] at h2
  unfold zl
  simpa using h2
 obtain rfl:=zjC _ _ hx
 simp only [aIns,yab,Arg.v.injEq,DT.sl.injEq,DT.at.injEq,Value.int.injEq,yu,yx] at h
 obtain ⟨h0,h1⟩:=h
 obtain rfl:=zaN zjC h0
 obtain rfl:=h1
 rfl
theorem zBw (w0:World) (xs ys:List Arg) (h:xOf aIns rIns xs=some ys):zgO Tryz.prog (bs0 w0) INSF xs ys:=by
 obtain ⟨⟨l,k,x⟩,rfl,hr⟩:=zgN h
 unfold rIns zaJ insO at hr
 dsimp only at hr
 split at hr
 ·rename_i hc
  obtain ⟨h0,h1,h2⟩:=hc
  simp only [ya,yd] at hr
  subst hr
  obtain ⟨i,rfl⟩:∃ i:Nat,k=(i:Int):=⟨k.toNat,by omega⟩
  exact zBL zl (fun _=>rfl) (fun x d hd=>by
   simp only [zl,yaA,ych,or_false] at hd
   rcases hd with rfl|rfl|rfl<;>first|exact .inl ⟨_,rfl,by simp [oneV]⟩|exact .inr ⟨_,_,_,rfl⟩) (by simpa using h1) h2
 ·cases hr
end
end Go.Proofs.YtflhdodikmmdcaaGreat
