import Derived.Test.YtifkepnfaggkiaaGreatDoorEngMut
import Derived.Laws.IdiomCopy
import Derived.Test.YtifkepnfaggkiaaGreatDoorProg
import Derived.WalkKit
import Derived.Shelf.RegionOpenPlain
import Derived.Lib.SliceRun
import Derived.Lib.JoinLaws
import Derived.Lib.Overlaps
import Derived.Lib.AppendZerosOnto
import Derived.Laws.Externs
import Derived.Laws.NewBlocks
import Derived.Shelf.Spec.SlicesInsert
namespace Go.Proofs.YtifkepnfaggkiaaGreatDoor
open Go.RowKit
set_option linter.unusedVariables false
set_option linter.unusedSimpArgs false
theorem OutM.refl (M:Nat→Prop) (w:World):OutM M w w:=⟨rfl,rfl,rfl,Nat.le_refl _,fun _ _ _=>rfl,fun b cur e fz h=>⟨cur,h,rfl⟩⟩
theorem OutM.trans {M:Nat→Prop} {w w1 w2:World} (h:OutM M w w1) (k:OutM M w1 w2):OutM M w w2 :=
 ⟨k.os.trans h.os,k.tape.trans h.tape,k.output.trans h.output,Nat.le_trans h.size k.size,fun b hb hM=>(k.block b (Nat.lt_of_lt_of_le hb h.size) hM).trans (h.block b hb hM),fun b cur e fz hh=>by
  obtain ⟨c1,h1,h2⟩:=h.sizes b cur e fz hh
  obtain ⟨c2,h3,h4⟩:=k.sizes b c1 e fz h1
  exact ⟨c2,h3,h4.trans h2⟩⟩
theorem OutM.ext {M:Nat→Prop} {w w':World} (h:Ext w w'):OutM M w w':=⟨h.os,h.tape,h.output,h.size,fun b hb _=>h.block b hb,fun b cur e fz hh=>⟨cur,(h.block b (Array.getElem?_eq_some_iff.1 hh).1).trans hh,rfl⟩⟩
theorem OutM.mono {M N:Nat→Prop} {w w':World} (h:OutM M w w') (hMN:∀ b,M b→N b):OutM N w w':=⟨h.os,h.tape,h.output,h.size,fun b hb hN=>h.block b hb (fun hM=>hN (hMN b hM)),h.sizes⟩
theorem OutM.same {M R:Nat→Prop} {w w':World} (h:OutM M w w') (hR:∀ b,R b→¬ M b):SameOn R w w':=fun b hb hr=>h.block b hb (hR b hr)
theorem Wrote.outM {w w':World} {g o:Nat} {vs:List Value} (h:Wrote w w' g o vs):OutM (fun b=>b=g) w w':=by
 have hx:=h.ext (bs0 { w with heap:=#[] }) ⟨rfl,rfl,rfl,Nat.zero_le _,fun b hb=>absurd hb (Nat.not_lt_zero _),fun b cur e fz hh=>by simp [bs0] at hh⟩ (.inl (Nat.zero_le _))
 refine ⟨hx.os,hx.tape,hx.output,Nat.le_of_eq h.size.symm,fun b _ hb=>h.same b hb,fun b cur e fz hh=>?_⟩
 by_cases hb:b=g
 ·subst hb
  obtain ⟨cur',h1,h2,_⟩:=h.blk cur e fz hh
  exact ⟨cur',h1,h2⟩
 ·exact ⟨cur,(h.same b hb).trans hh,rfl⟩
theorem zl7 {v:Value} (h:oneV v):v.oneCell'=true:=by
 cases v with
 | agg l=>exact absurd rfl (h.1 l)
 | tuple l=>exact absurd rfl (h.2 l)
 | _=>rfl
theorem zfB (P:Program) (g o:Nat) (vs:List Value) (w:World) (cur:Array Value) (e:Nat) (hh:w.heap[g]?=some (.cells cur e (0,0))) (hl:o+vs.length≤cur.size) (hv:∀ v ∈ vs,oneV v):Wrote w (w.setCells g o vs) g o vs:=by
 obtain ⟨w',hr,hW⟩:=zfl (P:=P) g o vs 0 w cur e (0,0) hh rfl (by simpa using hl) hv
 have hc:∀ j,j < vs.length→w.cell? ⟨g,o+j,none⟩=cur[o+j]?:=fun j hj=>zab hh _
 have h2:=run_storeCells_cells (P:=P) g o vs 0 w (fun j hj=>by rw [Nat.add_zero,hc j hj,Array.getElem?_eq_getElem (by omega)];rfl) (fun j hj=>by
  simp only [World.frozen?,hh,Nat.add_zero,Bool.and_eq_false_iff,decide_eq_false_iff_not]
  right
  exact Nat.not_lt_zero _) (fun v hv'=>zl7 (hv v hv'))
 rw [hr] at h2
 injection h2 with _ h2
 rw [h2] at hW
 exact hW
theorem Wrote.cell {w w':World} {g o:Nat} {vs:List Value} (h:Wrote w w' g o vs) {cur:Array Value} {e:Nat} {fz:Nat×Nat} (hh:w.heap[g]?=some (.cells cur e fz)) (hl:o+vs.length≤cur.size) (m:Nat) :
  w'.cell? ⟨g,m,none⟩=if o≤m∧m < o+vs.length then vs[m - o]? else w.cell? ⟨g,m,none⟩:=by
 obtain ⟨cur',h1,h2,h3⟩:=h.blk cur e fz hh
 rw [zab h1,zab hh,h3]
 by_cases hm:o≤m∧m < o+vs.length
 ·rw [if_pos hm,if_pos ⟨hm.1,hm.2,by omega⟩]
 ·rw [if_neg hm,if_neg (fun hx=>hm ⟨hx.1,hx.2.1⟩)]
theorem OutM.cell {M:Nat→Prop} {w w':World} (h:OutM M w w') {a:Addr} {v:Value} (hM:¬ M a.block) (ha:w.cell? a=some v):w'.cell? a=some v:=by
 have hb:=World.block_lt_of_cell? w a ha
 unfold World.cell? at *
 rw [h.block _ hb hM]
 exact ha
theorem zg3 {P:Program} (w:World) (dT sT ty elem:TypeId) (k:Nat) (b o dLen dCap:Nat) (a:Addr) (sLen sCap:Nat) (cs:List Value)
  (hu:P.underlying dT=some (.slice elem)) (hs:(P.info? elem).map (·.size)=some k) (hn:cs.length=Nat.min sLen dLen*k)
  (hsrc:∀ j v,cs[j]?=some v→w.cell? (a.add j)=some v) (hc:∀ j,j < cs.length→(w.cell? ⟨b,o+j,none⟩).isSome=true) (hf:∀ j,j < cs.length→w.frozen? ⟨b,o+j,none⟩=false) (h1:∀ v ∈ cs,oneV v) :
  (Builtin.copy_ #[dT,sT] ty #[.slice (some ⟨b,o,none⟩) dLen dCap,.slice (some a) sLen sCap]).run P w=.ok (goInt (Nat.min sLen dLen)) (w.setCells b o cs):=by
 have hl:=run_loadCells_list (P:=P) w a cs hsrc
 have hst:=run_storeCells_cells (P:=P) b o cs 0 w (by simpa using hc) (by simpa using hf) (fun v hv=>zl7 (h1 v hv))
 cases hq:P.info? elem with
 | none=>simp [hq] at hs
 | some i =>
  have hi:i.size=k:=by simpa [hq] using hs
  rw [hn] at hl
  simp only [Nat.add_zero] at hst
  simp [Builtin.copy_,run_underlying hu,Builtin.lenOf,Builtin.firstCells,sizeOf,typeInfo,hq,hi,hl,hst]
end Go.Proofs.YtifkepnfaggkiaaGreatDoor
namespace Go.Proofs.YtifkepnfaggkiaaGreatDoor
open Go.RowKit Go.Lib
set_option linter.unusedVariables false
set_option linter.unusedSimpArgs false
abbrev INSF:FuncId:=274
abbrev OVLF:FuncId:=298
abbrev TS:TypeId:=78
abbrev TE:TypeId:=139
set_option maxHeartbeats 4000000 in
set_option maxRecDepth 1000000 in
theorem zvO (g c n i vb voff m vc:Nat) (cs vs:List Value) (w:World) (hi:i < n) (hm:0 < m) (hroom:n+m≤c) (hc63:c≤9223372036854775807) (hvb:vb≠g) (hcl:cs.length=n*2) (hvl:vs.length=m*2)
  (hcs:∀ j v,cs[j]?=some v→w.cell? ⟨g,j,none⟩=some v) (hsp:∀ j,j < (n+m)*2→(w.cell? ⟨g,j,none⟩).isSome=true) (hfz:∀ j,j < (n+m)*2→w.frozen? ⟨g,j,none⟩=false)
  (hvs:∀ j v,vs[j]?=some v→w.cell? ⟨vb,voff+j,none⟩=some v) (h1c:∀ v ∈ cs,oneV v) (h1v:∀ v ∈ vs,oneV v)
  (tA tB:TypeId) (kA kB:Nat) (hsa:w.shape? vb=some (tA,kA)) (hsb:w.shape? g=some (tB,kB)) (hkB:kB≠0) (hfa:w.frozen? ⟨vb,voff,none⟩=false) (hfe:w.frozen? ⟨vb,kA,none⟩=false) :
  Calls Tryz.prog INSF #[.slice (some ⟨g,0,none⟩) n c,.int .i64 i,.slice (some ⟨vb,voff,none⟩) m vc] w fun e w' =>
   e=.returned (.slice (some ⟨g,0,none⟩) (n+m) c)∧w'=(w.drew.setCells g ((i+m)*2) (cs.drop (i*2))).setCells g (i*2) vs:=by
 have hz1:¬ ((m:Int)=0):=by omega
 have hz2:¬ ((i:Int)=(n:Int)):=by omega
 have hsz:(Tryz.prog.info? TE).map (·.size)=some 2:=by kernel_rfl
 have hov:∀ lb cb,(callFunc OVLF #[.slice (some ⟨vb,voff,none⟩) m vc,.slice (some ⟨g,(i+m)*2,none⟩) lb cb]).run Tryz.prog w=.ok (.value (.bool false)) w:=fun lb cb=>by
  rw [run_callFunc_extern Tryz.func298 (by kernel_rfl) (by kernel_rfl) (by kernel_rfl) (e:=Extern.SlicesOverlaps.overlaps #[TS,TS] #[4]) (by kernel_rfl),
   Lib.run_overlaps_apart w TS 4 TE Tryz.underlying78 2 (fun _=>by kernel_rfl) ⟨vb,voff,none⟩ ⟨g,(i+m)*2,none⟩ m vc lb cb hvb tA tB kA kB hsa hsb hkB hfa hfe]
  rfl
 have hdl:(cs.drop (i*2)).length=(n - i)*2:=by rw [List.length_drop,hcl];omega
 have mixed:Tryz.prog.follows .mixedOrders=true:=by kernel_rfl
 have hw1:IntKind.i64.wrap ((i:Int)+(m:Int))=(i:Int)+(m:Int):=by rw [IntKind.wrap_i64];omega
 have hb1:(0:Int)≤(i:Int)+(m:Int):=by omega
 have hin:i≤n:=by omega
 have htn:((i:Int)+(m:Int)).toNat=i+m:=by omega
 have hb2:¬ (c=i+m):=by omega
 have hb3:(i:Int)≤(n:Int)+(m:Int):=by omega
 have hb4:¬ (c=i):=by omega
 have hcp1:∀ ty dc sc,(Builtin.copy_ #[TS,TS] ty #[.slice (some ⟨g,(i+m)*2,none⟩) (n+m - (i+m)) dc,.slice (some ⟨g,i*2,none⟩) (n+m - i) sc]).run Tryz.prog w.drew=.ok (goInt (Nat.min (n+m - i) (n+m - (i+m)))) (w.drew.setCells g ((i+m)*2) (cs.drop (i*2))):=fun ty dc sc =>
  zg3 w.drew TS TS ty TE 2 g ((i+m)*2) (n+m - (i+m)) dc ⟨g,i*2,none⟩ (n+m - i) sc (cs.drop (i*2)) Tryz.underlying78 hsz (by rw [hdl];simp only [Nat.min_def];split<;>omega)
   (fun j v hj=>by rw [Addr.add_lit];exact hcs (i*2+j) v (by rwa [List.getElem?_drop] at hj))
   (fun j hj=>hsp _ (by omega)) (fun j hj=>hfz _ (by omega)) (fun v hv=>h1c v (List.mem_of_mem_drop hv))
 obtain ⟨W1,hW1⟩:∃ W1,W1=w.drew.setCells g ((i+m)*2) (cs.drop (i*2)):=⟨_,rfl⟩
 have hsp1:∀ k,k < (n+m)*2→(W1.cell? ⟨g,k,none⟩).isSome=true:=fun k hk=>by
  rw [hW1]
  exact isSome_setCells g (cs.drop (i*2)) ((i+m)*2) w.drew (fun j hj=>hsp _ (by omega)) _ (hsp k hk)
 have hcp2:∀ (W:World),(∀ x,W.cell? x=W1.cell? x)→(∀ x,W.frozen? x=W1.frozen? x)→∀ ty dc,(Builtin.copy_ #[TS,TS] ty #[.slice (some ⟨g,i*2,none⟩) (n+m - i) dc,.slice (some ⟨vb,voff,none⟩) m vc]).run Tryz.prog W=.ok (goInt (Nat.min m (n+m - i))) (W.setCells g (i*2) vs):=fun W hWc hWf ty dc =>
  zg3 W TS TS ty TE 2 g (i*2) (n+m - i) dc ⟨vb,voff,none⟩ m vc vs Tryz.underlying78 hsz (by rw [hvl];simp only [Nat.min_def];split<;>omega)
   (fun j v hj=>by
    rw [Addr.add_lit,hWc,hW1,World.cell?_setCells_out g _ _ _ _ (fun h _=>absurd h hvb)]
    exact hvs j v hj)
   (fun j hj=>by rw [hWc];exact hsp1 _ (by omega)) (fun j hj=>by rw [hWf,hW1,World.frozen?_setCells];exact hfz _ (by omega)) h1v
 rw [← hW1] at hcp1
 go_enter Tryz.func274,Tryz.ntmps274
 go_wp2_with (simp only [hov])
 go_region_law_o (refine step_copy_runI rfl _ _ TS TS rfl _ _ (by simp [Act.eval,Act.put]) (by simp [Act.eval,Act.put]) (hcp1 _ _ _) ?_)
 go_wp2_with (at_builtin;refine wpList_copy_runI _ rfl _ _ TS TS rfl _ _ rfl rfl (hcp2 _ (fun _=>rfl) (fun _=>rfl) _ _) ?_)
 go_ret
 first|exact ⟨rfl,rfl⟩|exact ⟨rfl,by rw [hW1]⟩
set_option maxHeartbeats 4000000 in
set_option maxRecDepth 1000000 in
theorem zw9 (g c n vb voff m vc:Nat) (vs:List Value) (w:World) (hm:0 < m) (hroom:n+m≤c) (hc63:c≤9223372036854775807) (hvl:vs.length=m*2)
  (hsp:∀ j,j < (n+m)*2→(w.cell? ⟨g,j,none⟩).isSome=true) (hfz:∀ j,j < (n+m)*2→w.frozen? ⟨g,j,none⟩=false) (hvs:∀ j v,vs[j]?=some v→w.cell? ⟨vb,voff+j,none⟩=some v) (h1v:∀ v ∈ vs,oneV v) :
  Calls Tryz.prog INSF #[.slice (some ⟨g,0,none⟩) n c,.int .i64 n,.slice (some ⟨vb,voff,none⟩) m vc] w fun e w' =>
   e=.returned (.slice (some ⟨g,0,none⟩) (n+m) c)∧w'=w.setCells g (n*2) vs:=by
 have hz1:¬ ((m:Int)=0):=by omega
 have mixed:Tryz.prog.follows .mixedOrders=true:=by kernel_rfl
 obtain ⟨i0,hi0,hz0,hzs,hzb⟩:=info_parts (show (Tryz.prog.info? TE).map (fun i=>(i.zero,i.size,i.bytes))=some (some (.agg #[.slice none 0 0,.int .i64 0]),2,32) by kernel_rfl)
 have hsrc:Src Tryz.prog i0.size TS (.slice (some ⟨vb,voff,none⟩) m vc) m vs w:=by
  rw [hzs]
  exact Src.ofSlice w Tryz.underlying78 ⟨vb,voff,none⟩ m vc vs hvl (fun j u hj=>by rw [Addr.add_lit];exact hvs j u hj) (fun v hv=>zl7 (h1v v hv))
 have hrun:∀ ty,(Builtin.append_ #[TS,TS] ty #[.slice (some ⟨g,0,none⟩) n c,.slice (some ⟨vb,voff,none⟩) m vc]).run Tryz.prog w=.ok (.slice (some ⟨g,0,none⟩) (n+m) c) (w.setCells g (n*2) vs):=fun ty=>by
  have:=run_append_room_src w TS TS ty TE i0 Tryz.underlying78 hi0 g 0 n c _ m vs hsrc hroom (fun j hj=>by rw [hzs,Nat.zero_add];exact hsp _ (by omega)) (fun j hj=>by rw [hzs,Nat.zero_add];exact hfz _ (by omega))
  rw [hzs,Nat.zero_add] at this
  exact this
 go_enter Tryz.func274,Tryz.ntmps274
 go_wp2_with (at_builtin;refine Lib.wpList_append_run _ rfl _ _ _ _ rfl _ _ rfl rfl _ _ (hrun _) ?_)
 go_ret
 exact ⟨rfl,rfl⟩
set_option maxHeartbeats 4000000 in
set_option maxRecDepth 1000000 in
theorem zyC (base:Option Addr) (n c vb voff m vc:Nat) (cs vs:List Value) (w:World) (hm:0 < m) (hnc:n≤c) (hroom:c < n+m) (hbig:(n+m)*32≤140737488355328) (hcl:cs.length=n*2) (hvl:vs.length=m*2) (hnil:base=none→n=0)
  (hcs:∀ a,base=some a→∀ j v,cs[j]?=some v→w.cell? (a.add j)=some v) (hvs:∀ j v,vs[j]?=some v→w.cell? ⟨vb,voff+j,none⟩=some v) (h1v:∀ v ∈ vs,oneV v) :
  Calls Tryz.prog INSF #[.slice base n c,.int .i64 n,.slice (some ⟨vb,voff,none⟩) m vc] w fun e w' =>
   e=.returned (.slice (some ⟨w.heap.size,0,none⟩) (n+m) (grownCap w (n+m) c TE)) ∧
   w'=w.drew.alloc (.cells ((cs++vs).toArray++Builtin.zeroCells (Value.agg #[.slice none 0 0,.int .i64 0]).cells (grownCap w (n+m) c TE - (n+m))) TE):=by
 have mixed:Tryz.prog.follows .mixedOrders=true:=by kernel_rfl
 obtain ⟨i0,hi0,hz0,hzs,hzb⟩:=info_parts (show (Tryz.prog.info? TE).map (fun i=>(i.zero,i.size,i.bytes))=some (some (.agg #[.slice none 0 0,.int .i64 0]),2,32) by kernel_rfl)
 have hz1:¬ ((m:Int)=0):=by omega
 have hsrc:Src Tryz.prog i0.size TS (.slice (some ⟨vb,voff,none⟩) m vc) m vs w:=by
  rw [hzs]
  exact Src.ofSlice w Tryz.underlying78 ⟨vb,voff,none⟩ m vc vs hvl (fun j u hj=>by rw [Addr.add_lit];exact hvs j u hj) (fun v hv=>zl7 (h1v v hv))
 have hold:(Builtin.firstCells i0.size n (.slice base n c)).run Tryz.prog w.drew=.ok cs.toArray w.drew:=by
  rw [hzs]
  cases base with
  | none =>
   have h0:=hnil rfl
   subst h0
   rw [show cs=[] from List.length_eq_zero_iff.1 (by simpa using hcl)]
   exact run_firstCells_none w.drew 2 0 0 c
  | some a=>exact run_firstCells_some w.drew 2 n a n c cs hcl (fun j v hj=>hcs a rfl j v hj)
 have hrun:∀ ty,(Builtin.append_ #[TS,TS] ty #[.slice base n c,.slice (some ⟨vb,voff,none⟩) m vc]).run Tryz.prog w=_:=fun ty =>
  run_append_grow_src w TS TS ty TE i0 _ Tryz.underlying78 hi0 hz0 base n c cs hold _ m vs hsrc hroom (by omega) (by rw [hzb];exact growslice_fits hroom hbig)
 go_enter Tryz.func274,Tryz.ntmps274
 cases base with
 | none =>
  have h0:=hnil rfl
  subst h0
  go_wp2_with (at_builtin;refine Lib.wpList_append_run _ rfl _ _ _ _ rfl _ _ rfl rfl _ _ (hrun _) ?_)
  go_ret
  exact ⟨rfl,rfl⟩
 | some a =>
  obtain ⟨ab,ao,asp⟩:=a
  go_wp2_with (at_builtin;refine Lib.wpList_append_run _ rfl _ _ _ _ rfl _ _ rfl rfl _ _ (hrun _) ?_)
  all_goals (go_ret;exact ⟨rfl,rfl⟩)
set_option maxHeartbeats 4000000 in
set_option maxRecDepth 1000000 in
theorem zw8 (g c n i vb voff m vc:Nat) (cs vs:List Value) (w:World) (hi:i < n) (hm:0 < m) (hnc:n≤c) (hroom:c < n+m) (hbig:(n+m)*32≤140737488355328) (hcl:cs.length=n*2) (hvl:vs.length=m*2)
  (hcs:∀ j v,cs[j]?=some v→w.cell? ⟨g,j,none⟩=some v) (hvs:∀ j v,vs[j]?=some v→w.cell? ⟨vb,voff+j,none⟩=some v) (h1c:∀ v ∈ cs,oneV v) (h1v:∀ v ∈ vs,oneV v) :
  Calls Tryz.prog INSF #[.slice (some ⟨g,0,none⟩) n c,.int .i64 i,.slice (some ⟨vb,voff,none⟩) m vc] w fun e w' =>
   e=.returned (.slice (some ⟨w.heap.size,0,none⟩) (n+m) (grownCap w (n+m) c TE)) ∧
   w'=(((w.alloc (.cells ((cs.take (i*2)).toArray++Builtin.zeroCells (Value.agg #[.slice none 0 0,.int .i64 0]).cells (n+m - i)++Builtin.zeroCells (Value.agg #[.slice none 0 0,.int .i64 0]).cells (grownCap w (n+m) c TE - (n+m))) TE)).drew.setCells w.heap.size (i*2) vs).drew).setCells w.heap.size ((i+m)*2) (cs.drop (i*2)):=by
 have mixed:Tryz.prog.follows .mixedOrders=true:=by kernel_rfl
 obtain ⟨i0,hi0,hz0,hzs,hzb⟩:=info_parts (show (Tryz.prog.info? TE).map (fun i=>(i.zero,i.size,i.bytes))=some (some (.agg #[.slice none 0 0,.int .i64 0]),2,32) by kernel_rfl)
 have hz1:¬ ((m:Int)=0):=by omega
 have hz2:¬ ((i:Int)=(n:Int)):=by omega
 have hz3:(c:Int) < (n:Int)+(m:Int):=by omega
 have hsz:(Tryz.prog.info? TE).map (·.size)=some 2:=by rw [hi0];simp [hzs]
 have hbw:g < w.heap.size:=block_lt_of_cell (hcs 0 _ (List.getElem?_eq_getElem (by omega)))
 have hvw:vb < w.heap.size:=block_lt_of_cell (hvs 0 _ (List.getElem?_eq_getElem (by omega)))
 have hkk:(n:Int)+(m:Int) - (i:Int)=((n+m - i:Nat):Int):=by omega
 have hik:i+(n+m - i)=n+m:=by omega
 have hold:(Builtin.firstCells i0.size i (.slice (some ⟨g,0,none⟩) i c)).run Tryz.prog w.drew=.ok (cs.take (i*2)).toArray w.drew:=by
  rw [hzs]
  exact run_firstCells_some w.drew 2 i ⟨g,0,none⟩ i c (cs.take (i*2)) (by rw [List.length_take];omega) (fun j v hj=>by
   rw [Addr.add_lit,Nat.zero_add]
   rw [List.getElem?_take] at hj
   split at hj
   ·exact hcs j v hj
   ·cases hj)
 have hrz:∀ ty,(Builtin.append_ #[TS,3] ty #[.slice (some ⟨g,0,none⟩) i c,.int .i64 ((n:Int)+(m:Int) - (i:Int))]).run Tryz.prog w =
   .ok (.slice (some ⟨w.heap.size,0,none⟩) (n+m) (grownCap w (n+m) c TE)) (w.drew.alloc (.cells ((cs.take (i*2)).toArray++Builtin.zeroCells (Value.agg #[.slice none 0 0,.int .i64 0]).cells (n+m - i)++Builtin.zeroCells (Value.agg #[.slice none 0 0,.int .i64 0]).cells (grownCap w (n+m) c TE - (n+m))) TE)):=fun ty=>by
  have h:=Lib.run_append_grow_zeros w TS 3 ty TE i0 _ .i64 .i64 Tryz.underlying78 Tryz.underlying3 hi0 hz0 (some ⟨g,0,none⟩) i c (cs.take (i*2)) hold (n+m - i) (by omega) (by omega) (by omega) (by omega) (by rw [hzb];omega) (by rw [hzb,hik];exact growslice_fits hroom hbig)
  rw [hik] at h
  rw [hkk]
  exact h
 obtain ⟨G,hG⟩:∃ G,G=grownCap w (n+m) c TE:=⟨_,rfl⟩
 obtain ⟨ROW,hROW⟩:∃ ROW:Array Value,ROW=(cs.take (i*2)).toArray++Builtin.zeroCells (Value.agg #[.slice none 0 0,.int .i64 0]).cells (n+m - i)++Builtin.zeroCells (Value.agg #[.slice none 0 0,.int .i64 0]).cells (G - (n+m)):=⟨_,rfl⟩
 rw [← hG] at hrz ⊢
 rw [← hROW] at hrz ⊢
 have hRl:(n+m)*2≤ROW.size:=by
  rw [hROW]
  have e2:(Value.agg #[.slice none 0 0,.int .i64 0]).cells.size=2:=rfl
  simp only [Array.size_append,Builtin.zeroCells,Array.size_map,Array.size_range,e2,List.size_toArray,List.length_take]
  omega
 obtain ⟨W1,hW1⟩:∃ W1,W1=w.drew.alloc (.cells ROW TE):=⟨_,rfl⟩
 rw [← hW1] at hrz
 have hN:∀ j,j < (n+m)*2→(W1.cell? ⟨w.heap.size,j,none⟩).isSome=true:=fun j hj=>by
  rw [hW1,World.cell?_alloc_at (w:=w.drew) ROW _ w.heap.size j rfl,Array.getElem?_eq_getElem (by omega)];rfl
 have hNf:∀ j,W1.frozen? ⟨w.heap.size,j,none⟩=false:=fun j=>by rw [hW1];exact World.frozen?_alloc_at (w:=w.drew) ROW _ w.heap.size j rfl
 have hOb:∀ j v,w.cell? ⟨g,j,none⟩=some v→W1.cell? ⟨g,j,none⟩=some v:=fun j v h=>by rw [hW1,World.cell?_alloc_past (w:=w.drew) _ g j hbw];exact h
 have hOv:∀ j v,w.cell? ⟨vb,j,none⟩=some v→W1.cell? ⟨vb,j,none⟩=some v:=fun j v h=>by rw [hW1,World.cell?_alloc_past (w:=w.drew) _ vb j hvw];exact h
 have hcpA:∀ (W:World),(∀ x,W.cell? x=W1.cell? x)→(∀ x,W.frozen? x=W1.frozen? x)→∀ ty dc,(Builtin.copy_ #[TS,TS] ty #[.slice (some ⟨w.heap.size,i*2,none⟩) (n+m - i) dc,.slice (some ⟨vb,voff,none⟩) m vc]).run Tryz.prog W=.ok (goInt (Nat.min m (n+m - i))) (W.setCells w.heap.size (i*2) vs):=fun W hWc hWf ty dc =>
  zg3 W TS TS ty TE 2 w.heap.size (i*2) (n+m - i) dc ⟨vb,voff,none⟩ m vc vs Tryz.underlying78 hsz (by rw [hvl];simp only [Nat.min_def];split<;>omega)
   (fun j v hj=>by rw [Addr.add_lit,hWc];exact hOv _ v (hvs j v hj))
   (fun j hj=>by rw [hWc];exact hN _ (by omega)) (fun j hj=>by rw [hWf];exact hNf _) h1v
 have hGn:n+m≤G:=by rw [hG];exact grownCap_ge w _ _ _
 have hG63:G≤9223372036854775807:=by
  have:=grownCap_le_maxLen w (n+m) c TE (by unfold maxLen;omega)
  rw [← hG] at this
  unfold maxLen at this
  omega
 have hGi:¬ (G=i):=by omega
 have hGim:¬ (G=i+m):=by omega
 have hci:¬ (c=i):=by omega
 have hbN:g≠w.heap.size:=by omega
 have hdl:(cs.drop (i*2)).length=(n - i)*2:=by rw [List.length_drop,hcl];omega
 have hcpB:∀ (W:World),(∀ x,W.cell? x=(W1.setCells w.heap.size (i*2) vs).cell? x)→(∀ x,W.frozen? x=(W1.setCells w.heap.size (i*2) vs).frozen? x)→∀ ty dc sc,(Builtin.copy_ #[TS,TS] ty #[.slice (some ⟨w.heap.size,(i+m)*2,none⟩) (n+m - (i+m)) dc,.slice (some ⟨g,i*2,none⟩) (n - i) sc]).run Tryz.prog W=.ok (goInt (Nat.min (n - i) (n+m - (i+m)))) (W.setCells w.heap.size ((i+m)*2) (cs.drop (i*2))):=fun W hWc hWf ty dc sc =>
  zg3 W TS TS ty TE 2 w.heap.size ((i+m)*2) (n+m - (i+m)) dc ⟨g,i*2,none⟩ (n - i) sc (cs.drop (i*2)) Tryz.underlying78 hsz (by rw [hdl];simp only [Nat.min_def];split<;>omega)
   (fun j v hj=>by
    rw [Addr.add_lit,hWc,World.cell?_setCells_out _ _ _ _ _ (fun h _=>absurd h hbN)]
    exact hOb _ v (hcs (i*2+j) v (by rwa [List.getElem?_drop] at hj)))
   (fun j hj=>by rw [hWc];exact isSome_setCells w.heap.size vs (i*2) W1 (fun t ht=>hN _ (by omega)) _ (hN _ (by omega)))
   (fun j hj=>by rw [hWf,World.frozen?_setCells];exact hNf _) (fun v hv=>h1c v (List.mem_of_mem_drop hv))
 subst hW1
 have hE1:∀ x,((w.alloc (.cells ROW TE)).drew).cell? x=(w.drew.alloc (.cells ROW TE)).cell? x:=fun x=>rfl
 have hE2:∀ x,((w.alloc (.cells ROW TE)).drew).frozen? x=(w.drew.alloc (.cells ROW TE)).frozen? x:=fun x=>rfl
 have hF1:∀ x,(((w.alloc (.cells ROW TE)).drew.setCells w.heap.size (i*2) vs).drew).cell? x=((w.drew.alloc (.cells ROW TE)).setCells w.heap.size (i*2) vs).cell? x:=fun x=>rfl
 have hF2:∀ x,(((w.alloc (.cells ROW TE)).drew.setCells w.heap.size (i*2) vs).drew).frozen? x=((w.drew.alloc (.cells ROW TE)).setCells w.heap.size (i*2) vs).frozen? x:=fun x=>rfl
 have hw1:IntKind.i64.wrap ((i:Int)+(m:Int))=(i:Int)+(m:Int):=by rw [IntKind.wrap_i64];omega
 have hb1:(0:Int)≤(i:Int)+(m:Int):=by omega
 have hin:i≤n:=by omega
 have htn:((i:Int)+(m:Int)).toNat=i+m:=by omega
 have hb3:(i:Int)≤(n:Int):=by omega
 clear hkk hik hold hROW hG hRl
 go_enter Tryz.func274,Tryz.ntmps274
 go_wp2_with (first
  | (at_builtin;refine Lib.wpList_append_run _ rfl _ _ _ _ rfl _ _ rfl rfl _ _ (hrz _) ?_)
  | (at_builtin;refine wpList_copy_runI _ rfl _ _ TS TS rfl _ _ rfl rfl (hcpA _ hE1 hE2 _ _) ?_)
  | (at_builtin;refine wpList_copy_runI _ rfl _ _ TS TS rfl _ _ rfl rfl (hcpB _ (fun _=>rfl) (fun _=>rfl) _ _ _) ?_))
 go_region_law_o (refine step_copy_runI rfl _ _ TS TS rfl (.slice (some ⟨w.heap.size,(i+m)*2,none⟩) (n+m - (i+m)) (G - (i+m))) (.slice (some ⟨g,i*2,none⟩) (n - i) (c - i)) (by simp [Act.eval,Act.put]) (by simp [Act.eval,Act.put]) (hcpB _ hF1 hF2 3 (G - (i+m)) (c - i)) ?_)
 go_wp2
 go_ret
 exact ⟨rfl,rfl⟩
end Go.Proofs.YtifkepnfaggkiaaGreatDoor
