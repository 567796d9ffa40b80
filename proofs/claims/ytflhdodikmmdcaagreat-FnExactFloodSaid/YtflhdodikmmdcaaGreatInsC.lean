import Derived.Test.YtflhdodikmmdcaaGreatInj
import Derived.Test.YtflhdodikmmdcaaGreatProg
import Derived.WalkKit
import Derived.Shelf.RegionOpenPlain
import Derived.Lib.SliceRun
import Derived.Lib.JoinLaws
import Derived.Lib.Overlaps
import Derived.Lib.AppendZerosOnto
import Derived.Laws.Externs
import Derived.Laws.NewBlocks
import Derived.Shelf.Spec.SlicesInsert
import Derived.Test.YtflhdodikmmdcaaGreatExG
namespace Go.Proofs.YtflhdodikmmdcaaGreat
open Go.RowKit Go.Lib
set_option linter.unusedVariables false
set_option linter.unusedSimpArgs false
abbrev INSF:FuncId:=161
abbrev OVLF:FuncId:=191
abbrev TS:TypeId:=145
abbrev TE:TypeId:=180
set_option maxHeartbeats 4000000 in
set_option maxRecDepth 1000000 in
theorem zy7 (g oo c n i vb voff m vc:Nat) (cs vs:List Value) (w:World) (hi:i < n) (hm:0 < m) (hroom:n+m≤c) (hc63:c≤9223372036854775807) (hvb:vb≠g) (hcl:cs.length=n*3) (hvl:vs.length=m*3)
  (hcs:∀ j v,cs[j]?=some v→w.cell? ⟨g,oo+j,none⟩=some v) (hsp:∀ j,oo≤j→j < oo+(n+m)*3→(w.cell? ⟨g,j,none⟩).isSome=true) (hfz:∀ j,oo≤j→j < oo+(n+m)*3→w.frozen? ⟨g,j,none⟩=false)
  (hvs:∀ j v,vs[j]?=some v→w.cell? ⟨vb,voff+j,none⟩=some v) (h1c:∀ v ∈ cs,oneV v) (h1v:∀ v ∈ vs,oneV v)
  (tA tB:TypeId) (kA kB:Nat) (hsa:w.shape? vb=some (tA,kA)) (hsb:w.shape? g=some (tB,kB)) (hkB:kB≠0) (hfa:w.frozen? ⟨vb,voff,none⟩=false) (hfe:w.frozen? ⟨vb,kA,none⟩=false) :
  Calls Tryz.prog INSF #[.slice (some ⟨g,oo,none⟩) n c,.int .i64 i,.slice (some ⟨vb,voff,none⟩) m vc] w fun e w' =>
   e=.returned (.slice (some ⟨g,oo,none⟩) (n+m) c)∧w'=(w.drew.setCells g (oo+(i+m)*3) (cs.drop (i*3))).setCells g (oo+i*3) vs:=by
 have hz1:¬ ((m:Int)=0):=by omega
 have hz2:¬ ((i:Int)=(n:Int)):=by omega
 have hsz:(Tryz.prog.info? TE).map (·.size)=some 3:=by kernel_rfl
 have hov:∀ lb cb,(callFunc OVLF #[.slice (some ⟨vb,voff,none⟩) m vc,.slice (some ⟨g,oo+(i+m)*3,none⟩) lb cb]).run Tryz.prog w=.ok (.value (.bool false)) w:=fun lb cb=>by
  rw [run_callFunc_extern Tryz.func191 (by kernel_rfl) (by kernel_rfl) (by kernel_rfl) (e:=Extern.SlicesOverlaps.overlaps #[TS,TS] #[4]) (by kernel_rfl),
   Lib.run_overlaps_apart w TS 4 TE Tryz.underlying145 3 (fun _=>by kernel_rfl) ⟨vb,voff,none⟩ ⟨g,oo+(i+m)*3,none⟩ m vc lb cb hvb tA tB kA kB hsa hsb hkB hfa hfe]
  rfl
 have hdl:(cs.drop (i*3)).length=(n - i)*3:=by rw [yam,hcl];omega
 have mixed:Tryz.prog.follows .mixedOrders=true:=by kernel_rfl
 have hw1:IntKind.i64.wrap ((i:Int)+(m:Int))=(i:Int)+(m:Int):=by rw [IntKind.wrap_i64];omega
 have hb1:(0:Int)≤(i:Int)+(m:Int):=by omega
 have hin:i≤n:=by omega
 have htn:((i:Int)+(m:Int)).toNat=i+m:=by omega
 have hb2:¬ (c=i+m):=by omega
 have hb3:(i:Int)≤(n:Int)+(m:Int):=by omega
 have hb4:¬ (c=i):=by omega
 have hcp1:∀ ty dc sc,(Builtin.copy_ #[TS,TS] ty #[.slice (some ⟨g,oo+(i+m)*3,none⟩) (n+m - (i+m)) dc,.slice (some ⟨g,oo+i*3,none⟩) (n+m - i) sc]).run Tryz.prog w.drew=.ok (goInt (Nat.min (n+m - i) (n+m - (i+m)))) (w.drew.setCells g (oo+(i+m)*3) (cs.drop (i*3))):=fun ty dc sc =>
  zi7 w.drew TS TS ty TE 3 g (oo+(i+m)*3) (n+m - (i+m)) dc ⟨g,oo+i*3,none⟩ (n+m - i) sc (cs.drop (i*3)) Tryz.underlying145 hsz (by rw [hdl];simp only [ycp];split<;>omega)
   (fun j v hj=>by rw [Addr.add_lit,yaf];exact hcs (i*3+j) v (by rwa [yad] at hj))
   (fun j hj=>hsp _ (by omega) (by omega)) (fun j hj=>hfz _ (by omega) (by omega)) (fun v hv=>h1c v (yaJ hv))
 obtain ⟨W1,hW1⟩:∃ W1,W1=w.drew.setCells g (oo+(i+m)*3) (cs.drop (i*3)):=⟨_,rfl⟩
 have hsp1:∀ k,oo≤k→k < oo+(n+m)*3→(W1.cell? ⟨g,k,none⟩).isSome=true:=fun k hk0 hk=>by
  rw [hW1]
  exact isSome_setCells g (cs.drop (i*3)) (oo+(i+m)*3) w.drew (fun j hj=>hsp _ (by omega) (by omega)) _ (hsp k hk0 hk)
 have hcp2:∀ (W:World),(∀ x,W.cell? x=W1.cell? x)→(∀ x,W.frozen? x=W1.frozen? x)→∀ ty dc,(Builtin.copy_ #[TS,TS] ty #[.slice (some ⟨g,oo+i*3,none⟩) (n+m - i) dc,.slice (some ⟨vb,voff,none⟩) m vc]).run Tryz.prog W=.ok (goInt (Nat.min m (n+m - i))) (W.setCells g (oo+i*3) vs):=fun W hWc hWf ty dc =>
  zi7 W TS TS ty TE 3 g (oo+i*3) (n+m - i) dc ⟨vb,voff,none⟩ m vc vs Tryz.underlying145 hsz (by rw [hvl];simp only [ycp];split<;>omega)
   (fun j v hj=>by
    rw [Addr.add_lit,hWc,hW1,World.cell?_setCells_out g _ _ _ _ (fun h _=>absurd h hvb)]
    exact hvs j v hj)
   (fun j hj=>by rw [hWc];exact hsp1 _ (by omega) (by omega)) (fun j hj=>by rw [hWf,hW1,World.frozen?_setCells];exact hfz _ (by omega) (by omega)) h1v
 rw [← hW1] at hcp1
 go_enter Tryz.func161,Tryz.ntmps161
 go_wp2_with (simp only [hov])
 go_region_law_o (refine step_copy_runI rfl _ _ TS TS rfl _ _ (by simp [Act.eval,Act.put]) (by simp [Act.eval,Act.put]) (hcp1 _ _ _) ?_)
 go_wp2_with (at_builtin;refine wpList_copy_runI _ rfl _ _ TS TS rfl _ _ rfl rfl (hcp2 _ (fun _=>rfl) (fun _=>rfl) _ _) ?_)
 go_ret
 first|exact ⟨rfl,rfl⟩|exact ⟨rfl,by rw [hW1]⟩
set_option maxHeartbeats 4000000 in
set_option maxRecDepth 1000000 in
theorem zAr (g oo c n vb voff m vc:Nat) (vs:List Value) (w:World) (hm:0 < m) (hroom:n+m≤c) (hc63:c≤9223372036854775807) (hvl:vs.length=m*3)
  (hsp:∀ j,oo≤j→j < oo+(n+m)*3→(w.cell? ⟨g,j,none⟩).isSome=true) (hfz:∀ j,oo≤j→j < oo+(n+m)*3→w.frozen? ⟨g,j,none⟩=false) (hvs:∀ j v,vs[j]?=some v→w.cell? ⟨vb,voff+j,none⟩=some v) (h1v:∀ v ∈ vs,oneV v) :
  Calls Tryz.prog INSF #[.slice (some ⟨g,oo,none⟩) n c,.int .i64 n,.slice (some ⟨vb,voff,none⟩) m vc] w fun e w' =>
   e=.returned (.slice (some ⟨g,oo,none⟩) (n+m) c)∧w'=w.setCells g (oo+n*3) vs:=by
 have hz1:¬ ((m:Int)=0):=by omega
 have mixed:Tryz.prog.follows .mixedOrders=true:=by kernel_rfl
 obtain ⟨i0,hi0,hz0,hzs,hzb⟩:=info_parts (show (Tryz.prog.info? TE).map (fun i=>(i.zero,i.size,i.bytes))=some (some (.agg #[.int .i64 0,.int .i64 0,.int .i64 0]),3,24) by kernel_rfl)
 have hsrc:Src Tryz.prog i0.size TS (.slice (some ⟨vb,voff,none⟩) m vc) m vs w:=by
  rw [hzs]
  exact Src.ofSlice w Tryz.underlying145 ⟨vb,voff,none⟩ m vc vs hvl (fun j u hj=>by rw [Addr.add_lit];exact hvs j u hj) (fun v hv=>zjo (h1v v hv))
 have hrun:∀ ty,(Builtin.append_ #[TS,TS] ty #[.slice (some ⟨g,oo,none⟩) n c,.slice (some ⟨vb,voff,none⟩) m vc]).run Tryz.prog w=.ok (.slice (some ⟨g,oo,none⟩) (n+m) c) (w.setCells g (oo+n*3) vs):=fun ty=>by
  have:=run_append_room_src w TS TS ty TE i0 Tryz.underlying145 hi0 g oo n c _ m vs hsrc hroom (fun j hj=>by rw [hzs];exact hsp _ (by omega) (by omega)) (fun j hj=>by rw [hzs];exact hfz _ (by omega) (by omega))
  rw [hzs] at this
  exact this
 go_enter Tryz.func161,Tryz.ntmps161
 go_wp2_with (at_builtin;refine Lib.wpList_append_run _ rfl _ _ _ _ rfl _ _ rfl rfl _ _ (hrun _) ?_)
 go_ret
 exact ⟨rfl,rfl⟩
set_option maxHeartbeats 4000000 in
set_option maxRecDepth 1000000 in
theorem zBM (base:Option Addr) (n c vb voff m vc:Nat) (cs vs:List Value) (w:World) (hm:0 < m) (hnc:n≤c) (hroom:c < n+m) (hbig:(n+m)*24≤140737488355328) (hcl:cs.length=n*3) (hvl:vs.length=m*3) (hnil:base=none→n=0)
  (hcs:∀ a,base=some a→∀ j v,cs[j]?=some v→w.cell? (a.add j)=some v) (hvs:∀ j v,vs[j]?=some v→w.cell? ⟨vb,voff+j,none⟩=some v) (h1v:∀ v ∈ vs,oneV v) :
  Calls Tryz.prog INSF #[.slice base n c,.int .i64 n,.slice (some ⟨vb,voff,none⟩) m vc] w fun e w' =>
   e=.returned (.slice (some ⟨w.heap.size,0,none⟩) (n+m) (grownCap w (n+m) c TE)) ∧
   w'=w.drew.alloc (.cells ((cs++vs).toArray++Builtin.zeroCells (Value.agg #[.int .i64 0,.int .i64 0,.int .i64 0]).cells (grownCap w (n+m) c TE - (n+m))) TE):=by
 have mixed:Tryz.prog.follows .mixedOrders=true:=by kernel_rfl
 obtain ⟨i0,hi0,hz0,hzs,hzb⟩:=info_parts (show (Tryz.prog.info? TE).map (fun i=>(i.zero,i.size,i.bytes))=some (some (.agg #[.int .i64 0,.int .i64 0,.int .i64 0]),3,24) by kernel_rfl)
 have hz1:¬ ((m:Int)=0):=by omega
 have hsrc:Src Tryz.prog i0.size TS (.slice (some ⟨vb,voff,none⟩) m vc) m vs w:=by
  rw [hzs]
  exact Src.ofSlice w Tryz.underlying145 ⟨vb,voff,none⟩ m vc vs hvl (fun j u hj=>by rw [Addr.add_lit];exact hvs j u hj) (fun v hv=>zjo (h1v v hv))
 have hold:(Builtin.firstCells i0.size n (.slice base n c)).run Tryz.prog w.drew=.ok cs.toArray w.drew:=by
  rw [hzs]
  cases base with
  | none =>
   have h0:=hnil rfl
   subst h0
   rw [show cs=[] from yay.1 (by simpa using hcl)]
   exact run_firstCells_none w.drew 3 0 0 c
  | some a=>exact run_firstCells_some w.drew 3 n a n c cs hcl (fun j v hj=>hcs a rfl j v hj)
 have hrun:∀ ty,(Builtin.append_ #[TS,TS] ty #[.slice base n c,.slice (some ⟨vb,voff,none⟩) m vc]).run Tryz.prog w=_:=fun ty =>
  run_append_grow_src w TS TS ty TE i0 _ Tryz.underlying145 hi0 hz0 base n c cs hold _ m vs hsrc hroom (by omega) (by rw [hzb];exact growslice_fits hroom hbig)
 go_enter Tryz.func161,Tryz.ntmps161
 cases base with
 | none =>
  have h0:=hnil rfl
  subst h0
  go_wp2_with (at_builtin;refine Lib.wpList_append_run _ rfl _ _ _ _ rfl _ _ rfl rfl _ _ (hrun _) ?_)
  go_ret
  exact ⟨rfl,rfl⟩
 | some a =>
  obtain ⟨ab,ao,asp⟩:=a
  go_wp2_with (at_builtin;refine Lib.wpList_append_run _ rfl _ _ _ _ rfl _ _ rfl rfl _ _ (hrun _) ?_)
  all_goals (go_ret;exact ⟨rfl,rfl⟩)
set_option maxHeartbeats 4000000 in
set_option maxRecDepth 1000000 in
theorem zAq (g oo c n i vb voff m vc:Nat) (cs vs:List Value) (w:World) (hi:i < n) (hm:0 < m) (hnc:n≤c) (hroom:c < n+m) (hbig:(n+m)*24≤140737488355328) (hcl:cs.length=n*3) (hvl:vs.length=m*3)
  (hcs:∀ j v,cs[j]?=some v→w.cell? ⟨g,oo+j,none⟩=some v) (hvs:∀ j v,vs[j]?=some v→w.cell? ⟨vb,voff+j,none⟩=some v) (h1c:∀ v ∈ cs,oneV v) (h1v:∀ v ∈ vs,oneV v) :
  Calls Tryz.prog INSF #[.slice (some ⟨g,oo,none⟩) n c,.int .i64 i,.slice (some ⟨vb,voff,none⟩) m vc] w fun e w' =>
   e=.returned (.slice (some ⟨w.heap.size,0,none⟩) (n+m) (grownCap w (n+m) c TE)) ∧
   w'=(((w.alloc (.cells ((cs.take (i*3)).toArray++Builtin.zeroCells (Value.agg #[.int .i64 0,.int .i64 0,.int .i64 0]).cells (n+m - i)++Builtin.zeroCells (Value.agg #[.int .i64 0,.int .i64 0,.int .i64 0]).cells (grownCap w (n+m) c TE - (n+m))) TE)).drew.setCells w.heap.size (i*3) vs).drew).setCells w.heap.size ((i+m)*3) (cs.drop (i*3)):=by
 have mixed:Tryz.prog.follows .mixedOrders=true:=by kernel_rfl
 obtain ⟨i0,hi0,hz0,hzs,hzb⟩:=info_parts (show (Tryz.prog.info? TE).map (fun i=>(i.zero,i.size,i.bytes))=some (some (.agg #[.int .i64 0,.int .i64 0,.int .i64 0]),3,24) by kernel_rfl)
 have hz1:¬ ((m:Int)=0):=by omega
 have hz2:¬ ((i:Int)=(n:Int)):=by omega
 have hz3:(c:Int) < (n:Int)+(m:Int):=by omega
 have hsz:(Tryz.prog.info? TE).map (·.size)=some 3:=by rw [hi0];simp [hzs]
 have hbw:g < w.heap.size:=block_lt_of_cell (hcs 0 _ (yb (by omega)))
 have hvw:vb < w.heap.size:=block_lt_of_cell (hvs 0 _ (yb (by omega)))
 have hkk:(n:Int)+(m:Int) - (i:Int)=((n+m - i:Nat):Int):=by omega
 have hik:i+(n+m - i)=n+m:=by omega
 have hold:(Builtin.firstCells i0.size i (.slice (some ⟨g,oo,none⟩) i c)).run Tryz.prog w.drew=.ok (cs.take (i*3)).toArray w.drew:=by
  rw [hzs]
  exact run_firstCells_some w.drew 3 i ⟨g,oo,none⟩ i c (cs.take (i*3)) (by rw [yX];omega) (fun j v hj=>by
   rw [Addr.add_lit]
   rw [yaH] at hj
   split at hj
   ·exact hcs j v hj
   ·cases hj)
 have hrz:∀ ty,(Builtin.append_ #[TS,3] ty #[.slice (some ⟨g,oo,none⟩) i c,.int .i64 ((n:Int)+(m:Int) - (i:Int))]).run Tryz.prog w =
   .ok (.slice (some ⟨w.heap.size,0,none⟩) (n+m) (grownCap w (n+m) c TE)) (w.drew.alloc (.cells ((cs.take (i*3)).toArray++Builtin.zeroCells (Value.agg #[.int .i64 0,.int .i64 0,.int .i64 0]).cells (n+m - i)++Builtin.zeroCells (Value.agg #[.int .i64 0,.int .i64 0,.int .i64 0]).cells (grownCap w (n+m) c TE - (n+m))) TE)):=fun ty=>by
  have h:=Lib.run_append_grow_zeros w TS 3 ty TE i0 _ .i64 .i64 Tryz.underlying145 Tryz.underlying3 hi0 hz0 (some ⟨g,oo,none⟩) i c (cs.take (i*3)) hold (n+m - i) (by omega) (by omega) (by omega) (by omega) (by rw [hzb];omega) (by rw [hzb,hik];exact growslice_fits hroom hbig)
  rw [hik] at h
  rw [hkk]
  exact h
 obtain ⟨G,hG⟩:∃ G,G=grownCap w (n+m) c TE:=⟨_,rfl⟩
 obtain ⟨ROW,hROW⟩:∃ ROW:Array Value,ROW=(cs.take (i*3)).toArray++Builtin.zeroCells (Value.agg #[.int .i64 0,.int .i64 0,.int .i64 0]).cells (n+m - i)++Builtin.zeroCells (Value.agg #[.int .i64 0,.int .i64 0,.int .i64 0]).cells (G - (n+m)):=⟨_,rfl⟩
 rw [← hG] at hrz ⊢
 rw [← hROW] at hrz ⊢
 have hRl:(n+m)*3≤ROW.size:=by
  rw [hROW]
  have e2:(Value.agg #[.int .i64 0,.int .i64 0,.int .i64 0]).cells.size=3:=rfl
  simp only [ybw,Builtin.zeroCells,Array.size_map,Array.size_range,e2,ya2,yX]
  omega
 obtain ⟨W1,hW1⟩:∃ W1,W1=w.drew.alloc (.cells ROW TE):=⟨_,rfl⟩
 rw [← hW1] at hrz
 have hN:∀ j,j < (n+m)*3→(W1.cell? ⟨w.heap.size,j,none⟩).isSome=true:=fun j hj=>by
  rw [hW1,World.cell?_alloc_at (w:=w.drew) ROW _ w.heap.size j rfl,yS (by omega)];rfl
 have hNf:∀ j,W1.frozen? ⟨w.heap.size,j,none⟩=false:=fun j=>by rw [hW1];exact World.frozen?_alloc_at (w:=w.drew) ROW _ w.heap.size j rfl
 have hOb:∀ j v,w.cell? ⟨g,j,none⟩=some v→W1.cell? ⟨g,j,none⟩=some v:=fun j v h=>by rw [hW1,World.cell?_alloc_past (w:=w.drew) _ g j hbw];exact h
 have hOv:∀ j v,w.cell? ⟨vb,j,none⟩=some v→W1.cell? ⟨vb,j,none⟩=some v:=fun j v h=>by rw [hW1,World.cell?_alloc_past (w:=w.drew) _ vb j hvw];exact h
 have hcpA:∀ (W:World),(∀ x,W.cell? x=W1.cell? x)→(∀ x,W.frozen? x=W1.frozen? x)→∀ ty dc,(Builtin.copy_ #[TS,TS] ty #[.slice (some ⟨w.heap.size,i*3,none⟩) (n+m - i) dc,.slice (some ⟨vb,voff,none⟩) m vc]).run Tryz.prog W=.ok (goInt (Nat.min m (n+m - i))) (W.setCells w.heap.size (i*3) vs):=fun W hWc hWf ty dc =>
  zi7 W TS TS ty TE 3 w.heap.size (i*3) (n+m - i) dc ⟨vb,voff,none⟩ m vc vs Tryz.underlying145 hsz (by rw [hvl];simp only [ycp];split<;>omega)
   (fun j v hj=>by rw [Addr.add_lit,hWc];exact hOv _ v (hvs j v hj))
   (fun j hj=>by rw [hWc];exact hN _ (by omega)) (fun j hj=>by rw [hWf];exact hNf _) h1v
 have hGn:n+m≤G:=by rw [hG];exact grownCap_ge w _ _ _
 have hG63:G≤9223372036854775807:=by
  have:=grownCap_le_maxLen w (n+m) c TE (by unfold maxLen;omega)
  rw [← hG] at this
  unfold maxLen at this
  omega
 have hGi:¬ (G=i):=by omega
 have hGim:¬ (G=i+m):=by omega
 have hci:¬ (c=i):=by omega
 have hbN:g≠w.heap.size:=by omega
 have hdl:(cs.drop (i*3)).length=(n - i)*3:=by rw [yam,hcl];omega
 have hcpB:∀ (W:World),(∀ x,W.cell? x=(W1.setCells w.heap.size (i*3) vs).cell? x)→(∀ x,W.frozen? x=(W1.setCells w.heap.size (i*3) vs).frozen? x)→∀ ty dc sc,(Builtin.copy_ #[TS,TS] ty #[.slice (some ⟨w.heap.size,(i+m)*3,none⟩) (n+m - (i+m)) dc,.slice (some ⟨g,oo+i*3,none⟩) (n - i) sc]).run Tryz.prog W=.ok (goInt (Nat.min (n - i) (n+m - (i+m)))) (W.setCells w.heap.size ((i+m)*3) (cs.drop (i*3))):=fun W hWc hWf ty dc sc =>
  zi7 W TS TS ty TE 3 w.heap.size ((i+m)*3) (n+m - (i+m)) dc ⟨g,oo+i*3,none⟩ (n - i) sc (cs.drop (i*3)) Tryz.underlying145 hsz (by rw [hdl];simp only [ycp];split<;>omega)
   (fun j v hj=>by
    rw [Addr.add_lit,hWc,World.cell?_setCells_out _ _ _ _ _ (fun h _=>absurd h hbN)]
    rw [yaf];exact hOb _ v (hcs (i*3+j) v (by rwa [yad] at hj)))
   (fun j hj=>by rw [hWc];exact isSome_setCells w.heap.size vs (i*3) W1 (fun t ht=>hN _ (by omega)) _ (hN _ (by omega)))
   (fun j hj=>by rw [hWf,World.frozen?_setCells];exact hNf _) (fun v hv=>h1c v (yaJ hv))
 subst hW1
 have hE1:∀ x,((w.alloc (.cells ROW TE)).drew).cell? x=(w.drew.alloc (.cells ROW TE)).cell? x:=fun x=>rfl
 have hE2:∀ x,((w.alloc (.cells ROW TE)).drew).frozen? x=(w.drew.alloc (.cells ROW TE)).frozen? x:=fun x=>rfl
 have hF1:∀ x,(((w.alloc (.cells ROW TE)).drew.setCells w.heap.size (i*3) vs).drew).cell? x=((w.drew.alloc (.cells ROW TE)).setCells w.heap.size (i*3) vs).cell? x:=fun x=>rfl
 have hF2:∀ x,(((w.alloc (.cells ROW TE)).drew.setCells w.heap.size (i*3) vs).drew).frozen? x=((w.drew.alloc (.cells ROW TE)).setCells w.heap.size (i*3) vs).frozen? x:=fun x=>rfl
 have hw1:IntKind.i64.wrap ((i:Int)+(m:Int))=(i:Int)+(m:Int):=by rw [IntKind.wrap_i64];omega
 have hb1:(0:Int)≤(i:Int)+(m:Int):=by omega
 have hin:i≤n:=by omega
 have htn:((i:Int)+(m:Int)).toNat=i+m:=by omega
 have hb3:(i:Int)≤(n:Int):=by omega
 clear hkk hik hold hROW hG hRl
 go_enter Tryz.func161,Tryz.ntmps161
 go_wp2_with (first
  | (at_builtin;refine Lib.wpList_append_run _ rfl _ _ _ _ rfl _ _ rfl rfl _ _ (hrz _) ?_)
  | (at_builtin;refine wpList_copy_runI _ rfl _ _ TS TS rfl _ _ rfl rfl (hcpA _ hE1 hE2 _ _) ?_)
  | (at_builtin;refine wpList_copy_runI _ rfl _ _ TS TS rfl _ _ rfl rfl (hcpB _ (fun _=>rfl) (fun _=>rfl) _ _ _) ?_))
 go_region_law_o (refine step_copy_runI rfl _ _ TS TS rfl (.slice (some ⟨w.heap.size,(i+m)*3,none⟩) (n+m - (i+m)) (G - (i+m))) (.slice (some ⟨g,oo+i*3,none⟩) (n - i) (c - i)) (by simp [Act.eval,Act.put]) (by simp [Act.eval,Act.put]) (hcpB _ hF1 hF2 3 (G - (i+m)) (c - i)) ?_)
 go_wp2
 go_ret
 exact ⟨rfl,rfl⟩
end Go.Proofs.YtflhdodikmmdcaaGreat
namespace Go.Proofs.YtflhdodikmmdcaaGreat
open Go.RowKit
set_option linter.unusedVariables false
set_option linter.unusedSimpArgs false
set_option maxRecDepth 100000
structure Laid (w w':World) (g:Nat) (cells:List Value) (n:Nat) (e':Ending):Prop where
 ex:∃ (g' o' c:Nat) (cur:Array Value),e'=.returned (.slice (some ⟨g',o',none⟩) n c)∧(g'=g∨(w.heap.size≤g'∧g' < w'.heap.size))∧w'.heap[g']?=some (.cells cur TE (0,0))∧cur.size=o'+c*3∧n≤c∧c≤maxLen∧∀ (j:Nat) (v:Value),cells[j]?=some v→cur[o'+j]?=some v
 out:OutM (fun b=>b=g) w w'
theorem zup {w:World} {g n c:Nat} {cells:List Value} {row:Array Value} {w':World} {e':Ending} (he:e'=.returned (.slice (some ⟨w.heap.size,0,none⟩) n c)) (hx:Ext w w') (hr:w'.heap[w.heap.size]?=some (.cells row TE (0,0))) (hs:row.size=c*3) (hn:n≤c) (hc:c≤maxLen) (hj:∀ (j:Nat) (v:Value),cells[j]?=some v→row[j]?=some v):Laid w w' g cells n e' :=
 ⟨⟨w.heap.size,0,c,row,he,.inr ⟨yz _,(yn.1 hr).1⟩,hr,by rw [hs,yaq],hn,hc,fun j v h=>by rw [yaq];exact hj j v h⟩,OutM.ext hx⟩
theorem zua (w:World):Ext w w.drew:=(Ext.refl w).drew
theorem zql {w w1:World} (h:Ext w w1) (o:Nat) (vs:List Value) {b:Nat} (hb:w.heap.size≤b):Ext w (w1.setCells b o vs):=by
 induction vs generalizing w1 o with
 | nil=>exact h
 | cons v vs ih=>exact ih (h.setCell hb v) (o+1)
theorem zBN (g oo c n i vb voff vc:Nat) (base:Option Addr) (cs vs:List Value) (w:World) (hi:i≤n) (hn40:n < 2 ^ 40) (hbase:(base=none∧n=0∧c=0)∨(base=some ⟨g,oo,none⟩∧∃ cur,w.heap[g]?=some (.cells cur TE (0,0))∧cur.size=oo+c*3))
  (hnc:n≤c) (hcm:c≤maxLen) (hvb:vb≠g) (hcl:cs.length=n*3) (hvl:vs.length=3) (hcs:base≠none→∀ j v,cs[j]?=some v→w.cell? ⟨g,oo+j,none⟩=some v)
  (hvs:∀ j v,vs[j]?=some v→w.cell? ⟨vb,voff+j,none⟩=some v) (h1c:∀ v ∈ cs,oneV v) (h1v:∀ v ∈ vs,oneV v) (hvh:∃ cur e,w.heap[vb]?=some (.cells cur e (0,0))) :
  Calls Tryz.prog INSF #[.slice base n c,.int .i64 (i:Nat),.slice (some ⟨vb,voff,none⟩) 1 vc] w fun e' w'=>Laid w w' g (cs.take (i*3)++vs++cs.drop (i*3)) (n+1) e':=by
 have hcm':=hcm
 unfold maxLen at hcm'
 have e2:(Value.agg #[.int .i64 0,.int .i64 0,.int .i64 0]).cells.size=3:=rfl
 have hzc:∀ q,(Builtin.zeroCells (Value.agg #[.int .i64 0,.int .i64 0,.int .i64 0]).cells q).size=q*3:=fun q=>by simp [Builtin.zeroCells,e2]
 by_cases hroom:n+1≤c
 ·rcases hbase with ⟨_,h1,h2⟩|⟨rfl,cur,hh,hs⟩
  ·omega
  ·have hsp:∀ j,oo≤j→j < oo+(n+1)*3→(w.cell? ⟨g,j,none⟩).isSome=true:=fun j hj0 hj=>by
    rw [zT hh,yS (by omega)]
    rfl
   have hfz:∀ j,oo≤j→j < oo+(n+1)*3→w.frozen? ⟨g,j,none⟩=false:=fun j hj0 hj=>by
    simp only [World.frozen?,hh,yaE,yaC]
    right
    exact yaT _
   have hcs':=hcs (by simp)
   by_cases hin:i=n
   ·subst hin
    refine (zAr g oo c i vb voff 1 vc vs w (by omega) hroom (by omega) (by omega) hsp hfz hvs h1v).mono ?_
    rintro e' w' ⟨rfl,rfl⟩
    have HW:=zcI Tryz.prog g (oo+i*3) vs w cur TE hh (by omega) h1v
    obtain ⟨cur',h1,h2,h3⟩:=HW.blk cur TE (0,0) hh
    refine ⟨⟨g,oo,c,cur',rfl,.inl rfl,h1,h2.trans hs,hroom,hcm,fun j v hj=>?_⟩,HW.outM⟩
    rw [yY (by omega),ybK (by omega),yax] at hj
    rw [h3]
    by_cases hjc:j < cs.length
    ·rw [yA hjc] at hj
     rw [if_neg (by omega)]
     have:=hcs' j v hj
     rw [zT hh] at this
     exact this
    ·rw [yw (by omega)] at hj
     have hjl:=(yc.1 hj).1
     rw [if_pos ⟨by omega,by omega,by omega⟩,← hj]
     congr 1
     omega
   ·obtain ⟨curv,ev,hv⟩:=hvh
    have hvf:∀ o,w.frozen? ⟨vb,o,none⟩=false:=fun o=>by
     simp only [World.frozen?,hv,yaE,yaC]
     right
     exact yaT _
    refine (zy7 g oo c n i vb voff 1 vc cs vs w (by omega) (by omega) hroom (by omega) hvb hcl (by omega) hcs' hsp hfz hvs h1c h1v ev TE curv.size cur.size (by simp only [World.shape?,hv]) (by simp only [World.shape?,hh]) (by omega) (hvf _) (hvf _)).mono ?_
    rintro e' w' ⟨rfl,rfl⟩
    have hdl:(cs.drop (i*3)).length=(n - i)*3:=by rw [yam,hcl];omega
    have hh1:w.drew.heap[g]?=some (.cells cur TE (0,0)):=hh
    have HW1:=zcI Tryz.prog g (oo+(i+1)*3) (cs.drop (i*3)) w.drew cur TE hh1 (by omega) (fun v hv=>h1c v (yaJ hv))
    obtain ⟨cur1,a1,a2,a3⟩:=HW1.blk cur TE (0,0) hh1
    have HW2:=zcI Tryz.prog g (oo+i*3) vs _ cur1 TE a1 (by omega) h1v
    obtain ⟨cur2,b1,b2,b3⟩:=HW2.blk cur1 TE (0,0) a1
    refine ⟨⟨g,oo,c,cur2,rfl,.inl rfl,b1,by omega,hroom,hcm,fun j v hj=>?_⟩,((OutM.ext (zua w)).trans HW1.outM).trans HW2.outM⟩
    have htl:(cs.take (i*3)).length=i*3:=by rw [yX];omega
    rw [b3]
    by_cases hj1:j < i*3
    ·rw [yal,yA (by omega),yaH,if_pos hj1] at hj
     rw [if_neg (by omega),a3,if_neg (by omega)]
     have:=hcs' j v hj
     rw [zT hh] at this
     exact this
    ·rw [yal,yw (by omega),htl] at hj
     by_cases hj2:j - i*3 < vs.length
     ·rw [yA hj2] at hj
      rw [if_pos ⟨by omega,by omega,by omega⟩,show oo+j - (oo+i*3)=j - i*3 by omega]
      exact hj
     ·rw [yw (by omega)] at hj
      have hjl:=(yc.1 hj).1
      rw [if_neg (by omega),a3,if_pos ⟨by omega,by omega,by omega⟩,← hj]
      congr 1
      omega
 ·have hge:=grownCap_ge w (n+1) c TE
  have hcM:=grownCap_le_maxLen w (n+1) c TE (by unfold maxLen;omega)
  have hcsa:∀ a,base=some a→∀ j v,cs[j]?=some v→w.cell? (a.add j)=some v:=fun a ha j v hj=>by
   rcases hbase with ⟨h0,_⟩|⟨rfl,_⟩
   ·rw [h0] at ha;cases ha
   ·injection ha with ha
    subst ha
    rw [Addr.add_lit]
    exact hcs (by simp) j v hj
  by_cases hin:i=n
  ·subst hin
   refine (zBM base i c vb voff 1 vc cs vs w (by omega) hnc (by omega) (by omega) hcl (by omega) (fun h=>by
    rcases hbase with ⟨_,h1,_⟩|⟨h1,_⟩
    ·exact h1
    ·rw [h1] at h;cases h) hcsa hvs h1v).mono ?_
   rintro e' w' ⟨rfl,rfl⟩
   refine zup rfl ((zua w).alloc _) (MapKept.heap_alloc w.drew _).1 ?_ hge hcM (fun j v hj=>?_)
   ·simp only [ybw,ya2,yO,hzc]
    omega
   ·rw [yY (by omega),ybK (by omega),yax] at hj
    have hjl:=(yc.1 hj).1
    rw [yaR (by simpa using hjl)]
    simpa using hj
  ·rcases hbase with ⟨_,h1,_⟩|⟨rfl,cur,hh,hs⟩
   ·omega
   ·have hcs':=hcs (by simp)
    refine (zAq g oo c n i vb voff 1 vc cs vs w (by omega) (by omega) hnc (by omega) (by omega) hcl (by omega) hcs' hvs h1c h1v).mono ?_
    generalize hG:grownCap w (n+1) c TE=G at hge hcM
    rintro e' w' ⟨rfl,rfl⟩
    have hdl:(cs.drop (i*3)).length=(n - i)*3:=by rw [yam,hcl];omega
    have htl:(cs.take (i*3)).length=i*3:=by rw [yX];omega
    obtain ⟨ROW,hROW⟩:∃ ROW:Array Value,ROW=(cs.take (i*3)).toArray++Builtin.zeroCells (Value.agg #[.int .i64 0,.int .i64 0,.int .i64 0]).cells (n+1 - i)++Builtin.zeroCells (Value.agg #[.int .i64 0,.int .i64 0,.int .i64 0]).cells (G - (n+1)):=⟨_,rfl⟩
    rw [← hROW]
    have hRs:ROW.size=G*3:=by
     rw [hROW]
     simp only [ybw,ya2,htl,hzc]
     omega
    have hRj:∀ j v,j < i*3→cs[j]?=some v→ROW[j]?=some v:=fun j v hj hv=>by
     rw [hROW,Array.append_assoc,yaR (by simp;omega)]
     simp only [yaV,yaH,if_pos hj]
     exact hv
    have hh1:((w.alloc (.cells ROW TE)).drew).heap[w.heap.size]?=some (.cells ROW TE (0,0)):=(MapKept.heap_alloc w _).1
    have HW1:=zcI Tryz.prog w.heap.size (i*3) vs (w.alloc (.cells ROW TE)).drew ROW TE hh1 (by omega) h1v
    obtain ⟨cur1,a1,a2,a3⟩:=HW1.blk ROW TE (0,0) hh1
    have a1':((w.alloc (.cells ROW TE)).drew.setCells w.heap.size (i*3) vs).drew.heap[w.heap.size]?=some (.cells cur1 TE (0,0)):=a1
    have HW2:=zcI Tryz.prog w.heap.size ((i+1)*3) (cs.drop (i*3)) _ cur1 TE a1' (by omega) (fun v hv=>h1c v (yaJ hv))
    obtain ⟨cur2,b1,b2,b3⟩:=HW2.blk cur1 TE (0,0) a1'
    refine zup rfl (zql (zql ((Ext.refl w).alloc _).drew _ _ (yz _)).drew _ _ (yz _)) b1 (by omega) hge hcM (fun j v hj=>?_)
    rw [b3]
    by_cases hj1:j < i*3
    ·rw [yal,yA (by omega),yaH,if_pos hj1] at hj
     rw [if_neg (by omega),a3,if_neg (by omega)]
     exact hRj j v hj1 hj
    ·rw [yal,yw (by omega),htl] at hj
     by_cases hj2:j - i*3 < vs.length
     ·rw [yA hj2] at hj
      rw [if_neg (by omega),a3,if_pos ⟨by omega,by omega,by omega⟩]
      exact hj
     ·rw [yw (by omega)] at hj
      have hjl:=(yc.1 hj).1
      rw [if_pos ⟨by omega,by omega,by omega⟩,← hj]
      congr 1
      omega
end Go.Proofs.YtflhdodikmmdcaaGreat
