import Derived.Test.YtflhdodikmmdcaaGreatK3
import Derived.Test.YtflhdodikmmdcaaGreatK2
import Derived.Test.YtflhdodikmmdcaaGreatK4
import Derived.Test.YtflhdodikmmdcaaGreatK5
import Derived.Test.YtflhdodikmmdcaaGreatK6
import Derived.Test.YtflhdodikmmdcaaGreatK7
import Derived.Test.YtflhdodikmmdcaaGreatK8
import Derived.Test.YtflhdodikmmdcaaGreatK9
import Derived.Test.YtflhdodikmmdcaaGreatK12
import Derived.Test.YtflhdodikmmdcaaGreatK11
import Derived.Test.YtflhdodikmmdcaaGreatExG
import Derived.Test.YtflhdodikmmdcaaGreatSf
namespace Go.Proofs.YtflhdodikmmdcaaGreat
open Go.RowKit
set_option linter.unusedVariables false
set_option linter.unusedSimpArgs false
set_option maxRecDepth 100000
noncomputable section
set_option maxHeartbeats 40000000
def Gk (x:Nat×FE):Prop:=x.1 < 2 ^ 40∧zc4 Tryz.prog x.1∧Tryz.prog.funcs[x.1]?=some x.2.fn∧x.2.fn.body=some x.2.body∧zdr zqf x.2.body=true
theorem zCS:∀ x ∈ GL,Gk x:=by
 unfold GL
 repeat refine List.forall_mem_cons.2 ⟨⟨by decide,fun _ _=>by kernel_rfl,by kernel_rfl,rfl,by kernel_rfl⟩,?_⟩
 exact fun _ h=>nomatch h
theorem hS {Q:Nat→Prop} {L:Nat} (H:∀ m,L≤m→Q (m+1)) (n:Nat) (h:L+1≤n):Q n:=by
 cases n with
 | zero=>omega
 | succ n=>exact H n (by omega)
theorem zA8 (f:FuncId) (fe:FE) (h:GT f=some fe):f < 2 ^ 40∧zc4 Tryz.prog f∧Tryz.prog.funcs[f]?=some fe.fn∧fe.fn.body=some fe.body∧zdr zqf fe.body=true:=by
 unfold GT at h
 cases hx:GL.find? fun x=>Nat.beq x.1 f with
 | none=>rw [hx] at h;cases h
 | some x =>
  rw [hx] at h
  injection h with h
  have h1:x.1=f:=yas (List.find?_some (p:=fun x:Nat×FE=>Nat.beq x.1 f) hx)
  have h2:=zCS x (yce hx)
  subst h1
  subst h
  exact h2
theorem zCw {G:FuncId→Option FE} {X:Fns} {T:TT} {n:Nat} {f g:FuncId} {fe:FE} {xs:List Arg} (h1:G f=none) (h2:zmN f=none) (h3:spcF f=some g) (h4:G g=some fe):ev za G X T (n+1) f xs=ziw pk0.p pk0.al T (ev za G X T n) g fe xs:=by
 have e1:pk0.p=za:=rfl
 have e2:pk0.al=fun F lv=>zdb F lv fuel:=rfl
 rw [e1,e2]
 simp only [ev,h1,h2,h3,h4]
namespace R0
def FT (X:Fns) (n:Nat):Fns:=ev za GT (X) TY n
theorem FT_ok (X:Fns) (w0:World) (hX:zay Tryz.prog (X) (bs0 w0)) (n:Nat):zay Tryz.prog (FT X n) (bs0 w0):=zpg zn1 (fun F w hF=>zk2 (by kernel_rfl) zn1 hF) zrA hX ⟨rfl,rfl⟩ zA8 n
theorem FT_at (X:Fns) {f:FuncId} {fe:FE} (hG:GT f=some fe) (n:Nat) (xs:List Arg):FT X (n+1) f xs=zk3 za (fun F lv=>zdb F lv fuel) TY (FT X n) fe xs:=by
 show (match GT f with|some fe=>zk3 za (fun F lv=>zdb F lv fuel) TY (FT X n) fe xs|none=>_)=_
 rw [hG]
theorem FT_x (X:Fns) {f:FuncId} (hG:GT f=none) (hv:zmN f=none) (hs:spcF f=none) (n:Nat) (xs:List Arg):FT X n f xs=(X) f xs:=by
 cases n with
 | zero=>rfl
 | succ n =>
  unfold FT
  simp only [ev,hG,hv,hs]
theorem nx (X:Fns) (n:Nat):Nx GT pk0 (FT X n) (FT X (n+1)):=fun _ _ h xs=>FT_at X h n xs
theorem nx2 (X:Fns) (n:Nat):Nx2 GT pk0 (FT X n) (FT X (n+1)):=fun f fe h hs xs=>by
 have h1:GT (f+mutK)=none:=by
  cases hg:GT (f+mutK) with
  | none=>rfl
  | some fe'=>exact absurd (zA8 _ _ hg).1 (ya0.2 (ybt _ _))
 have h2:zmN (f+mutK)=none:=by
  unfold zmN
  rw [if_neg (fun h=>by have:=h.2;simp [viewIds] at this)]
 have h3:spcF (f+mutK)=some f:=by
  unfold spcF mutK
  rw [if_pos ⟨ybt _ _,by rw [yb6];exact hs⟩,yb6]
 exact zCw h1 h2 h3 h
theorem FT_xs (X:Fns) {f g:FuncId} (hG:GT f=none) (hv:zmN f=none) (hs:spcF f=some g) (hg:GT g=none) (n:Nat) (xs:List Arg):FT X n f xs=(X) f xs:=by
 cases n with
 | zero=>rfl
 | succ n =>
  unfold FT
  simp only [ev,hG,hv,hs,hg]
theorem h_C0 (X:Fns):∀ n,1≤n→C0 pk0 (FT X n):=hS fun m h=>(tMC0 (nx X m) (nx2 X m)).1
theorem h_C2 (X:Fns):∀ n,1≤n→C2 pk0 (FT X n):=hS fun m h=>(tMC0 (nx X m) (nx2 X m)).2.1
theorem h_C6 (X:Fns):∀ n,1≤n→C6 pk0 (FT X n):=hS fun m h=>(tMC0 (nx X m) (nx2 X m)).2.2.1
theorem h_C8 (X:Fns):∀ n,1≤n→C8 pk0 (FT X n):=hS fun m h=>(tMC0 (nx X m) (nx2 X m)).2.2.2.1
theorem h_C10 (X:Fns):∀ n,1≤n→C10 pk0 (FT X n):=hS fun m h=>(zBn (nx X m) (nx2 X m)).1
theorem h_C12 (X:Fns):∀ n,1≤n→C12 pk0 (FT X n):=hS fun m h=>(tMC0 (nx X m) (nx2 X m)).2.2.2.2.1
theorem h_C19 (X:Fns):∀ n,1≤n→C19 pk0 (FT X n):=hS fun m h=>(zBn (nx X m) (nx2 X m)).2
theorem h_C1 (X:Fns):∀ n,2≤n→C1 pk0 (FT X n):=hS fun m h=>(tMC1 (nx X m) (nx2 X m)).1 (h_C0 X m (by omega))
theorem h_C3 (X:Fns):∀ n,2≤n→C3 pk0 (FT X n):=hS fun m h=>(tMC1 (nx X m) (nx2 X m)).2.1 (h_C2 X m (by omega))
theorem h_C7 (X:Fns):∀ n,2≤n→C7 pk0 (FT X n):=hS fun m h=>(tMC1 (nx X m) (nx2 X m)).2.2.1 (h_C6 X m (by omega))
theorem h_C11 (X:Fns):∀ n,2≤n→C11 pk0 (FT X n):=hS fun m h=>(tMG3 (nx X m) (nx2 X m)).2.1 (h_C10 X m (by omega))
theorem h_C13 (X:Fns):∀ n,2≤n→C13 pk0 (FT X n):=hS fun m h=>(tMC1 (nx X m) (nx2 X m)).2.2.2.1 (h_C12 X m (by omega))
theorem h_C20 (X:Fns):∀ n,2≤n→C20 pk0 (FT X n):=hS fun m h=>(tMG3 (nx X m) (nx2 X m)).2.2 (h_C19 X m (by omega))
theorem h_C4 (X:Fns):∀ n,3≤n→C4 pk0 (FT X n):=hS fun m h=>(tMG5 (nx X m) (nx2 X m)).2.1 (h_C3 X m (by omega))
theorem h_C9 (X:Fns):∀ n,3≤n→C9 pk0 (FT X n):=hS fun m h=>(tMG5 (nx X m) (nx2 X m)).2.2.1 (h_C7 X m (by omega)) (h_C8 X m (by omega))
theorem h_C14 (X:Fns):∀ n,3≤n→C14 pk0 (FT X n):=hS fun m h=>(tMG5 (nx X m) (nx2 X m)).2.2.2.1 (h_C3 X m (by omega))
theorem h_C5 (X:Fns):∀ n,4≤n→C5 pk0 (FT X n):=hS fun m h=>(tMG9 (nx X m) (nx2 X m)).2.1 (h_C4 X m (by omega))
theorem h_C15 (X:Fns):∀ n,4≤n→C15 pk0 (FT X n):=hS fun m h=>(tMG9 (nx X m) (nx2 X m)).2.2.1 (h_C14 X m (by omega))
theorem h_C16 (X:Fns):∀ n,5≤n→C16 pk0 (FT X n):=hS fun m h=>(zBo (nx X m) (nx2 X m)).1 (h_C15 X m (by omega))
theorem h_C17 (X:Fns):∀ n,6≤n→C17 pk0 (FT X n):=hS fun m h=>(zBr (nx X m) (nx2 X m)).2 (h_C16 X m (by omega))
theorem h_C18 (X:Fns):∀ n,7≤n→C18 pk0 (FT X n):=hS fun m h=>(zBp (nx X m) (nx2 X m)).1 (h_C7 X m (by omega)) (h_C17 X m (by omega))
end R0
end
end Go.Proofs.YtflhdodikmmdcaaGreat
