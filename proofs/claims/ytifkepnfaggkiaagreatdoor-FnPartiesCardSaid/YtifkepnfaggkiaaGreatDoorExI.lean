import Derived.Test.YtifkepnfaggkiaaGreatDoorOwr
import Derived.Test.YtifkepnfaggkiaaGreatDoorMark
import Derived.Test.YtifkepnfaggkiaaGreatDoorSf
import Derived.Test.YtifkepnfaggkiaaGreatDoorShelf
import Derived.Lib.SmallJoins
import Derived.Lib.AppendIntMem
namespace Go.Proofs.YtifkepnfaggkiaaGreatDoor
open Go.RowKit
set_option linter.unusedVariables false
set_option linter.unusedSimpArgs false
noncomputable section
def xOf {ι:Type} (args:ι→List Arg) (res:ι→Option (List Arg)) (xs:List Arg):Option (List Arg):=open Classical in if h:∃ i,xs=args i then res h.choose else none
theorem zwJ {ι:Type} {args:ι→List Arg} {res:ι→Option (List Arg)} (hfun:∀ i j,args i=args j→i=j) (i:ι):xOf args res (args i)=res i:=by
 unfold xOf
 have h:∃ j,args i=args j:=⟨i,rfl⟩
 rw [dif_pos h]
 exact congrArg res (hfun _ _ h.choose_spec).symm
theorem zsj {ι:Type} {args:ι→List Arg} {res:ι→Option (List Arg)} {xs ys:List Arg} (h:xOf args res xs=some ys):∃ i,xs=args i∧res i=some ys:=by
 unfold xOf at h
 split at h
 ·rename_i hi
  exact ⟨hi.choose,hi.choose_spec,h⟩
 ·cases h
theorem zuW (P:Program) (w0:Bs):zac P (fun _ _=>none) w0:=fun f xs ys h=>by cases h
theorem zww {P:Program} {F:Fns} {w0:Bs} {c:FuncId} {A:List Arg→Option (List Arg)} (hc:c < 2 ^ 40) (hA:∀ xs ys,A xs=some ys→zbW P c∧∀ w vs,w0.Ext w→zgJ w xs vs→Calls P c vs.toArray w (Gave ys w)) (hF:zac P F w0):zac P (fun f xs=>if f=c then A xs else F f xs) w0:=fun f xs ys h=>by
 dsimp only at h
 split at h
 ·rename_i hf
  subst hf
  exact ⟨fun _=>hA xs ys h,fun g hg=>absurd hc (by rw [hg];exact Nat.not_lt.2 (Nat.le_add_left _ _))⟩
 ·exact hF f xs ys h
theorem zwx {P:Program} {F:Fns} {w0:Bs} {g:FuncId} {c:Nat} {A:List Arg→Option (List Arg)} (hc:c=g+2 ^ 40) (hA:∀ xs ys,A xs=some ys→znv P w0 g xs ys) (hF:zac P F w0):zac P (fun f xs=>if f=c then A xs else F f xs) w0:=fun f xs ys h=>by
 dsimp only at h
 split at h
 ·rename_i hf
  subst hf
  refine ⟨fun hlt=>absurd hlt (by rw [hc];exact Nat.not_lt.2 (Nat.le_add_left _ _)),fun g' hg=>?_⟩
  have:g'=g:=by
   rw [hc] at hg
   exact (Nat.add_right_cancel hg).symm
  subst this
  exact .inr (.inl (hA xs ys h))
 ·exact hF f xs ys h
end
end Go.Proofs.YtifkepnfaggkiaaGreatDoor
namespace Go.Proofs.YtifkepnfaggkiaaGreatDoor
open Go.RowKit
set_option linter.unusedVariables false
set_option linter.unusedSimpArgs false
set_option maxRecDepth 100000
noncomputable section
abbrev TabW (w:World):Prop:=Lib.TabIs Tryz.prog w "internal/strconv.uint64pow10" .u64 Lib.pow10Tab
theorem zw1 {s:ByteArray} {w w':World} (hx:Ext w w'):Gave [.v (.at (.string s))] w (.returned (.string s)) w':=⟨[.string s],fun _=>none,rfl,hx,⟨⟨0,rfl⟩,trivial⟩⟩
theorem zxA {R:Nat→Prop} {w:World} {v u:Value} (h:Rd R w v (.at u)):v=u:=by
 obtain ⟨n,h⟩:=h
 cases n<;>(unfold RdN at h;exact h)
def zlM (a0:Int):List Arg:=[.v (.at (.int .i64 a0))]
def zuM (a0:Int):Option (List Arg):=(zbn a0).bind fun r=>some [.v (.at (.string r))]
theorem zu9 (i j:Int) (h:zlM i=zlM j):i=j:=by simpa [zlM] using h
theorem zqE (w0:World) (htab:TabW w0) (xs ys:List Arg) (h:xOf zlM zuM xs=some ys):zbW Tryz.prog 171∧∀ w vs,Ext w0 w→zgJ w xs vs→Calls Tryz.prog 171 vs.toArray w (Gave ys w):=by
 refine ⟨fun _ _=>by kernel_rfl,fun w vs hx hv=>?_⟩
 obtain ⟨a0,rfl,hr⟩:=zsj h
 unfold zuM zbn at hr
 split at hr
 ·rename_i hb
  simp only [Option.bind_some,Option.some.injEq] at hr
  subst hr
  match vs,hv with
  | [v],⟨h1,_⟩ =>
   have hv1:v=.int .i64 a0:=zxA h1
   subst hv1
   have ht:TabW w:=Go.Joins.tab_stays (g:=0) (by kernel_rfl) htab hx (Nat.le_refl _)
   refine (Tryz.strconv_Itoa a0 hb.1 hb.2 w ht).mono ?_
   rintro e w' ⟨rfl,k,os,rfl⟩
   exact zw1 (Lib.below_grow _ w (Nat.le_refl _) k os)
 ·cases hr
end
end Go.Proofs.YtifkepnfaggkiaaGreatDoor
