import Derived.Test.YtflhdodikmmdcaaGreatEngEnv
namespace Go.Proofs.YtflhdodikmmdcaaGreat
open Go.RowKit
set_option linter.unusedVariables false
set_option linter.unusedSimpArgs false
set_option linter.unusedSectionVars false
def Did (P:Program) (E:Env) (w:World) (s:Sem Next) (p:PV) (nb:List (Nm×Bk)):Prop :=
 ∃ E' w' v,s.run P w=.ok (.value v) w'∧Grow E E' w w'∧WfE E' w'∧CvP E' w' p v∧(∀ x ∈ nb,BkOk E' w' x.1 x.2)∧(∀ i,E'.φ i≠none→E.φ i≠none∨∃ x ∈ nb,x.1=i)
theorem did0 {P:Program} {E:Env} {w:World} (hW:WfE E w) {s:Sem Next} {p:PV} {v:Value} (h:s.run P w=.ok (.value v) w) (hp:CvP E w p v):Did P E w s p [] :=
 ⟨E,w,v,h,Grow.refl E w,hW,hp,(fun x hx=>by cases hx),(fun i hi=>.inl hi)⟩
theorem zin (P:Program) (e:Nat):(∃ i,P.info? e=some i∧zlf P e=.slice e i.size i.bytes)∨zlf P e=.other:=by
 unfold zlf
 cases P.info? e with
 | none=>exact .inr rfl
 | some i=>exact .inl ⟨i,rfl,rfl⟩
theorem zjH {P:Program} {t:Nat} {ti:TI} (h:ttOf P t=some ti):∃ d,P.underlying t=some d∧ti.kind=(match d with
  | .int k=>.int k
  | .bool=>.bool
  | .string=>.string
  | .slice e=>zlf P e
  | .struct fs=>.struct (fs.toList.map fun f=>(f.offset,zgm P f.type,aggT P f.type))
  | _=>.other):=by
 obtain ⟨i,z,d,hi,hz,hd,ha,rfl⟩:=zj8 h
 refine ⟨d,hd,?_⟩
 show zlv P t=_
 unfold zlv
 rw [hd]
 cases d<;>rfl
theorem zpk {P:Program} {t:Nat} {ti:TI} {k:IntKind} (h:ttOf P t=some ti) (hk:ti.kind=.int k):P.underlying t=some (.int k):=by
 obtain ⟨d,hd,hc⟩:=zjH h
 rw [hk] at hc
 cases d<;>simp only [] at hc<;>first|(cases hc;done)|(injection hc with hc;rw [hc];exact hd)|(rcases zin P _ with ⟨i,_,h⟩|h<;>rw [h] at hc<;>cases hc)
theorem zgH {P:Program} {t:Nat} {ti:TI} (h:ttOf P t=some ti) (hk:ti.kind=.string):P.underlying t=some .string:=by
 obtain ⟨d,hd,hc⟩:=zjH h
 rw [hk] at hc
 cases d<;>simp only [] at hc<;>first|exact hd|(cases hc;done)|(rcases zin P _ with ⟨i,_,h⟩|h<;>rw [h] at hc<;>cases hc)
theorem zza {P:Program} {t:Nat} {ti:TI} (h:ttOf P t=some ti) (hk:ti.kind=.bool):P.underlying t=some .bool:=by
 obtain ⟨d,hd,hc⟩:=zjH h
 rw [hk] at hc
 cases d<;>simp only [] at hc<;>first|exact hd|(cases hc;done)|(rcases zin P _ with ⟨i,_,h⟩|h<;>rw [h] at hc<;>cases hc)
theorem ziO {P:Program} {t:Nat} {ti:TI} {fs:List (Nat×Nat×Bool)} (h:ttOf P t=some ti) (hk:ti.kind=.struct fs):∃ f,P.underlying t=some (.struct f)∧fs=f.toList.map fun f=>(f.offset,zgm P f.type,aggT P f.type):=by
 obtain ⟨d,hd,hc⟩:=zjH h
 rw [hk] at hc
 cases d<;>simp only [] at hc<;>first|(cases hc;done)|(injection hc with hc;exact ⟨_,hd,hc⟩)|(rcases zin P _ with ⟨i,_,h⟩|h<;>rw [h] at hc<;>cases hc)
theorem zcE {P:Program} {t:Nat} {ti:TI} {e k b:Nat} (h:ttOf P t=some ti) (hk:ti.kind=.slice e k b):P.underlying t=some (.slice e)∧∃ i,P.info? e=some i∧k=i.size∧b=i.bytes:=by
 obtain ⟨d,hd,hc⟩:=zjH h
 rw [hk] at hc
 cases d<;>simp only [] at hc<;>try (cases hc;done)
 rename_i e'
 rcases zin P e' with ⟨i,hi,h⟩|h
 ·rw [h] at hc
  injection hc with h1 h2 h3
  subst h1
  exact ⟨hd,i,hi,h2,h3⟩
 ·rw [h] at hc
  cases hc
theorem zuo {P:Program} {t:Nat} {ti:TI} (h:ttOf P t=some ti):∃ d,P.underlying t=some d:=by
 obtain ⟨i,z,d,hi,hz,hd,ha,rfl⟩:=zj8 h
 exact ⟨d,hd⟩
section
variable {P:Program}
theorem zxj {t:TypeId} (h:P.underlying t=some .bool) (a b:Bool) (w:World):(Op.equal t (.bool a) (.bool b)).run P w=.ok (a == b) w:=by
 show (Op.equalIn (9999+1) t (.bool a) (.bool b)).run P w=_
 unfold Op.equalIn
 simp only [Sem.run_bind,run_underlying h,Result.andThen_ok,Sem.run_pure]
theorem zwT {op:BinOp} {a b v:Value} (h:abin za op a b=some v) (xt:TypeId) (hb:∀ a' b',a=.bool a'→b=.bool b'→P.underlying xt=some .bool) (x y:Operand) (w:World):(do eqGuard op xt x y a b;binOp op xt a b:Sem Value).run P w=.ok v w:=by
 unfold abin at h
 split at h
 ·rename_i k a k' b
  cases op<;>simp [za,icmp,zuf] at h<;>(try obtain ⟨rfl,h⟩:=h)<;>(try obtain ⟨h0,rfl⟩:=h)<;>(try subst h) <;>
   simp [eqGuard,binOp,Op.intArith,Op.intCmp,Op.intDiv,Op.intBits,Op.shift, *]
  all_goals (try omega)
 ·rename_i a b
  cases op<;>simp [za,scmp] at h<;>(try obtain ⟨h0,rfl⟩:=h)<;>(try subst h) <;>
   simp [eqGuard,binOp,Op.stringOp]
  all_goals (try (simp [maxLen,IntKind.max,IntKind.signed,IntKind.bits] at *;omega))
 ·rename_i a b
  cases op<;>simp [za] at h<;>(try subst h) <;>
   simp [eqGuard,binOp,zxj (hb a b rfl rfl)]
 ·cases h
theorem zyy {op:UnOp} {a v:Value} (h:aun za op a=some v) (w:World):(Op.unary op a).run P w=.ok v w:=by
 unfold aun at h
 split at h
 ·injection h with h;subst h;simp [Op.unary,za]
 ·injection h with h;subst h;simp [Op.unary,Op.intArith,za,zuf]
 ·cases h
theorem zxa {T:TT} (hT:∀ t ti,T t=some ti→ttOf P t=some ti) {xt:TypeId} {a b:Bool} (hok:zp7 T xt (.bool a) (.bool b)=true):P.underlying xt=some .bool:=by
 simp only [zp7] at hok
 split at hok
 ·rename_i ht;exact zza (hT _ _ ht) rfl
 ·cases hok
theorem zCc {T:TT} {E:Env} {w:World} {get:Operand→PV} {ρ:Operand→Value} (hT:∀ t ti,T t=some ti→ttOf P t=some ti) (hW:WfE E w) (hg:∀ x,CvP E w (get x) (ρ x)) {o:Oper} {op:BinOp} {xt yt:TypeId} {x y:Operand} (ho:o.op=.binOp op xt x y yt) {a b v:Value} (ha:get x=.c (.at a)) (hb:get y=.c (.at b)) (hok:zp7 T xt a b=true) (h:abin za op a b=some v) :
  Did P E w (execOp ρ o) (.c (.at v)) []:=by
 have h1:=hg x;rw [ha] at h1
 have h2:=hg y;rw [hb] at h2
 have e1:ρ x=a:=h1
 have e2:ρ y=b:=h2
 refine did0 hW (v:=v) ?_ rfl
 have:=zwT (P:=P) h xt (fun a' b' ea eb=>by
  subst ea;subst eb
  exact zxa hT hok) x y w
 simp only [execOp,ho,e1,e2]
 rw [Sem.run_bind] at this ⊢
 rw [Sem.run_bind,this]
 rfl
end
section
theorem zer {E:Env} {w:World} {get:Operand→PV} {ρ:Operand→Value} {x:Operand} {v:Value} (hg:∀ x,CvP E w (get x) (ρ x)) (h:get x=.c (.at v)):ρ x=v:=by
 have:=hg x;rw [h] at this;exact this
theorem zfr {E:Env} {w:World} {get:Operand→PV} {ρ:Operand→Value} {x:Operand} {c:Cell} (hg:∀ x,CvP E w (get x) (ρ x)) (h:get x=.c c):CvC E w c (ρ x):=by
 have:=hg x;rw [h] at this;exact this
theorem zzD {P:Program} {T:TT} {E:Env} {w:World} {get:Operand→PV} {ρ:Operand→Value} (hT:∀ t ti,T t=some ti→ttOf P t=some ti) (hW:WfE E w) (hg:∀ x,CvP E w (get x) (ρ x)) {o:Oper} {x:Operand} (ho:o.op=.move x∨o.op=.assign x):Did P E w (execOp ρ o) (get x) []:=by
 refine did0 hW (v:=ρ x) ?_ (hg x)
 rcases ho with ho|ho<;>simp [execOp,ho]
theorem zCM {P:Program} {T:TT} {E:Env} {w:World} {get:Operand→PV} {ρ:Operand→Value} (hT:∀ t ti,T t=some ti→ttOf P t=some ti) (hW:WfE E w) (hg:∀ x,CvP E w (get x) (ρ x)) {o:Oper} {c x y:Operand} {t:Bool} (ho:o.op=.pick c x y) (hc:get c=.c (.at (.bool t))):Did P E w (execOp ρ o) (if t then get x else get y) []:=by
 refine did0 hW (v:=if t then ρ x else ρ y) ?_ (by cases t;exact hg y;exact hg x)
 simp only [execOp,ho,zer hg hc,asBool,Sem.run_bind,Sem.run_pure,Result.andThen_ok]
theorem zCN {P:Program} {T:TT} {E:Env} {w:World} {get:Operand→PV} {ρ:Operand→Value} (hT:∀ t ti,T t=some ti→ttOf P t=some ti) (hW:WfE E w) (hg:∀ x,CvP E w (get x) (ρ x)) {o:Oper} {op:UnOp} {t:TypeId} {x:Operand} {a v:Value} (ho:o.op=.unOp op t x) (hx:get x=.c (.at a)) (h:aun za op a=some v):Did P E w (execOp ρ o) (.c (.at v)) []:=by
 refine did0 hW (v:=v) ?_ rfl
 simp only [execOp,ho,zer hg hx,Sem.run_bind,zyy h,Result.andThen_ok,Sem.run_pure]
theorem zzm {P:Program} {T:TT} {E:Env} {w:World} {get:Operand→PV} {ρ:Operand→Value} (hT:∀ t ti,T t=some ti→ttOf P t=some ti) (hW:WfE E w) (hg:∀ x,CvP E w (get x) (ρ x)) {o:Oper} {src dst:TypeId} {x:Operand} {k k0:IntKind} {a:Int} {ti ti':TI} (ho:o.op=.convert src dst x) (hs:T src=some ti') (hd:T dst=some ti) (hk:ti.kind=.int k) (hx:get x=.c (.at (.int k0 a))) :
  Did P E w (execOp ρ o) (.c (.at (.int k (za.wrap k a)))) []:=by
 obtain ⟨d,hu⟩:=zuo (hT _ _ hs)
 have hi:=zpk (hT _ _ hd) hk
 refine did0 hW (v:=.int k (k.wrap a)) ?_ rfl
 simp only [execOp,ho,zer hg hx,Go.convert,Sem.run_bind,run_underlying hu,run_underlying hi,Result.andThen_ok,Sem.run_pure]
 cases d<;>simp [Conv.intToInt]
theorem zzo {P:Program} {T:TT} {E:Env} {w:World} {get:Operand→PV} {ρ:Operand→Value} (hT:∀ t ti,T t=some ti→ttOf P t=some ti) (hW:WfE E w) (hg:∀ x,CvP E w (get x) (ρ x)) {o:Oper} {src dst:TypeId} {x:Operand} {s:ByteArray} {ti ti':TI} (ho:o.op=.convert src dst x) (hs:T src=some ti') (hd:T dst=some ti) (hk:ti.kind=.string) (hx:get x=.c (.at (.string s))) :
  Did P E w (execOp ρ o) (.c (.at (.string s))) []:=by
 obtain ⟨d,hu⟩:=zuo (hT _ _ hs)
 have hi:=zgH (hT _ _ hd) hk
 refine did0 hW (v:=.string s) ?_ rfl
 simp only [execOp,ho,zer hg hx,Go.convert,Sem.run_bind,run_underlying hu,run_underlying hi,Result.andThen_ok,Sem.run_pure]
theorem zpE {P:Program} {T:TT} {E:Env} {w:World} {get:Operand→PV} {ρ:Operand→Value} (hT:∀ t ti,T t=some ti→ttOf P t=some ti) (hW:WfE E w) (hg:∀ x,CvP E w (get x) (ρ x)) {o:Oper} {x:Operand} {c:Cell} (ho:o.op=.nilCheck x) (hx:get x=.c c) (hc:(∃ i k a b,c=.ptr i k a b)∨(∃ s l a,c=.bp s l a)∨(∃ f cs,c=.fn f cs)):Did P E w (execOp ρ o) (.c c) []:=by
 have h:=zfr hg hx
 refine did0 hW (v:=ρ x) ?_ h
 rcases hc with ⟨i,k,a,b,rfl⟩|⟨s,l,a,rfl⟩|⟨f,cs,rfl⟩
 ·obtain ⟨g,_,hv⟩:=h;simp [execOp,ho,hv]
 ·obtain ⟨g,o',hv,_⟩:=h;simp [execOp,ho,hv]
 ·obtain ⟨vs,hv,_⟩:=h;simp [execOp,ho,hv]
theorem zzs {P:Program} {T:TT} {E:Env} {w:World} {get:Operand→PV} {ρ:Operand→Value} (hT:∀ t ti,T t=some ti→ttOf P t=some ti) (hW:WfE E w) (hg:∀ x,CvP E w (get x) (ρ x)) {o:Oper} {x:Operand} {n:Nat} {l:List PV} {p:PV} (ho:o.op=.extract x n) (hx:get x=.tup l) (hp:l[n]?=some p):Did P E w (execOp ρ o) p []:=by
 have h:=hg x
 rw [hx] at h
 obtain ⟨vs,hv,hl,hj⟩:=h
 have hlt:n < vs.length:=by rw [hl];exact (yc.1 hp).1
 have hn:vs[n]?=some vs[n]:=yb hlt
 refine did0 hW (v:=vs[n]) ?_ (CvP.of_CvV (hj n p _ hp hn))
 simp [execOp,ho,hv,Instr.extract,hn]
theorem zen {P:Program} {T:TT} {E:Env} {w:World} {get:Operand→PV} {ρ:Operand→Value} (hT:∀ t ti,T t=some ti→ttOf P t=some ti) (hW:WfE E w) (hg:∀ x,CvP E w (get x) (ρ x)) {o:Oper} {as:Array Operand} {ts:Array TypeId} {x y:Operand} {a b v:Value} (ho:o.op=.call { callee:=.builtin .min,args:=as,argTypes:=ts }) (has:as.toList=[x,y]) (hx:get x=.c (.at a)) (hy:get y=.c (.at b)) (h:amin za a b=some v) :
  Did P E w (execOp ρ o) (.c (.at v)) []:=by
 refine did0 hW (v:=v) ?_ rfl
 have has':as=#[x,y]:=by cases as;simp at has;simp [has]
 subst has'
 unfold amin at h
 split at h
 ·rename_i k n k' m
  split at h
  ·rename_i hk
   injection h with h
   subst h;subst hk
   simp [execOp,ho,resolve,invoke,builtin,Builtin.min_,Builtin.min2,zer hg hx,zer hg hy,za]
  ·cases h
 ·cases h
theorem zem {P:Program} {T:TT} {E:Env} {w:World} {get:Operand→PV} {ρ:Operand→Value} (hT:∀ t ti,T t=some ti→ttOf P t=some ti) (hW:WfE E w) (hg:∀ x,CvP E w (get x) (ρ x)) {o:Oper} {as:Array Operand} {ts:Array TypeId} {x y:Operand} {a b v:Value} (ho:o.op=.call { callee:=.builtin .max,args:=as,argTypes:=ts }) (has:as.toList=[x,y]) (hx:get x=.c (.at a)) (hy:get y=.c (.at b)) (h:amax za a b=some v) :
  Did P E w (execOp ρ o) (.c (.at v)) []:=by
 refine did0 hW (v:=v) ?_ rfl
 have has':as=#[x,y]:=by cases as;simp at has;simp [has]
 subst has'
 unfold amax at h
 split at h
 ·rename_i k n k' m
  split at h
  ·rename_i hk
   injection h with h
   subst h;subst hk
   simp [execOp,ho,resolve,invoke,builtin,Builtin.max_,Builtin.max2,zer hg hx,zer hg hy,za]
  ·cases h
 ·cases h
theorem zB1 {P:Program} {T:TT} {E:Env} {w:World} {get:Operand→PV} {ρ:Operand→Value} (hT:∀ t ti,T t=some ti→ttOf P t=some ti) (hW:WfE E w) (hg:∀ x,CvP E w (get x) (ρ x)) {c:Cell} {v:Value} (h:CvC E w c v):match c with
  | .rd _ _ _ l=>∃ A k,v=.slice A l.length k
  | .row _ _ _ _ m=>∃ A k,v=.slice A m k
  | .nil _ _=>v=.slice none 0 0
  | _=>True:=by
 cases c<;>simp only []<;>try trivial
 ·obtain ⟨n,h⟩:=h
  cases n with
  | zero=>exact h.elim
  | succ n=>obtain ⟨A,c,hv,_⟩:=h;exact ⟨A,c,hv⟩
 ·obtain ⟨A,c,hv,_⟩:=h;exact ⟨A,c,hv⟩
theorem zAH {P:Program} {T:TT} {E:Env} {w:World} {get:Operand→PV} {ρ:Operand→Value} (hT:∀ t ti,T t=some ti→ttOf P t=some ti) (hW:WfE E w) (hg:∀ x,CvP E w (get x) (ρ x)) {o:Oper} {as:Array Operand} {ts:Array TypeId} {x:Operand} {t:TypeId} {ti:TI} {s:ByteArray} (ho:o.op=.call { callee:=.builtin .len,args:=as,argTypes:=ts }) (has:as.toList=[x]) (hts:ts.toList=[t]) (ht:T t=some ti) (hk:ti.kind=.string) (hx:get x=.c (.at (.string s))) :
  Did P E w (execOp ρ o) (.c (.at (.int .i64 (za.ssize s)))) []:=by
 refine did0 hW (v:=.int .i64 s.size) ?_ rfl
 have has':as=#[x]:=by cases as;simp at has;simp [has]
 have hts':ts=#[t]:=by cases ts;simp at hts;simp [hts]
 subst has';subst hts'
 simp [execOp,ho,resolve,invoke,builtin,Builtin.len_,zer hg hx,run_underlying (zgH (hT _ _ ht) hk),goInt]
theorem zr2 {P:Program} {T:TT} {E:Env} {w:World} {get:Operand→PV} {ρ:Operand→Value} (hT:∀ t ti,T t=some ti→ttOf P t=some ti) (hW:WfE E w) (hg:∀ x,CvP E w (get x) (ρ x)) {o:Oper} {as:Array Operand} {ts:Array TypeId} {x:Operand} {t:TypeId} {ti:TI} {e k b m:Nat} {c:Cell} (ho:o.op=.call { callee:=.builtin .len,args:=as,argTypes:=ts }) (has:as.toList=[x]) (hts:ts.toList=[t]) (ht:T t=some ti) (hk:ti.kind=.slice e k b) (hx:get x=.c c)
  (hc:(∃ s e k l,c=.rd s e k l∧m=l.length)∨(∃ i e k a,c=.row i e k a m)∨(∃ e k,c=.nil e k∧m=0)) :
  Did P E w (execOp ρ o) (.c (.at (.int .i64 m))) []:=by
 have hv:∃ A k,ρ x=.slice A m k:=by
  have h:=zB1 hT hW hg (zfr hg hx)
  rcases hc with ⟨s,e,k,l,rfl,rfl⟩|⟨i,e,k,a,rfl⟩|⟨e,k,rfl,rfl⟩
  ·exact h
  ·exact h
  ·exact ⟨none,0,h⟩
 obtain ⟨A,c',hv⟩:=hv
 refine did0 hW (v:=.int .i64 m) ?_ rfl
 have has':as=#[x]:=by cases as;simp at has;simp [has]
 have hts':ts=#[t]:=by cases ts;simp at hts;simp [hts]
 subst has';subst hts'
 simp [execOp,ho,resolve,invoke,builtin,Builtin.len_,hv,run_underlying (zcE (hT _ _ ht) hk).1,goInt]
theorem zzB {P:Program} {T:TT} {E:Env} {w:World} {get:Operand→PV} {ρ:Operand→Value} (hT:∀ t ti,T t=some ti→ttOf P t=some ti) (hW:WfE E w) (hg:∀ x,CvP E w (get x) (ρ x)) {o:Oper} {t:TypeId} {x:Operand} {ti:TI} {i:Nm} {kk idx off:Nat} {b:Bk} {es:List Cell} {p:PV} (ho:o.op=.load t x) (ht:T t=some ti) (hx:get x=.c (.ptr i kk idx off)) (hb:BkOk E w i b) (he:b.nth za kk idx=some es) (hs:off+ti.size≤es.length)
  (hp:zhA (isAgg ti) (((es.drop off).take ti.size).map outC)=some p):Did P E w (execOp ρ o) p []:=by
 obtain ⟨v,hv,hc⟩:=zuw (hT _ _ ht) hb he hs hp (zfr hg hx)
 refine did0 hW (v:=v) ?_ hc
 simp only [execOp,ho,Sem.run_bind,hv,Result.andThen_ok,Sem.run_pure]
theorem zzA {P:Program} {T:TT} {E:Env} {w:World} {get:Operand→PV} {ρ:Operand→Value} (hT:∀ t ti,T t=some ti→ttOf P t=some ti) (hW:WfE E w) (hg:∀ x,CvP E w (get x) (ρ x)) {o:Oper} {t:TypeId} {x:Operand} {ti:TI} {s:Bool} {l:List DT} {off:Nat} {p:PV} (ho:o.op=.load t x) (ht:T t=some ti) (hx:get x=.c (.bp s l off)) (hs:off+ti.size≤l.length)
  (hp:zhA (isAgg ti) (((l.drop off).take ti.size).map (zkp · s))=some p):Did P E w (execOp ρ o) p []:=by
 obtain ⟨v,hv,hc⟩:=zAv (hT _ _ ht) hs hp (zfr hg hx)
 refine did0 hW (v:=v) ?_ hc
 simp only [execOp,ho,Sem.run_bind,hv,Result.andThen_ok,Sem.run_pure]
end
theorem zjz (g o n:Nat):(⟨g,o,none⟩:Addr).add n=⟨g,o+n,none⟩:=by
 unfold Addr.add
 split
 ·rename_i h;subst h;rfl
 ·rfl
theorem zke {P:Program} {f:Array Field} {n:Nat} {y:Nat×Nat×Bool} (h:(f.toList.map fun f=>(f.offset,zgm P f.type,aggT P f.type))[n]?=some y):∃ fd,f[n]?=some fd∧y=(fd.offset,zgm P fd.type,aggT P fd.type):=by
 rw [yl] at h
 cases hf:f.toList[n]? with
 | none=>simp [hf] at h
 | some fd =>
  simp only [hf,yk,yd] at h
  exact ⟨fd,by simpa using hf,h.symm⟩
theorem zpX {P:Program} {t:Nat} (h:zgm P t≠0):∃ i d,P.info? t=some i∧i.size=zgm P t∧P.underlying t=some d:=by
 unfold zgm at *
 cases hd:P.underlying t with
 | none=>simp [hd] at h
 | some d =>
  simp only [hd,Option.isSome_some,yK] at h ⊢
  unfold szOf at *
  cases hi:P.info? t with
  | none=>simp [hi] at h
  | some i=>exact ⟨i,d,rfl,by simp,rfl⟩
theorem zo2 {P:Program} {t:TypeId} {f:Array Field} {n:Nat} {fd:Field} (hu:P.underlying t=some (.struct f)) (hf:f[n]?=some fd) (hs:zgm P fd.type≠0) (g o:Nat) (w:World) :
  (Instr.fieldAt t (.pointer (some ⟨g,o,none⟩)) n).run P w=.ok (.pointer (some ⟨g,o+fd.offset,none⟩)) w:=by
 obtain ⟨i,d,hi,hsz,_⟩:=zpX hs
 have:¬ i.size=0:=by rw [hsz];exact hs
 simp only [Instr.fieldAt,Sem.run_bind,run_underlying hu,Result.andThen_ok,hf,Instr.sureAddr,Sem.run_pure,fieldPlace,zgK hi,if_neg this,zjz]
section
theorem zxJ {P:Program} {T:TT} {E:Env} {w:World} {get:Operand→PV} {ρ:Operand→Value} (hT:∀ t ti,T t=some ti→ttOf P t=some ti) (hW:WfE E w) (hg:∀ x,CvP E w (get x) (ρ x)) {o:Oper} {t:TypeId} {x:Operand} {n:Nat} {ti:TI} {fs:List (Nat×Nat×Bool)} {y:Nat×Nat×Bool} {i:Nm} {kk idx off:Nat} (ho:o.op=.fieldAddr t x n) (ht:T t=some ti) (hk:ti.kind=.struct fs) (hy:fs[n]?=some y) (h0:y.2.1≠0) (hx:get x=.c (.ptr i kk idx off)) :
  Did P E w (execOp ρ o) (.c (.ptr i kk idx (off+y.1))) []:=by
 obtain ⟨f,hu,rfl⟩:=ziO (hT _ _ ht) hk
 obtain ⟨fd,hf,rfl⟩:=zke hy
 obtain ⟨g,hφ,hv⟩:=zfr hg hx
 refine did0 hW (v:=.pointer (some ⟨g.1,g.2+idx*kk+(off+fd.offset),none⟩)) ?_ ⟨g,hφ,rfl⟩
 simp only [execOp,ho,hv,Sem.run_bind,zo2 hu hf h0,Result.andThen_ok,Sem.run_pure,yaf]
theorem zzt {P:Program} {T:TT} {E:Env} {w:World} {get:Operand→PV} {ρ:Operand→Value} (hT:∀ t ti,T t=some ti→ttOf P t=some ti) (hW:WfE E w) (hg:∀ x,CvP E w (get x) (ρ x)) {o:Oper} {t:TypeId} {x:Operand} {n:Nat} {ti:TI} {fs:List (Nat×Nat×Bool)} {y:Nat×Nat×Bool} {s:Bool} {l:List DT} {off:Nat} (ho:o.op=.fieldAddr t x n) (ht:T t=some ti) (hk:ti.kind=.struct fs) (hy:fs[n]?=some y) (h0:y.2.1≠0) (hx:get x=.c (.bp s l off)) :
  Did P E w (execOp ρ o) (.c (.bp s l (off+y.1))) []:=by
 obtain ⟨f,hu,rfl⟩:=ziO (hT _ _ ht) hk
 obtain ⟨fd,hf,rfl⟩:=zke hy
 obtain ⟨b,q,hv,hR,hj⟩:=zfr hg hx
 refine did0 hW (v:=.pointer (some ⟨b,q+(off+fd.offset),none⟩)) ?_ ⟨b,q,rfl,hR,hj⟩
 simp only [execOp,ho,hv,Sem.run_bind,zo2 hu hf h0,Result.andThen_ok,Sem.run_pure,yaf]
theorem zCg {P:Program} {T:TT} {E:Env} {w:World} {get:Operand→PV} {ρ:Operand→Value} (hT:∀ t ti,T t=some ti→ttOf P t=some ti) (hW:WfE E w) (hg:∀ x,CvP E w (get x) (ρ x)) {o:Oper} {t:TypeId} {x ix:Operand} {ti:TI} {e' k' by_:Nat} {s:Bool} {e k:Nat} {l:List (List DT)} {ki:IntKind} {a:Int} {es:List DT} (ho:o.op=.indexAddr t x ix) (ht:T t=some ti) (hk:ti.kind=.slice e' k' by_) (hkk:k=k') (hx:get x=.c (.rd s e k l)) (hi:get ix=.c (.at (.int ki a))) (hn:za.nth l a=some es) :
  Did P E w (execOp ρ o) (.c (.bp s es 0)) []:=by
 subst hkk
 obtain ⟨hu,i,hinf,hsz,_⟩:=zcE (hT _ _ ht) hk
 have hr:=zfr hg hx
 obtain ⟨m,hr⟩:=hr
 cases m with
 | zero=>exact hr.elim
 | succ m =>
  obtain ⟨A,c,hv,h1,h2,hj⟩:=hr
  simp only [za] at hn
  split at hn
  ·rename_i h0
   obtain ⟨hlen,b,off,rfl,hR,hc⟩:=hj _ _ hn
   have hlt:=(yc.1 hn).1
   have hin:0≤a∧a < (l.length:Int):=⟨h0,by omega⟩
   refine did0 hW (v:=.pointer (some ⟨b,off+a.toNat*k+0,none⟩)) ?_ ⟨b,off+a.toNat*k,rfl,hR,fun j d hd=>?_⟩
   ·simp only [execOp,ho,hv,zer hg hi,Sem.run_bind,Instr.indexAt,asIntOf,Sem.run_pure,run_underlying hu,Result.andThen_ok,if_pos hin,zgK hinf,zjz,hsz,yL]
   ·obtain ⟨u,hu',hr'⟩:=hc j d hd
    exact ⟨u,hu',m,hr'⟩
  ·cases hn
theorem zAE {P:Program} {T:TT} {E:Env} {w:World} {get:Operand→PV} {ρ:Operand→Value} (hT:∀ t ti,T t=some ti→ttOf P t=some ti) (hW:WfE E w) (hg:∀ x,CvP E w (get x) (ρ x)) {o:Oper} {t:TypeId} {x ix:Operand} {ti:TI} {e' k' by_:Nat} {i:Nm} {e k off m:Nat} {ki:IntKind} {a:Int} {j:Nat} (ho:o.op=.indexAddr t x ix) (ht:T t=some ti) (hk:ti.kind=.slice e' k' by_) (hkk:k=k') (hx:get x=.c (.row i e k off m)) (hi:get ix=.c (.at (.int ki a))) (hn:za.ridx off m a=some j) :
  Did P E w (execOp ρ o) (.c (.ptr i k j 0)) []:=by
 subst hkk
 obtain ⟨hu,inf,hinf,hsz,_⟩:=zcE (hT _ _ ht) hk
 obtain ⟨A,c,hv,h1,h2,h3⟩:=zfr hg hx
 simp only [za] at hn
 split at hn
 ·rename_i h0
  injection hn with hn
  subst hn
  have hin:0≤a∧a < (m:Int):=⟨h0.1,by omega⟩
  rcases h3 with ⟨_,_,hm,_⟩|⟨g,hφ,hA,_⟩
  ·omega
  ·obtain ⟨hA',_⟩:=hA (by omega)
   subst hA'
   refine did0 hW (v:=.pointer (some ⟨g.1,g.2+(off+a.toNat)*k+0,none⟩)) ?_ ⟨g,hφ,rfl⟩
   simp only [execOp,ho,hv,zer hg hi,Sem.run_bind,Instr.indexAt,asIntOf,Sem.run_pure,run_underlying hu,Result.andThen_ok,if_pos hin,zgK hinf,zjz,hsz,yL,yap,yaf]
 ·cases hn
theorem zAF {P:Program} {T:TT} {E:Env} {w:World} {get:Operand→PV} {ρ:Operand→Value} (hT:∀ t ti,T t=some ti→ttOf P t=some ti) (hW:WfE E w) (hg:∀ x,CvP E w (get x) (ρ x)) {o:Oper} {t:TypeId} {x ix:Operand} {ti:TI} {s:ByteArray} {ki:IntKind} {a b:Int} (ho:o.op=.index t x ix) (ht:T t=some ti) (hk:ti.kind=.string) (hx:get x=.c (.at (.string s))) (hi:get ix=.c (.at (.int ki a))) (hn:za.sat s a=some b) :
  Did P E w (execOp ρ o) (.c (.at (.int .u8 b))) []:=by
 simp only [za] at hn
 split at hn
 ·rename_i h0
  cases hb:s.data.toList[a.toNat]? with
  | none=>simp [hb] at hn
  | some y =>
   simp only [hb,yk,yd] at hn
   subst hn
   have hs:s[a.toNat]?=some y:=by
    have hlt:=(yc.1 hb)
    obtain ⟨hlt,he⟩:=hlt
    have hlt':a.toNat < s.size:=by simpa using hlt
    rw [getElem?_pos s a.toNat hlt',← he]
    rfl
   refine did0 hW (v:=.int .u8 y.toNat) ?_ rfl
   simp [execOp,ho,zer hg hx,zer hg hi,Instr.index,asIntOf,run_underlying (zgH (hT _ _ ht) hk),h0,hs]
 ·cases hn
theorem zCf {P:Program} {T:TT} {E:Env} {w:World} {get:Operand→PV} {ρ:Operand→Value} (hT:∀ t ti,T t=some ti→ttOf P t=some ti) (hW:WfE E w) (hg:∀ x,CvP E w (get x) (ρ x)) {o:Oper} {t:TypeId} {x:Operand} {n:Nat} {ti:TI} {fs:List (Nat×Nat×Bool)} {off size:Nat} {ag:Bool} {cs:List Cell} {p:PV} (ho:o.op=.field t x n) (ht:T t=some ti) (hk:ti.kind=.struct fs) (hy:fs[n]?=some (off,size,ag)) (hx:get x=.agg cs) (hs:off+size≤cs.length) (h1:size≠0)
  (hp:zhA ag ((cs.drop off).take size)=some p):Did P E w (execOp ρ o) p []:=by
 obtain ⟨f,hu,rfl⟩:=ziO (hT _ _ ht) hk
 obtain ⟨fd,hf,he⟩:=zke hy
 injection he with e1 e2
 injection e2 with e2 e3
 subst e1;subst e2;subst e3
 have hr:=hg x
 rw [hx] at hr
 obtain ⟨vs,hv,hl,hj⟩:=hr
 obtain ⟨i,d,hi,hsz,hd⟩:=zpX h1
 have hpk:=zmy (E:=E) (w:=w) (cs:=(vs.drop fd.offset).take (zgm P fd.type)) hp (by simp;omega) (fun j c u hc hu=>by
  have hlt:j < zgm P fd.type:=by
   have:=(yc.1 hu).1
   simp at this;omega
  rw [yai hlt,yad] at hc hu
  exact hj _ c u hc hu)
 refine did0 hW ?_ hpk.1
 have hA:(Go.isAgg fd.type).run P w=.ok (aggT P fd.type) w:=by
  unfold Go.isAgg aggT
  rw [hd]
  cases d<;>simp [run_underlying hd]
 simp only [execOp,ho,hv,Sem.run_bind,Instr.field,run_underlying hu,Result.andThen_ok,hf,asAgg,Sem.run_pure,part,hA]
 cases ha:aggT P fd.type with
 | true=>simp [zgK hi,hsz,List.extract_toArray]
 | false =>
  have h1':=hpk.2 ha
  have hs1:zgm P fd.type=1:=by
   simp only [yX,yam] at h1'
   omega
  have hlt:fd.offset < vs.length:=by omega
  have hvo:vs[fd.offset]?=some vs[fd.offset]:=yb hlt
  simp [hs1,hvo,yar,yai]
end
theorem zsB {E:Env} {w:World} {get:Operand→PV} {ρ:Operand→Value} (hg:∀ x,CvP E w (get x) (ρ x)) {x:Option Operand} {a:Option Int} (h:intOf? get x=some a) :
  (x=none∧a=none)∨∃ y k n,x=some y∧a=some n∧ρ y=.int k n:=by
 unfold intOf? at h
 split at h
 ·injection h with h;exact .inl ⟨rfl,h.symm⟩
 ·rename_i y
  split at h
  ·rename_i k n hy
   injection h with h
   exact .inr ⟨y,k,n,rfl,h.symm,zer hg hy⟩
  ·cases h
theorem zkN {P:Program} {E:Env} {w:World} {get:Operand→PV} {ρ:Operand→Value} (hg:∀ x,CvP E w (get x) (ρ x)) {lo hi:Option Operand} {lo' hi':Option Int} (h1:intOf? get lo=some lo') (h2:intOf? get hi=some hi') {isS:Bool} {len cap l h:Nat}
  (hl:zb4 lo' 0=some l) (hh:zb4 hi' len=some h) (hlh:l≤h) (hhl:h≤len) (hlc:len≤cap) :
  (Instr.sliceBounds isS len cap (lo.map ρ) (hi.map ρ) none).run P w=.ok (l,h,cap) w:=by
 have e1:∀ (y:Operand) (k:IntKind) (n:Int),ρ y=.int k n→∀ (m r:Nat) (c:BoundsCode),zb4 (some n) m=some r→r≤m→(Instr.sliceBound (ρ y) m c).run P w=.ok r w:=by
  intro y k n hy m r c hb hle
  unfold zb4 at hb
  simp only at hb
  split at hb
  ·rename_i h0
   injection hb with hb
   subst hb
   simp only [Instr.sliceBound,hy,asIntOf,Sem.run_bind,Sem.run_pure,Result.andThen_ok,if_pos (show 0≤n∧n≤(m:Int) from ⟨h0,by omega⟩)]
  ·cases hb
 have e2:∀ (y:Operand) (k:IntKind) (n:Int),ρ y=.int k n→∀ (m d r:Nat) (c:BoundsCode),zb4 (some n) d=some r→r≤m→(Instr.sliceBound (ρ y) m c).run P w=.ok r w:=by
  intro y k n hy m d r c hb hle
  exact e1 y k n hy m r c hb hle
 rcases zsB hg h1 with ⟨rfl,rfl⟩|⟨y,k,n,rfl,rfl,hy⟩<;>rcases zsB hg h2 with ⟨rfl,rfl⟩|⟨z,k',n',rfl,rfl,hz⟩
 ·simp only [zb4,yd] at hl hh
  subst hl;subst hh
  simp [Instr.sliceBounds]
 ·simp only [zb4,yd] at hl
  subst hl
  simp [Instr.sliceBounds,e2 z k' n' hz _ _ _ _ hh (show h≤cap by omega)]
 ·simp only [zb4,yd] at hh
  subst hh
  simp [Instr.sliceBounds,e2 y k n hy _ _ _ _ hl (show l≤len by omega)]
 ·simp [Instr.sliceBounds,e2 z k' n' hz _ _ _ _ hh (show h≤cap by omega),e2 y k n hy _ _ _ _ hl hlh]
section
theorem zxQ {P:Program} {T:TT} {E:Env} {w:World} {get:Operand→PV} {ρ:Operand→Value} (hT:∀ t ti,T t=some ti→ttOf P t=some ti) (hW:WfE E w) (hg:∀ x,CvP E w (get x) (ρ x)) {o:Oper} {t:TypeId} {x:Operand} {lo hi:Option Operand} {lo' hi':Option Int} {ti:TI} {s s':ByteArray} (ho:o.op=.slice t x lo hi none) (h1:intOf? get lo=some lo') (h2:intOf? get hi=some hi') (ht:T t=some ti) (hk:ti.kind=.string) (hx:get x=.c (.at (.string s))) (hn:za.ssub s lo' hi'=some s') :
  Did P E w (execOp ρ o) (.c (.at (.string s'))) []:=by
 have hu:=zgH (hT _ _ ht) hk
 simp only [za] at hn
 split at hn
 ·rename_i l h hl hh
  split at hn
  ·rename_i hc
   injection hn with hn
   subst hn
   refine did0 hW (v:=.string (s.extract l h)) ?_ rfl
   simp only [execOp,ho,zer hg hx,Sem.run_bind,Instr.sliceAt,Instr.slice,run_underlying hu,Result.andThen_ok,yco,Option.isSome_none,yi,yH,Sem.run_pure,zkN hg h1 h2 hl hh hc.1 hc.2 (yz _)]
  ·cases hn
 ·cases hn
theorem zzE {P:Program} {T:TT} {E:Env} {w:World} {get:Operand→PV} {ρ:Operand→Value} (hT:∀ t ti,T t=some ti→ttOf P t=some ti) (hW:WfE E w) (hg:∀ x,CvP E w (get x) (ρ x)) {o:Oper} {t:TypeId} {x:Operand} {lo hi:Option Operand} {lo' hi':Option Int} {ti:TI} {e' k' by_:Nat} {s:Bool} {e k:Nat} {xs ys:List (List DT)} (ho:o.op=.slice t x lo hi none) (h1:intOf? get lo=some lo') (h2:intOf? get hi=some hi') (ht:T t=some ti) (hk:ti.kind=.slice e' k' by_) (hkk:k=k') (hx:get x=.c (.rd s e k xs)) (hn:za.sub xs lo' hi'=some ys) :
  Did P E w (execOp ρ o) (.c (.rd s e k ys)) []:=by
 subst hkk
 obtain ⟨hu,inf,hinf,hsz,_⟩:=zcE (hT _ _ ht) hk
 obtain ⟨m,hr⟩:=zfr hg hx
 cases m with
 | zero=>exact hr.elim
 | succ m =>
  obtain ⟨A,c,hv,hc1,hc2,hj⟩:=hr
  simp only [za] at hn
  split at hn
  ·rename_i l h hl hh
   split at hn
   ·rename_i hc
    injection hn with hn
    subst hn
    have hlen:((xs.drop l).take (h - l)).length=h - l:=by simp;omega
    refine did0 hW (v:=.slice (if c=l then A else A.map (·.add (l*k))) (h - l) (c - l)) ?_ ?_
    ·simp only [execOp,ho,hv,Sem.run_bind,Instr.sliceAt,Instr.slice,run_underlying hu,Result.andThen_ok,yco,Sem.run_pure,zkN hg h1 h2 hl hh hc.1 hc.2 hc1,zgK hinf,hsz]
    ·refine ⟨m+1,_,_,by rw [hlen],by rw [hlen];omega,by omega,fun i es hi=>?_⟩
     have hlt:i < h - l:=by have:=(yc.1 hi).1;omega
     rw [yai hlt,yad] at hi
     obtain ⟨hes,b,off,rfl,hR,hcell⟩:=hj _ _ hi
     refine ⟨hes,b,off+l*k,?_,hR,fun j d hd=>?_⟩
     ·rw [if_neg (by omega)];simp [zjz]
     ·obtain ⟨u,hu',hr'⟩:=hcell j d hd
      exact ⟨u,by rw [← hu',yap,yaf off],hr'⟩
   ·cases hn
  ·cases hn
theorem zxP {P:Program} {T:TT} {E:Env} {w:World} {get:Operand→PV} {ρ:Operand→Value} (hT:∀ t ti,T t=some ti→ttOf P t=some ti) (hW:WfE E w) (hg:∀ x,CvP E w (get x) (ρ x)) {o:Oper} {t:TypeId} {x:Operand} {lo hi:Option Operand} {lo' hi':Option Int} {ti:TI} {e' k' by_:Nat} {i:Nm} {e k off n off' n':Nat} (ho:o.op=.slice t x lo hi none) (h1:intOf? get lo=some lo') (h2:intOf? get hi=some hi') (ht:T t=some ti) (hk:ti.kind=.slice e' k' by_) (hkk:k=k') (hx:get x=.c (.row i e k off n)) (hn:za.rsub off n lo' hi'=some (off',n')) :
  Did P E w (execOp ρ o) (.c (.row i e k off' n')) []:=by
 subst hkk
 obtain ⟨hu,inf,hinf,hsz,_⟩:=zcE (hT _ _ ht) hk
 obtain ⟨A,c,hv,hc1,hc2,h3⟩:=zfr hg hx
 simp only [za] at hn
 split at hn
 ·rename_i l h hl hh
  split at hn
  ·rename_i hc
   injection hn with hn
   injection hn with hn1 hn2
   subst hn1;subst hn2
   refine did0 hW (v:=.slice (if c=l then A else A.map (·.add (l*k))) (h - l) (c - l)) ?_ ?_
   ·simp only [execOp,ho,hv,Sem.run_bind,Instr.sliceAt,Instr.slice,run_underlying hu,Result.andThen_ok,yco,Sem.run_pure,zkN hg h1 h2 hl hh hc.1 hc.2 hc1,zgK hinf,hsz]
   ·refine ⟨_,_,rfl,by omega,by omega,?_⟩
    rcases h3 with ⟨hφ,rfl,rfl,rfl,rfl⟩|⟨g,hφ,hA,hA0⟩
    ·exact .inl ⟨hφ,by simp,by omega,by omega,by omega⟩
    ·refine .inr ⟨g,hφ,fun hp=>?_,fun h0=>?_⟩
     ·have hne:¬ c=l:=by omega
      have hlc:l+(c - l)=c:=by omega
      have hn0:0 < n:=by omega
      obtain ⟨rfl,cur,e1,fz,hh',hs⟩:=hA hn0
      refine ⟨?_,cur,e1,fz,hh',?_⟩
      ·rw [if_neg hne]
       simp [zjz,yap,yaf]
      ·have e:c*k=l*k+(c - l)*k:=by
        rw [← yap,hlc]
       rw [hs,e,yap off]
       simp only [yaf]
     ·have hl0:l=0:=by omega
      have ho0:off=0:=by omega
      subst hl0
      obtain ⟨rfl,cur,e1,fz,hh',hs⟩:=hA0 ho0
      refine ⟨?_,cur,e1,fz,hh',by simpa using hs⟩
      split
      ·rfl
      ·simp [zjz]
  ·cases hn
 ·cases hn
theorem zxO {P:Program} {T:TT} {E:Env} {w:World} {get:Operand→PV} {ρ:Operand→Value} (hT:∀ t ti,T t=some ti→ttOf P t=some ti) (hW:WfE E w) (hg:∀ x,CvP E w (get x) (ρ x)) {o:Oper} {t:TypeId} {x:Operand} {lo hi:Option Operand} {lo' hi':Option Int} {ti:TI} {e' k' by_ e k:Nat} {r:Nat×Nat} (ho:o.op=.slice t x lo hi none) (h1:intOf? get lo=some lo') (h2:intOf? get hi=some hi') (ht:T t=some ti) (hk:ti.kind=.slice e' k' by_) (hx:get x=.c (.nil e k)) (hn:za.rsub 0 0 lo' hi'=some r) :
  Did P E w (execOp ρ o) (.c (.nil e k)) []:=by
 obtain ⟨hu,inf,hinf,hsz,_⟩:=zcE (hT _ _ ht) hk
 have hv:ρ x=.slice none 0 0:=zfr hg hx
 simp only [za] at hn
 split at hn
 ·rename_i l h hl hh
  split at hn
  ·rename_i hc
   have hl0:l=0:=by omega
   have hh0:h=0:=by omega
   subst hl0;subst hh0
   refine did0 hW (v:=.slice none 0 0) ?_ rfl
   simp [execOp,ho,hv,Instr.sliceAt,Instr.slice,run_underlying hu,zkN (P:=P) hg h1 h2 hl hh hc.1 hc.2 (yz _),zgK hinf]
  ·cases hn
 ·cases hn
theorem zV {α β:Type} {f:α→Option β}:∀ {l:List α} {r:List β},mapO f l=some r→r.length=l.length∧∀ (i:Nat) x,l[i]?=some x→∃ y,r[i]?=some y∧f x=some y
 | [],r,h=>by simp [mapO] at h;subst h;exact ⟨rfl,fun i x hx=>by simp at hx⟩
 | x::l,r,h=>by
  unfold mapO at h
  split at h
  ·rename_i y hy
   cases hm:mapO f l with
   | none=>simp [hm] at h
   | some r' =>
    simp only [hm,yk,yd] at h
    subst h
    obtain ⟨h1,h2⟩:=zV hm
    refine ⟨by simp [h1],fun i z hz=>?_⟩
    cases i with
    | zero=>simp at hz;subst hz;exact ⟨y,rfl,hy⟩
    | succ i=>simp at hz;obtain ⟨y',hy',hf⟩:=h2 i z hz;exact ⟨y',by simpa using hy',hf⟩
  ·cases h
theorem zxM {P:Program} {T:TT} {E:Env} {w:World} {get:Operand→PV} {ρ:Operand→Value} (hT:∀ t ti,T t=some ti→ttOf P t=some ti) (hW:WfE E w) (hg:∀ x,CvP E w (get x) (ρ x)) {o:Oper} {f:FuncId} {first caps:Array Operand} {cs:List Cell} (ho:o.op=.makeFunc (.func f) first caps) (h0:first.size=0) (hc:mapO (cellOf? get) caps.toList=some cs):Did P E w (execOp ρ o) (.c (.fn f cs)) []:=by
 have hf:first=#[]:=by simpa using h0
 subst hf
 refine did0 hW (v:=.func (.func f) #[] (caps.map ρ)) (by simp [execOp,ho,Instr.makeFunc]) ?_
 obtain ⟨hl,hj⟩:=zV hc
 refine ⟨(caps.map ρ).toList,by rw [ybW],by simp [hl],fun j x u hx hu=>?_⟩
 simp only [yaY,yl] at hu
 cases hcj:caps.toList[j]? with
 | none=>simp [hcj] at hu
 | some y =>
  simp only [hcj,yk,yd] at hu
  subst hu
  obtain ⟨x',hx',hcell⟩:=hj j y hcj
  rw [hx'] at hx
  injection hx with hx
  subst hx
  unfold cellOf? at hcell
  split at hcell
  ·rename_i z hz
   split at hcell
   ·cases hcell
   ·rename_i hne
    injection hcell with hcell
    subst hcell
    have:=zfr hg hz
    cases z<;>first|exact this|(exfalso;exact hne _ _ rfl)
  ·cases hcell
end
end Go.Proofs.YtflhdodikmmdcaaGreat
