import Derived.Test.YtflhdodikmmdcaaGreatDelR
import Derived.Test.YtflhdodikmmdcaaGreatIns
import Derived.Test.YtflhdodikmmdcaaGreatSy1
import Derived.Test.YtflhdodikmmdcaaGreatSy2
import Derived.Test.YtflhdodikmmdcaaGreatExG
import Derived.Test.YtflhdodikmmdcaaGreatSt
import Derived.Test.YtflhdodikmmdcaaGreatEnc
import Derived.Test.YtflhdodikmmdcaaGreatSd
import Derived.Test.YtflhdodikmmdcaaGreatSf
import Derived.Test.YtflhdodikmmdcaaGreatK3
import Derived.Test.YtflhdodikmmdcaaGreatK2
import Derived.Test.YtflhdodikmmdcaaGreatK4
import Derived.Test.YtflhdodikmmdcaaGreatK5
import Derived.Test.YtflhdodikmmdcaaGreatK6
import Derived.Test.YtflhdodikmmdcaaGreatK7
import Derived.Test.YtflhdodikmmdcaaGreatK8
import Derived.Test.YtflhdodikmmdcaaGreatK9
import Derived.Test.YtflhdodikmmdcaaGreatK12
import Derived.Test.YtflhdodikmmdcaaGreatK11
namespace Go.Proofs.YtflhdodikmmdcaaGreat
open Go.RowKit
set_option linter.unusedVariables false
set_option linter.unusedSimpArgs false
set_option maxRecDepth 100000
noncomputable section
theorem zsu:EncOw rData zan:=EncOw.via (EncOw.pair (EncOw.sl 9 (EncOw.one (fun s:ByteArray=>.string s)) (by decide)) (EncOw.pair (EncOw.sl 5 (EncOw.one (fun b:UInt8=>.int .u8 b.toNat)) (by decide)) (EncOw.pair (EncOw.sl 9 (EncOw.one (fun s:ByteArray=>.string s)) (by decide)) (EncOw.pair (EncOw.one (fun n:Int=>.int .i64 n)) (EncOw.one (fun n:Int=>.int .i64 n)))))) (fun x:zp=>(x.name,x.content,x.keyName,x.freshUntil,x.signature))
theorem zqi:EncOw rCacheEntry zo:=EncOw.via (EncOw.pair zsu (EncOw.one (fun n:Int=>.int .i64 n))) (fun x:zi=>(x.data,x.lastUsed))
theorem zot:EncOw rContentStore zi1:=EncOw.via (EncOw.pair (EncOw.one (fun n:Int=>.int .i64 n)) (EncOw.sl 176 zqi (by decide))) (fun x:zk=>(x.capacity,x.entries))
theorem zrI:EncOw rRequester zl:=EncOw.via (EncOw.pair (EncOw.one (fun n:Int=>.int .i64 n)) (EncOw.pair (EncOw.one (fun n:Int=>.int .i64 n)) (EncOw.one (fun n:Int=>.int .i64 n)))) (fun x:zf=>(x.face,x.nonce,x.expiry))
theorem zme:EncOw rPendingInterest zj:=EncOw.via (EncOw.pair (EncOw.sl 9 (EncOw.one (fun s:ByteArray=>.string s)) (by decide)) (EncOw.pair (EncOw.sl 180 zrI (by decide)) (EncOw.one (fun n:Int=>.int .i64 n)))) (fun x:zb=>(x.name,x.requesters,x.lastSent))
theorem zrJ:EncOw rSeenNonce zu:=EncOw.via (EncOw.pair (EncOw.sl 9 (EncOw.one (fun s:ByteArray=>.string s)) (by decide)) (EncOw.one (fun n:Int=>.int .i64 n))) (fun x:zg=>(x.name,x.nonce))
theorem zxi:EncOw rRoute zr:=EncOw.via (EncOw.pair (EncOw.sl 9 (EncOw.one (fun s:ByteArray=>.string s)) (by decide)) (EncOw.pair (EncOw.one (fun n:Int=>.int .i64 n)) (EncOw.one (fun n:Int=>.int .i64 n)))) (fun x:zh=>(x.pfx,x.face,x.cost))
theorem zpf:EncOw rMeasurement zv:=EncOw.via (EncOw.pair (EncOw.sl 9 (EncOw.one (fun s:ByteArray=>.string s)) (by decide)) (EncOw.pair (EncOw.one (fun n:Int=>.int .i64 n)) (EncOw.one (fun n:Int=>.int .i64 n)))) (fun x:zc=>(x.pfx,x.face,x.failures))
theorem zyS:EncOw rNode zkd:=EncOw.via (EncOw.pair (EncOw.sl 125 zsu (by decide)) (EncOw.pair zot (EncOw.pair (EncOw.sl 147 zme (by decide)) (EncOw.pair (EncOw.sl 150 zrJ (by decide)) (EncOw.pair (EncOw.sl 153 zxi (by decide)) (EncOw.pair (EncOw.sl 156 zpf (by decide)) (EncOw.one (fun n:Int=>.int .i64 n)))))))) (fun x:zq=>(x.locals,x.cache,x.pending,x.seen,x.routes,x.measurements,x.dropped))
theorem zs5:EncOw rInterest zF:=EncOw.via (EncOw.pair (EncOw.sl 9 (EncOw.one (fun s:ByteArray=>.string s)) (by decide)) (EncOw.pair (EncOw.one (fun n:Int=>.int .i64 n)) (EncOw.pair (EncOw.one (fun n:Int=>.int .i64 n)) (EncOw.one (fun n:Int=>.int .i64 n))))) (fun x:ze=>(x.name,x.nonce,x.hopLimit,x.lifetime))
theorem zyO (x y:zp) (h:zan x=zan y):x=y:=by
 obtain ⟨x0,x1,x2,x3,x4⟩:=x
 obtain ⟨y0,y1,y2,y3,y4⟩:=y
 simp only [zan,yab,DT.at.injEq,DT.sl.injEq,Value.int.injEq,Value.bool.injEq,Value.string.injEq,yu,yx] at h
 obtain ⟨h0,h1,h2,h3,h4⟩:=h
 obtain rfl:=zaN zgY h0
 obtain rfl:=zaN zyR h1
 obtain rfl:=zaN zgY h2
 obtain rfl:=h3
 obtain rfl:=h4
 rfl
theorem zqg (x y:zi) (h:zo x=zo y):x=y:=by
 obtain ⟨⟨x0,x1,x2,x3,x4⟩,x5⟩:=x
 obtain ⟨⟨y0,y1,y2,y3,y4⟩,y5⟩:=y
 simp only [zo,yab,DT.at.injEq,DT.sl.injEq,Value.int.injEq,Value.bool.injEq,Value.string.injEq,yu,yx] at h
 obtain ⟨h0,h1,h2,h3,h4,h5⟩:=h
 obtain rfl:=zaN zgY h0
 obtain rfl:=zaN zyR h1
 obtain rfl:=zaN zgY h2
 obtain rfl:=h3
 obtain rfl:=h4
 obtain rfl:=h5
 rfl
theorem zrF (x y:zf) (h:zl x=zl y):x=y:=by
 obtain ⟨x0,x1,x2⟩:=x
 obtain ⟨y0,y1,y2⟩:=y
 simp only [zl,yab,DT.at.injEq,DT.sl.injEq,Value.int.injEq,Value.bool.injEq,Value.string.injEq,yu,yx] at h
 obtain ⟨h0,h1,h2⟩:=h
 obtain rfl:=h0
 obtain rfl:=h1
 obtain rfl:=h2
 rfl
theorem zmd (x y:zb) (h:zj x=zj y):x=y:=by
 obtain ⟨x0,x1,x2⟩:=x
 obtain ⟨y0,y1,y2⟩:=y
 simp only [zj,yab,DT.at.injEq,DT.sl.injEq,Value.int.injEq,Value.bool.injEq,Value.string.injEq,yu,yx] at h
 obtain ⟨h0,h1,h2⟩:=h
 obtain rfl:=zaN zgY h0
 obtain rfl:=zaN zrF h1
 obtain rfl:=h2
 rfl
theorem zrG (x y:zg) (h:zu x=zu y):x=y:=by
 obtain ⟨x0,x1⟩:=x
 obtain ⟨y0,y1⟩:=y
 simp only [zu,yab,DT.at.injEq,DT.sl.injEq,Value.int.injEq,Value.bool.injEq,Value.string.injEq,yu,yx] at h
 obtain ⟨h0,h1⟩:=h
 obtain rfl:=zaN zgY h0
 obtain rfl:=h1
 rfl
theorem zxg (x y:zh) (h:zr x=zr y):x=y:=by
 obtain ⟨x0,x1,x2⟩:=x
 obtain ⟨y0,y1,y2⟩:=y
 simp only [zr,yab,DT.at.injEq,DT.sl.injEq,Value.int.injEq,Value.bool.injEq,Value.string.injEq,yu,yx] at h
 obtain ⟨h0,h1,h2⟩:=h
 obtain rfl:=zaN zgY h0
 obtain rfl:=h1
 obtain rfl:=h2
 rfl
theorem zpe (x y:zc) (h:zv x=zv y):x=y:=by
 obtain ⟨x0,x1,x2⟩:=x
 obtain ⟨y0,y1,y2⟩:=y
 simp only [zv,yab,DT.at.injEq,DT.sl.injEq,Value.int.injEq,Value.bool.injEq,Value.string.injEq,yu,yx] at h
 obtain ⟨h0,h1,h2⟩:=h
 obtain rfl:=zaN zgY h0
 obtain rfl:=h1
 obtain rfl:=h2
 rfl
theorem zyQ (x y:zq) (h:zkd x=zkd y):x=y:=by
 obtain ⟨x0,⟨x1,x2⟩,x3,x4,x5,x6,x7⟩:=x
 obtain ⟨y0,⟨y1,y2⟩,y3,y4,y5,y6,y7⟩:=y
 simp only [zkd,yab,DT.at.injEq,DT.sl.injEq,Value.int.injEq,Value.bool.injEq,Value.string.injEq,yu,yx] at h
 obtain ⟨h0,h1,h2,h3,h4,h5,h6,h7⟩:=h
 obtain rfl:=zaN zyO h0
 obtain rfl:=h1
 obtain rfl:=zaN zqg h2
 obtain rfl:=zaN zmd h3
 obtain rfl:=zaN zrG h4
 obtain rfl:=zaN zxg h5
 obtain rfl:=zaN zpe h6
 obtain rfl:=h7
 rfl
theorem zs3 (x y:ze) (h:zF x=zF y):x=y:=by
 obtain ⟨x0,x1,x2,x3⟩:=x
 obtain ⟨y0,y1,y2,y3⟩:=y
 simp only [zF,yab,DT.at.injEq,DT.sl.injEq,Value.int.injEq,Value.bool.injEq,Value.string.injEq,yu,yx] at h
 obtain ⟨h0,h1,h2,h3⟩:=h
 obtain rfl:=zaN zgY h0
 obtain rfl:=h1
 obtain rfl:=h2
 obtain rfl:=h3
 rfl
def zlO (i:zq×Int):List Arg:=[.a (zkd i.1),.v (.at (.int .i64 i.2))]
def zq0 (i:zq×Int):Option (List Arg):=(zaQ i.1 i.2).bind fun r=>some [.v (.at (.int .i64 r.2)),.a (zkd r.1),.v (.at (.int .i64 i.2))]
theorem zwS (i j:zq×Int) (h:zlO i=zlO j):i=j:=by
 simp only [zlO,yab,Arg.a.injEq,Arg.v.injEq,DT.at.injEq,Value.int.injEq,yu,yx] at h
 exact Prod.ext (zyQ _ _ h.1) h.2
theorem zz6 (w0:World) (xs ys:List Arg) (h:xOf zlO zq0 xs=some ys):zl5 Tryz.prog (bs0 w0) 12 xs ys:=by
 obtain ⟨⟨x,k⟩,rfl,hr⟩:=zgN h
 unfold zq0 zaQ at hr
 dsimp only at hr
 split at hr
 ·rename_i hc
  simp only [ya,yd] at hr
  subst hr
  exact zB5 zyS (fun _ _=>by kernel_rfl) (fun w cs fp ho=>zxC cs x fp k w ho hc.1 hc.2)
 ·cases hr
def zhW (i:(List ze)×Int):List Arg:=[.v (DT.sl 73 4 (i.1.map zF)),.v (.at (.int .i64 i.2))]
def zkk (i:(List ze)×Int):Option (List Arg):=(zcV i.1 i.2).bind fun r=>some [.v (.at (.int .i64 r.2)),.v (DT.sl 73 4 (r.1.map zF)),.v (.at (.int .i64 i.2))]
theorem zp3 (i j:(List ze)×Int) (h:zhW i=zhW j):i=j:=by
 simp only [zhW,yab,Arg.a.injEq,Arg.v.injEq,DT.at.injEq,DT.sl.injEq,Value.int.injEq,yu,yx] at h
 exact Prod.ext (zaN zs3 h.1) h.2
theorem zsW (w0:World) (xs ys:List Arg) (h:xOf zhW zkk xs=some ys):zl5 Tryz.prog (bs0 w0) 13 xs ys:=by
 obtain ⟨⟨x,k⟩,rfl,hr⟩:=zgN h
 unfold zkk zcV at hr
 dsimp only at hr
 split at hr
 ·rename_i hc
  simp only [ya,yd] at hr
  subst hr
  exact zB6 (e:=fun l=>DT.sl 73 4 (l.map zF)) (EncOw.sl 73 zs5 (by decide)) (fun _ _=>by kernel_rfl) (fun w v fp ho=>zqE v x fp k w ho hc.1 hc.2)
 ·cases hr
def XT:Fns:=fun f xs=>if f=(157+2 ^ 40) then (xOf zn3 zxV) xs else (fun f xs=>if f=(161+2 ^ 40) then (xOf aIns rIns) xs else (fun f xs=>if f=(195+2 ^ 40) then (xOf zn4 zxW) xs else (fun f xs=>if f=(163+2 ^ 40) then (xOf zn2 zxU) xs else (fun f xs=>if f=(220+2 ^ 40) then (xOf aSy1 (rSy1 128)) xs else (fun f xs=>if f=(222+2 ^ 40) then (xOf aSy2 (rSy2 128)) xs else (fun f xs=>if f=(12+2 ^ 40) then (xOf zlO zq0) xs else (fun f xs=>if f=(13+2 ^ 40) then (xOf zhW zkk) xs else (fun _ _=>none) f xs) f xs) f xs) f xs) f xs) f xs) f xs) f xs
theorem zCX (w0:World):zay Tryz.prog XT (bs0 w0):=(zhw (g:=157) rfl (zz8 w0) (zhw (g:=161) rfl (zBw w0) (zhw (g:=195) rfl (zz9 w0) (zhw (g:=163) rfl (zz7 w0) (zhw (g:=220) rfl (ztK w0 128) (zhw (g:=222) rfl (ztL w0 128) (zsR (g:=12) rfl (zz6 w0) (zsR (g:=13) rfl (zsW w0) (ziE _ (bs0 w0))))))))))
theorem zh0 (a0:(List zf)) (c1_0:Int):XT (157+2 ^ 40) (zn3 (a0,c1_0))=(zC a0 c1_0).bind fun r=>some [.v (.sl 180 3 (List.map zl r))]:=by
 unfold XT
 exact (if_pos rfl).trans (ziV zyn (a0,c1_0))
theorem znX (a0:List zf) (a1:Int) (a2:zf):XT (161+2 ^ 40) (aIns (a0,a1,a2))=(zaJ a0 a1 a2).bind fun r=>some [.v (.sl 180 3 (List.map zl r))]:=by
 unfold XT
 exact (if_neg (by decide)).trans ((if_pos rfl).trans (ziV zAa (a0,a1,a2)))
theorem zjV (a0:(List zh)) (c1_0:(List ByteArray)):XT (195+2 ^ 40) (zn4 (a0,c1_0))=(zY a0 c1_0).bind fun r=>some [.v (.sl 153 3 (List.map zr r))]:=by
 unfold XT
 exact (if_neg (by decide)).trans ((if_neg (by decide)).trans ((if_pos rfl).trans (ziV zyo (a0,c1_0))))
theorem ziU (a0:(List Int)) (c1_0:Int):XT (163+2 ^ 40) (zn2 (a0,c1_0))=(zN a0 c1_0).bind fun r=>some [.v (.sl 3 1 (List.map eI r))]:=by
 unfold XT
 exact (if_neg (by decide)).trans ((if_neg (by decide)).trans ((if_neg (by decide)).trans ((if_pos rfl).trans (ziV zym (a0,c1_0)))))
theorem ziH (a0:(List zh)) (a1:Int) (a2:Int) (a3:Int):XT (220+2 ^ 40) (aSy1 (a0,a1,a2,a3))=(zaY a0 a1 a2 a3).bind fun r=>some [.v (.sl 153 3 (List.map zr r))]:=by
 unfold XT
 exact (if_neg (by decide)).trans ((if_neg (by decide)).trans ((if_neg (by decide)).trans ((if_neg (by decide)).trans ((if_pos rfl).trans (ziV ztM (a0,a1,a2,a3))))))
theorem ziI (a0:(List Int)) (a1:Int) (a2:Int) (a3:Int) (c4_0:(List zc)) (c4_1:(List ByteArray)):XT (222+2 ^ 40) (aSy2 (a0,a1,a2,a3,c4_0,c4_1))=(za4 a0 a1 a2 a3 c4_0 c4_1).bind fun r=>some [.v (.sl 3 1 (List.map eI r))]:=by
 unfold XT
 exact (if_neg (by decide)).trans ((if_neg (by decide)).trans ((if_neg (by decide)).trans ((if_neg (by decide)).trans ((if_neg (by decide)).trans ((if_pos rfl).trans (ziV ztN (a0,a1,a2,a3,c4_0,c4_1)))))))
theorem zyk (a0:zq) (a1:Int):XT (12+2 ^ 40) (zlO (a0,a1))=zq0 (a0,a1):=by
 unfold XT
 exact (if_neg (by decide)).trans ((if_neg (by decide)).trans ((if_neg (by decide)).trans ((if_neg (by decide)).trans ((if_neg (by decide)).trans ((if_neg (by decide)).trans ((if_pos rfl).trans (ziV zwS (a0,a1))))))))
theorem zrn (a0:(List ze)) (a1:Int):XT (13+2 ^ 40) (zhW (a0,a1))=zkk (a0,a1):=by
 unfold XT
 exact (if_neg (by decide)).trans ((if_neg (by decide)).trans ((if_neg (by decide)).trans ((if_neg (by decide)).trans ((if_neg (by decide)).trans ((if_neg (by decide)).trans ((if_neg (by decide)).trans ((if_pos rfl).trans (ziV zp3 (a0,a1)))))))))
end
end Go.Proofs.YtflhdodikmmdcaaGreat
namespace Go.Proofs.YtflhdodikmmdcaaGreat
open Go.RowKit
set_option linter.unusedVariables false
set_option linter.unusedSimpArgs false
set_option maxRecDepth 100000
noncomputable section
abbrev FT (n:Nat):Fns:=R0.FT XT n
theorem FT_ok (w0:World) (hX:zay Tryz.prog XT (bs0 w0)) (n:Nat):zay Tryz.prog (FT n) (bs0 w0):=R0.FT_ok XT w0 hX n
theorem FT_at {f:FuncId} {fe:FE} (hG:GT f=some fe) (n:Nat) (xs:List Arg):FT (n+1) f xs=zk3 za (fun F lv=>zdb F lv fuel) TY (FT n) fe xs:=R0.FT_at XT hG n xs
theorem FT_x {f:FuncId} (hG:GT f=none) (hv:zmN f=none) (hs:spcF f=none) (n:Nat) (xs:List Arg):FT n f xs=XT f xs:=R0.FT_x XT hG hv hs n xs
theorem FT_xs {f g:FuncId} (hG:GT f=none) (hv:zmN f=none) (hs:spcF f=some g) (hg:GT g=none) (n:Nat) (xs:List Arg):FT n f xs=XT f xs:=R0.FT_xs XT hG hv hs hg n xs
theorem nx (n:Nat):Nx GT pk0 (FT n) (FT (n+1)):=R0.nx XT n
theorem nx2 (n:Nat):Nx2 GT pk0 (FT n) (FT (n+1)):=R0.nx2 XT n
theorem h_A5 (n:Nat):A5 pk0 (FT n):=⟨fun a0 c1_0=>(FT_x rfl rfl rfl n _).trans (zh0 a0 c1_0)⟩
theorem h_A6 (n:Nat):A6 pk0 (FT n):=⟨fun a0 a1 a2=>(FT_x rfl rfl rfl n _).trans (znX a0 a1 a2)⟩
theorem h_A7 (n:Nat):A7 pk0 (FT n):=⟨fun a0 c1_0=>(FT_x rfl rfl rfl n _).trans (zjV a0 c1_0)⟩
theorem h_A8 (n:Nat):A8 pk0 (FT n):=⟨fun a0 a1 a2 a3=>(FT_xs rfl rfl rfl rfl n _).trans (ziH a0 a1 a2 a3)⟩
theorem h_A9 (n:Nat):A9 pk0 (FT n):=⟨fun a0 c1_0=>(FT_x rfl rfl rfl n _).trans (ziU a0 c1_0)⟩
theorem zC5 (n:Nat):A11 pk0 (FT n):=⟨fun a0 a1 a2 a3 c4_0 c4_1=>(FT_xs rfl rfl rfl rfl n _).trans (ziI a0 a1 a2 a3 c4_0 c4_1)⟩
theorem zC6 (n:Nat):A12 pk0 (FT n):=⟨fun a0 a1=>(FT_x rfl rfl rfl n _).trans (zyk a0 a1)⟩
theorem zC7 (n:Nat):A13 pk0 (FT n):=⟨fun a0 a1=>(FT_x rfl rfl rfl n _).trans (zrn a0 a1)⟩
theorem h_C0 (n:Nat) (h:1≤n):C0 pk0 (FT n):=R0.h_C0 XT n h
theorem h_C2 (n:Nat) (h:1≤n):C2 pk0 (FT n):=R0.h_C2 XT n h
theorem h_C6 (n:Nat) (h:1≤n):C6 pk0 (FT n):=R0.h_C6 XT n h
theorem h_C8 (n:Nat) (h:1≤n):C8 pk0 (FT n):=R0.h_C8 XT n h
theorem h_C10 (n:Nat) (h:1≤n):C10 pk0 (FT n):=R0.h_C10 XT n h
theorem h_C12 (n:Nat) (h:1≤n):C12 pk0 (FT n):=R0.h_C12 XT n h
theorem h_C19 (n:Nat) (h:1≤n):C19 pk0 (FT n):=R0.h_C19 XT n h
theorem h_G1:∀ n,1≤n→G1 pk0 (FT n):=hS fun m h=>(tMC0 (nx m) (nx2 m)).2.2.2.2.2.1
theorem h_G2:∀ n,1≤n→G2 pk0 (FT n):=hS fun m h=>(tMC0 (nx m) (nx2 m)).2.2.2.2.2.2
theorem h_G3:∀ n,1≤n→G3 pk0 (FT n):=hS fun m h=>(tMG3 (nx m) (nx2 m)).1
theorem h_A1:∀ n,1≤n→A1 pk0 (FT n):=hS fun m h=>⟨fun a0=>(FT_at rfl m _).trans (zrD (FT m)  a0)⟩
theorem h_A2:∀ n,1≤n→A2 pk0 (FT n):=hS fun m h=>⟨fun a0=>(FT_at rfl m _).trans (zt6 (FT m)  a0)⟩
theorem h_A3:∀ n,1≤n→A3 pk0 (FT n):=hS fun m h=>⟨fun a0=>(FT_at rfl m _).trans (zor (FT m)  a0)⟩
theorem zC4:∀ n,1≤n→A10 pk0 (FT n):=hS fun m h=>⟨fun a0=>(FT_at rfl m _).trans (zvD (FT m)  a0)⟩
theorem zC8:∀ n,1≤n→A14 pk0 (FT n):=hS fun m h=>⟨fun a0=>(FT_at rfl m _).trans (zxf (FT m)  a0)⟩
theorem h_C1 (n:Nat) (h:2≤n):C1 pk0 (FT n):=R0.h_C1 XT n h
theorem h_C3 (n:Nat) (h:2≤n):C3 pk0 (FT n):=R0.h_C3 XT n h
theorem h_C7 (n:Nat) (h:2≤n):C7 pk0 (FT n):=R0.h_C7 XT n h
theorem h_C11 (n:Nat) (h:2≤n):C11 pk0 (FT n):=R0.h_C11 XT n h
theorem h_C13 (n:Nat) (h:2≤n):C13 pk0 (FT n):=R0.h_C13 XT n h
theorem h_C20 (n:Nat) (h:2≤n):C20 pk0 (FT n):=R0.h_C20 XT n h
theorem h_G4:∀ n,2≤n→G4 pk0 (FT n):=hS fun m h=>(tMC1 (nx m) (nx2 m)).2.2.2.2 (h_A1 m (by omega)) (h_G1 m (by omega)) (h_G2 m (by omega))
theorem h_G5:∀ n,2≤n→G5 pk0 (FT n):=hS fun m h=>(tMG5 (nx m) (nx2 m)).1 (zC8 m (by omega)) (h_C2 m (by omega)) (h_G2 m (by omega))
theorem h_C4 (n:Nat) (h:3≤n):C4 pk0 (FT n):=R0.h_C4 XT n h
theorem h_C9 (n:Nat) (h:3≤n):C9 pk0 (FT n):=R0.h_C9 XT n h
theorem h_C14 (n:Nat) (h:3≤n):C14 pk0 (FT n):=R0.h_C14 XT n h
theorem h_G6:∀ n,3≤n→G6 pk0 (FT n):=hS fun m h=>(tMG5 (nx m) (nx2 m)).2.2.2.2 (h_G1 m (by omega)) (h_G4 m (by omega))
theorem h_G7:∀ n,3≤n→G7 pk0 (FT n):=hS fun m h=>(tMG7 (nx m) (nx2 m)).1 (h_A2 m (by omega)) (h_A3 m (by omega)) (h_C3 m (by omega)) (h_G1 m (by omega)) (h_G4 m (by omega)) (h_G5 m (by omega))
theorem h_G8:∀ n,3≤n→G8 pk0 (FT n):=hS fun m h=>(tMG7 (nx m) (nx2 m)).2 (h_G2 m (by omega)) (h_G4 m (by omega)) (h_G5 m (by omega))
theorem h_G9:∀ n,3≤n→G9 pk0 (FT n):=hS fun m h=>(tMG9 (nx m) (nx2 m)).1 (h_G5 m (by omega))
theorem h_C5 (n:Nat) (h:4≤n):C5 pk0 (FT n):=R0.h_C5 XT n h
theorem h_C15 (n:Nat) (h:4≤n):C15 pk0 (FT n):=R0.h_C15 XT n h
theorem ztz:∀ n,4≤n→G10 pk0 (FT n):=hS fun m h=>(tMG9 (nx m) (nx2 m)).2.2.2 (h_G6 m (by omega))
theorem zqv:∀ n,4≤n→G11 pk0 (FT n):=hS fun m h=>(zBq (nx m) (nx2 m)).1 (h_G1 m (by omega)) (h_G4 m (by omega)) (h_G6 m (by omega)) (h_G7 m (by omega))
theorem zqw:∀ n,4≤n→G12 pk0 (FT n):=hS fun m h=>(zBq (nx m) (nx2 m)).2 (h_C3 m (by omega)) (h_G2 m (by omega)) (h_G4 m (by omega)) (h_G7 m (by omega)) (h_G8 m (by omega))
theorem zDa:∀ n,4≤n→G13 pk0 (FT n):=hS fun m h=>tG13 (nx m) (nx2 m) (h_C9 m (by omega))
theorem h_C16 (n:Nat) (h:5≤n):C16 pk0 (FT n):=R0.h_C16 XT n h
theorem ztA:∀ n,5≤n→G14 pk0 (FT n):=hS fun m h=>(zBo (nx m) (nx2 m)).2 (h_G1 m (by omega)) (h_G4 m (by omega)) (h_G6 m (by omega)) (ztz m (by omega)) (zqv m (by omega))
theorem zxs:∀ n,5≤n→G15 pk0 (FT n):=hS fun m h=>(zBr (nx m) (nx2 m)).1 (h_G8 m (by omega)) (h_G9 m (by omega)) (zqv m (by omega)) (zqw m (by omega))
theorem zDb:∀ n,5≤n→G16 pk0 (FT n):=hS fun m h=>tG16 (nx m) (nx2 m) (h_A8 m) (zDa m (by omega))
theorem h_C17 (n:Nat) (h:6≤n):C17 pk0 (FT n):=R0.h_C17 XT n h
theorem zxt:∀ n,6≤n→G17 pk0 (FT n):=hS fun m h=>tG17 (nx m) (nx2 m) (h_C3 m (by omega)) (h_G3 m (by omega)) (h_G7 m (by omega)) (h_G8 m (by omega)) (zqv m (by omega)) (zqw m (by omega)) (ztA m (by omega)) (zxs m (by omega))
theorem zDc:∀ n,6≤n→G18 pk0 (FT n):=hS fun m h=>tG18 (nx m) (nx2 m) (zDb m (by omega))
theorem h_A4:∀ n,6≤n→A4 pk0 (FT n):=hS fun m h=>⟨fun a0 a1 a2=>(FT_at rfl m _).trans (zBC (FT m) (ztA m (by omega)).a89 (h_C3 m (by omega)).a149 a0 a1 a2)⟩
theorem h_C18 (n:Nat) (h:7≤n):C18 pk0 (FT n):=R0.h_C18 XT n h
theorem zob:∀ n,7≤n→G19 pk0 (FT n):=hS fun m h=>(zBp (nx m) (nx2 m)).2 (h_A7 m) (h_G2 m (by omega)) (h_G7 m (by omega)) (h_G8 m (by omega)) (ztz m (by omega)) (zqw m (by omega)) (ztA m (by omega)) (zxt m (by omega)) (zDc m (by omega))
theorem zBg:∀ n,8≤n→G20 pk0 (FT n):=hS fun m h=>tG20 (nx m) (nx2 m) (h_A5 m) (h_A6 m) (h_G1 m (by omega)) (h_G2 m (by omega)) (h_G4 m (by omega)) (h_G5 m (by omega)) (h_G7 m (by omega)) (zqv m (by omega)) (ztA m (by omega)) (zxs m (by omega)) (zob m (by omega))
theorem zDd:∀ n,8≤n→G21 pk0 (FT n):=hS fun m h=>(zx8 (nx m) (nx2 m)).1 (h_C18 m (by omega))
theorem zDe:∀ n,9≤n→G22 pk0 (FT n):=hS fun m h=>(ztF (nx m) (nx2 m)).1 (zqv m (by omega)) (zBg m (by omega))
theorem zDf:∀ n,9≤n→G23 pk0 (FT n):=hS fun m h=>(zx8 (nx m) (nx2 m)).2.1 (zC5 m) (zDd m (by omega))
theorem zDg:∀ n,10≤n→G24 pk0 (FT n):=hS fun m h=>(zx8 (nx m) (nx2 m)).2.2 (zDf m (by omega))
theorem zDh:∀ n,11≤n→G25 pk0 (FT n):=hS fun m h=>(ztF (nx m) (nx2 m)).2.1 (zC4 m (by omega)) (zDg m (by omega))
theorem zDi:∀ n,12≤n→G26 pk0 (FT n):=hS fun m h=>(ztF (nx m) (nx2 m)).2.2.1 (h_A9 m) (h_G8 m (by omega)) (zob m (by omega)) (zDh m (by omega))
theorem zDj:∀ n,13≤n→G27 pk0 (FT n):=hS fun m h=>(ztF (nx m) (nx2 m)).2.2.2 (h_A4 m (by omega)) (h_G2 m (by omega)) (h_G8 m (by omega)) (zqw m (by omega)) (zxt m (by omega)) (zob m (by omega)) (zBg m (by omega)) (zDi m (by omega))
theorem zDk:∀ n,14≤n→G28 pk0 (FT n):=hS fun m h=>tG28 (nx m) (nx2 m) (zxt m (by omega)) (zDj m (by omega))
theorem zC9:∀ n,15≤n→A15 pk0 (FT n):=hS fun m h=>⟨fun a0 a1 a2 a3=>(FT_at rfl m _).trans (zrE (FT m) (zob m (by omega)).a4 (ztz m (by omega)).a5 (zob m (by omega)).a7 (ztz m (by omega)).a8 (zDe m (by omega)).a6 (zDk m (by omega)).a9 (zob m (by omega)).a10 (zqw m (by omega)).a11 (zC6 m).a12 (zC7 m).a13 (zxs m (by omega)).a14 a0 a1 a2 a3)⟩
end
end Go.Proofs.YtflhdodikmmdcaaGreat
