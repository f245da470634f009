/- part 100 -/
import Derived.Test.YthpehdcmpldloaaGreatGiXS
import Derived.Test.YthpehdcmpldloaaGreatGiAbE
import Derived.Test.YthpehdcmpldloaaGreatProg
set_option linter.unusedVariables false
set_option maxRecDepth 100000
set_option maxHeartbeats 4000000
namespace Go.Ab.Gi
open Go.RowKit Go.Lib Go.Proofs Go.Proofs.Tryz
noncomputable section
theorem gO:prog.follows .mixedOrders=true:=by kernel_rfl
abbrev n0:zZ:=⟨[],[],[],true⟩
theorem e0:jL ⟨prog,fun _=>false,fj []⟩:=nH (l:=[]) gO trivial
theorem e1 {a0}(h0:zD prog a0):jL ⟨prog,fun _=>false,fj [a0]⟩:=nH (l:=[a0]) gO ⟨h0,trivial⟩
theorem e2 {a0 a1}(h0:zD prog a0)(h1:zD prog a1):jL ⟨prog,fun _=>false,fj [a0,a1]⟩:=nH (l:=[a0,a1]) gO ⟨h0,h1,trivial⟩
theorem e3 {a0 a1 a2}(h0:zD prog a0)(h1:zD prog a1)(h2:zD prog a2):jL ⟨prog,fun _=>false,fj [a0,a1,a2]⟩:=nH (l:=[a0,a1,a2]) gO ⟨h0,h1,h2,trivial⟩
theorem e4 {a0 a1 a2 a3}(h0:zD prog a0)(h1:zD prog a1)(h2:zD prog a2)(h3:zD prog a3):jL ⟨prog,fun _=>false,fj [a0,a1,a2,a3]⟩:=nH (l:=[a0,a1,a2,a3]) gO ⟨h0,h1,h2,h3,trivial⟩
theorem e5 {a0 a1 a2 a3 a4}(h0:zD prog a0)(h1:zD prog a1)(h2:zD prog a2)(h3:zD prog a3)(h4:zD prog a4):jL ⟨prog,fun _=>false,fj [a0,a1,a2,a3,a4]⟩:=nH (l:=[a0,a1,a2,a3,a4]) gO ⟨h0,h1,h2,h3,h4,trivial⟩
theorem e6 {a0 a1 a2 a3 a4 a5}(h0:zD prog a0)(h1:zD prog a1)(h2:zD prog a2)(h3:zD prog a3)(h4:zD prog a4)(h5:zD prog a5):jL ⟨prog,fun _=>false,fj [a0,a1,a2,a3,a4,a5]⟩:=nH (l:=[a0,a1,a2,a3,a4,a5]) gO ⟨h0,h1,h2,h3,h4,h5,trivial⟩
theorem e7 {a0 a1 a2 a3 a4 a5 a6}(h0:zD prog a0)(h1:zD prog a1)(h2:zD prog a2)(h3:zD prog a3)(h4:zD prog a4)(h5:zD prog a5)(h6:zD prog a6):jL ⟨prog,fun _=>false,fj [a0,a1,a2,a3,a4,a5,a6]⟩:=nH (l:=[a0,a1,a2,a3,a4,a5,a6]) gO ⟨h0,h1,h2,h3,h4,h5,h6,trivial⟩
theorem e8 {a0 a1 a2 a3 a4 a5 a6 a7}(h0:zD prog a0)(h1:zD prog a1)(h2:zD prog a2)(h3:zD prog a3)(h4:zD prog a4)(h5:zD prog a5)(h6:zD prog a6)(h7:zD prog a7):jL ⟨prog,fun _=>false,fj [a0,a1,a2,a3,a4,a5,a6,a7]⟩:=nH (l:=[a0,a1,a2,a3,a4,a5,a6,a7]) gO ⟨h0,h1,h2,h3,h4,h5,h6,h7,trivial⟩
theorem e9 {a0 a1 a2 a3 a4 a5 a6 a7 a8}(h0:zD prog a0)(h1:zD prog a1)(h2:zD prog a2)(h3:zD prog a3)(h4:zD prog a4)(h5:zD prog a5)(h6:zD prog a6)(h7:zD prog a7)(h8:zD prog a8):jL ⟨prog,fun _=>false,fj [a0,a1,a2,a3,a4,a5,a6,a7,a8]⟩:=nH (l:=[a0,a1,a2,a3,a4,a5,a6,a7,a8]) gO ⟨h0,h1,h2,h3,h4,h5,h6,h7,h8,trivial⟩
theorem e10 {a0 a1 a2 a3 a4 a5 a6 a7 a8 a9}(h0:zD prog a0)(h1:zD prog a1)(h2:zD prog a2)(h3:zD prog a3)(h4:zD prog a4)(h5:zD prog a5)(h6:zD prog a6)(h7:zD prog a7)(h8:zD prog a8)(h9:zD prog a9):jL ⟨prog,fun _=>false,fj [a0,a1,a2,a3,a4,a5,a6,a7,a8,a9]⟩:=nH (l:=[a0,a1,a2,a3,a4,a5,a6,a7,a8,a9]) gO ⟨h0,h1,h2,h3,h4,h5,h6,h7,h8,h9,trivial⟩
theorem e11 {a0 a1 a2 a3 a4 a5 a6 a7 a8 a9 Iw}(h0:zD prog a0)(h1:zD prog a1)(h2:zD prog a2)(h3:zD prog a3)(h4:zD prog a4)(h5:zD prog a5)(h6:zD prog a6)(h7:zD prog a7)(h8:zD prog a8)(h9:zD prog a9)(I1:zD prog Iw):jL ⟨prog,fun _=>false,fj [a0,a1,a2,a3,a4,a5,a6,a7,a8,a9,Iw]⟩:=nH (l:=[a0,a1,a2,a3,a4,a5,a6,a7,a8,a9,Iw]) gO ⟨h0,h1,h2,h3,h4,h5,h6,h7,h8,h9,I1,trivial⟩
def R2q:=yM 9 [.c (.p .i)] (.c (.link 0)) [iP] 1 (fun k d=>PJ k d.1) (fun x=>((),(iu x ()))) (fun d=>(GW d))
theorem F2q:zD prog R2q:=fX f9 n0 0 e0 zF
def R3q:=zJ 72 [.c .i,.c .i,.c .i] (.c .bool) (fun k d=>sG k d.1 d.2.1 d.2.2.1) (fun x=>(x,())) (fun d=>d.1)
theorem F3q:zD prog R3q:=fA f72 n0 e0 zF
def R4q:=zJ 71 [.agg [.i,.i]] (.c .bool) (fun k d=>yCm k (d.1,d.2.1)) (fun x=>(x,())) (fun d=>d.1)
theorem F4q:zD prog R4q:=fA f71 n0 (e1 F3q) zF
def yS7:zE:=sp [(0,.c (.dat false wX)),(1,.c (.lit (.fn 71 []))),sI 7,sI 8] []
def ySw:zE:=sp [] []
def ySe:zE:=sp [sI 4] []
def yHd (f:Xr)(d:yS7.den):=f d.1.1.1 d.1.2.2.1.1 d.1.2.2.2.1.1
def Xs:zV:=⟨[yS7],[(.exit 0,ySw),(.ret,ySe)],(Unit⊕Int),fun k d=>yHd (Xt k k) d,fun b x _ K=>match x with|.inl x=>K (.exit 0) (zM b ySw ((),()))|.inr x=>K .ret (zM b ySe (((x,()),()),()))⟩
def A5q:zZ:=⟨[],[(2,Xs)],[],true⟩
theorem vR9:zU prog 1000 0 19 (zQ (zS f121) 0) Xs:=lp (A:=A5q) Xs (fun d=>match d with|.inl d=>.inl ()|.inr d=>.inr d.1.1.1) yHd Xt yFa (e1 F4q) zF
def R5q:=zJ 121 [.c (.dat false wX),.c (.fn 71)] (.c .i) (fun k d=>yLm k d.1) (fun x=>(x,())) (fun d=>d.1)
theorem F5q:zD prog R5q:=fA f121 A5q (e1 F4q) (loops1 vR9)
def R6q:=zJ 73 [.c (.dat false wX),.c (.fn 71)] (.c .bool) (fun k d=>yYm k d.1) (fun x=>(x,())) (fun d=>d.1)
theorem F6q:zD prog R6q:=fA f73 n0 (e1 F5q) zF
def R7q:=zJ 32 [.agg ka] (.c .bool) (fun k d=>pW k (yZ d)) (fun x=>(x,())) (fun d=>d.1)
theorem F7q:zD prog R7q:=fA f32 n0 (e2 F3q F6q) zF
def R8q:=zJ 69 [.c .i] (.c .bool) (fun k d=>PN k d.1) (fun x=>(x,())) (fun d=>d.1)
theorem Xu:zD prog R8q:=fA f69 n0 e0 zF
def R9q:=wv 186 false (.int .u8) (.own (.int .u8)) BQ
theorem F9q:zD prog R9q:=fC f186 n0 e0 zF
def vDc:=zJ 123 [.ptr K5,.c .i] (.c (.own (.int .u8))) (fun k d=>Xb k (fu d) d.2.2.2.2.2.2.2.2.2.2.1) (fun x=>(x,())) (fun d=>d.1)
theorem vKr:zD prog vDc:=fA f123 n0 (e2 Xu F9q) zF
def qZ5:zE:=⟨[(0,.c (.dat false (.int .u8))),sO 2 0],[oA (.sl (.int .u8))],[(2,none,(.sl (.int .u8)),false)]⟩
def yH5:zE:=sp [(0,.c (.dat false (.int .u8))),sO 2 0] [oA (.sl (.int .u8))]
def yVv (f:Xv)(d:qZ5.den):=f d.1.1.1 d.2.1
def Xw:zV:=⟨[qZ5],[(.exit 0,yH5)],Xx,fun k d=>yVv (DI k k) d,fun b x _ K=>K (.exit 0) (zM b yH5 (((x.1,()),(),()),(x.2,())))⟩
def yR8:zZ:=⟨[],[(1,Xw)],[],true⟩
theorem vDb:zU prog 1000 0 43 (zQ (zS f122) 0) Xw:=lp (A:=yR8) Xw (fun d=>(d.1.1.1,d.2.1)) yVv DI DJ e0 zF
def vPh:=zJ 122 [.c (.dat false (.int .u8))] (.tup [(false,[.own (.sl (.int .u8))]),(false,vD)]) (fun k d=>Ni k d.1) (fun x=>(x.1,x.2,())) (fun d=>(d.1,d.2.1))
theorem vKj:zD prog vPh:=fA f122 yR8 e0 (loops1 vDb)
def yGo:zE:=sp [(0,.c (.dat false (.int .u8))),sO 4 0,(5,.c (.int .u64)),(16,.c (.dat false (.int .u8))),sI 17,sI 18] [oA .i]
def yWk:zE:=sp [(0,.c (.dat false (.int .u8))),sO 4 0,(5,.c (.int .u64))] [oA .i]
def yX0 (f:Xy)(d:yGo.den):=f d.1.1.1 d.1.2.2.1.1 d.1.2.2.2.1.1 d.1.2.2.2.2.1.1 d.1.2.2.2.2.2.1.1 d.2.1
def Xz:zV:=⟨[yGo],[(.exit 2,yWk)],XA,fun k d=>yX0 (Dw k k) d,fun b x _ K=>K (.exit 2) (zM b yWk (((x.1,()),(),(x.2.1,()),()),(x.2.2,())))⟩
def yAk:zE:=⟨[(0,.c (.dat false (.int .u8))),sO 4 0],[oA .i],[(4,none,.i,false)]⟩
def yHq:zE:=sp [sO 4 0] [oA .i]
def yIx (f:AC→AC→Option AC)(d:yAk.den):=f d.1.1.1 d.2.1
def XB:zV:=⟨[yAk],[(.exit 0,yHq)],AC,fun k d=>yIx (Dx k k) d,fun b x _ K=>K (.exit 0) (zM b yHq (((),()),(x,())))⟩
def XE:zZ:=⟨[],[(7,Xz),(4,XB)],[],true⟩
theorem vY2:zU prog 1000 0 36 (zQ (zQ (zS f90) 0) 0) Xz:=lp (A:=XE) Xz (fun d=>(d.1.1.1,d.1.2.2.1.1,d.2.1)) yX0 Dw Na e0 zF
theorem vUf:zU prog 1000 0 36 (zQ (zS f90) 0) XB:=lp (A:=XE) XB (fun d=>d.2.1) yIx Dx Dy e0 (loops1 vY2)
def vOb:=zJ 90 [.c (.dat false (.int .u8))] (.tup [(false,[.own .i]),(false,vD)]) (fun k d=>sg k d.1) (fun x=>(x.1,x.2,())) (fun d=>(d.1,d.2.1))
theorem PO:zD prog vOb:=fA f90 XE e0 (loops1 vUf)
def vG9:=zJ 74 [.ptr K5,.c .i] (.tup [(false,vD),(false,[.fro (.int .u8)]),(false,[.fro (.sl (.int .u8))])]) (fun k d=>xV k (fu d) d.2.2.2.2.2.2.2.2.2.2.1) (fun x=>(x.1,x.2.1,x.2.2,())) (fun d=>(d.1,d.2.1,d.2.2.1))
theorem vDi:zD prog vG9:=fA f74 n0 (e3 vKr vKj PO) zF
def XF:=zJ 33 [.ptr K5] (.tup [(false,vD),(false,vD),(false,[.fro (.int .u8)]),(false,[.fro (.sl (.int .u8))]),(false,[.bool])]) (fun k d=>KY k (fu d)) (fun x=>(jE x ())) (fun d=>(d.1,d.2.1,d.2.2.1,d.2.2.2.1,d.2.2.2.2.1))
theorem XG:zD prog XF:=fA f33 ⟨[],[],[(2,3)],true⟩ (e1 vDi) (H9 (n:=1) (by kernel_rfl) fun i hi=>match i,hi with|0,_=>.inr ⟨by kernel_rfl,zF⟩|i+1,hi=>absurd hi (by omega))
def vOc:=zJ 129 [.c .i] (.c .bool) (fun k d=>Jg k d.1) (fun x=>(x,())) (fun d=>d.1)
theorem PQ:zD prog vOc:=fA f129 ⟨[],[],[],false⟩ e0 zF
def yQh:zE:=sp [sI 1,sO 5 0,sI 13,sI 14] [oA .i]
def yAb:zE:=sp [sO 5 0] [oA .i]
def yPz (f:XH)(d:yQh.den):=f d.1.1.1 d.1.2.2.1.1 d.1.2.2.2.1.1 d.2.1
def XI:zV:=⟨[yQh],[(.exit 0,yAb)],AC,fun k d=>yPz (Jh k k) d,fun b x _ K=>K (.exit 0) (zM b yAb (((),()),(x,())))⟩
def yGm:zZ:=⟨[],[(5,XI)],[],false⟩
theorem vCa:zU prog 1000 0 23 (zQ (zS f79) 0) XI:=lp (A:=yGm) XI (fun d=>d.2.1) yPz Jh Er (e1 PQ) zF
def vUw:=zJ 79 [.c .i,.c .i] (.c (.own .i)) (fun k d=>AV k d.1 d.2.1) (fun x=>(x,())) (fun d=>d.1)
theorem BU:zD prog vUw:=fA f79 yGm (e1 PQ) (loops1 vCa)
def yK4:zE:=sp [sI 0,sI 1,sO 5 0,sI 13,sI 14] [.mat]
def yZv:zE:=sp [sO 5 0] [.mat]
def yXp (f:XJ)(d:yK4.den):=f d.1.1.1 d.1.2.1.1 d.1.2.2.2.1.1 d.1.2.2.2.2.1.1 d.2.1
def XK:zV:=⟨[yK4],[(.exit 0,yZv)],EQ,fun k d=>yXp (Ji k k) d,fun b x _ K=>K (.exit 0) (zM b yZv (((),()),(x,())))⟩
def vBm:zZ:=⟨[11],[(5,XK)],[],false⟩
theorem vFb:zU prog 1000 0 25 (zQ (zS f78) 0) XK:=lp (A:=vBm) XK (fun d=>d.2.1) yXp Ji Et (e2 PQ BU) zF
def XM:=zJ 78 [.c .i,.c .i] (.c (.mat)) (fun k d=>Es k d.1 d.2.1) (fun x=>(x,())) (fun d=>d.1)
theorem K6:zD prog XM:=fA f78 vBm (e2 PQ BU) (loops1 vFb)
def yXb:zE:=⟨[sP 1 0,sP 2 1,sI 3,sP 4 2,(20,.c (.dat false wX)),sI 21,sI 22],[oB pZ,oB fw,oB PR,oA qW,.mat,oA .i,.mat,oA .i],[(4,some 5,.i,false)]⟩
def yH9:zE:=sp [sP 1 0,sP 2 1,sI 3,sP 4 2] [oB pZ,oB fw,oB PR,oA qW,.mat,oA .i,.mat,oA .i]
def yDz (f:XN)(d:yXb.den):=f d.1.2.2.1.1 d.1.2.2.2.2.1.1 d.1.2.2.2.2.2.1.1 d.1.2.2.2.2.2.2.1.1 (yZ d.2.1) (d.2.2.1.1,d.2.2.1.2.1,d.2.2.1.2.2.1) (d.2.2.2.1.1,d.2.2.2.1.2.1,d.2.2.2.1.2.2.1) d.2.2.2.2.1 d.2.2.2.2.2.1 d.2.2.2.2.2.2.1 d.2.2.2.2.2.2.2.1 d.2.2.2.2.2.2.2.2.1
def PT:zV:=⟨[yXb],[(.exit 0,yH9)],XO,fun k d=>yDz (XP k k) d,fun b x _ K=>K (.exit 0) (zM b yH9 (((),(),(x.1,()),(),()),((jE x.2.1 ()),(x.2.2.1.1,x.2.2.1.2.1,x.2.2.1.2.2,()),(x.2.2.2.1.1,x.2.2.2.1.2.1,x.2.2.2.1.2.2,()),x.2.2.2.2.1,x.2.2.2.2.2.1,x.2.2.2.2.2.2.1,x.2.2.2.2.2.2.2.1,x.2.2.2.2.2.2.2.2,())))⟩
def yKb:zE:=⟨[sP 1 0,sP 2 1,sP 4 2,sI 34,sI 35],[oB pZ,oB fw,oB yD2,oA qW,.mat,oA .i,.mat,oA .i,.mat],[(4,some 6,(.sl .i),true)]⟩
def yVm:zE:=sp [sP 2 0,sP 4 1] [oB fw,oB yVs,oA qW,.mat,oA .i,.mat,oA .i,.mat]
def vA0 (f:XQ)(d:yKb.den):=f d.1.2.2.2.1.1 d.1.2.2.2.2.1.1 (yZ d.2.1) (d.2.2.1.1,d.2.2.1.2.1,d.2.2.1.2.2.1) (d.2.2.2.1.1,d.2.2.2.1.2.1,d.2.2.2.1.2.2.1) d.2.2.2.2.1 d.2.2.2.2.2.1 d.2.2.2.2.2.2.1 d.2.2.2.2.2.2.2.1 d.2.2.2.2.2.2.2.2.1 d.2.2.2.2.2.2.2.2.2.1
def PU:zV:=⟨[yKb],[(.exit 2,yVm)],XR,fun k d=>vA0 (XS k k) d,fun b x _ K=>K (.exit 2) (zM b yVm (((),(),()),((x.1.1,x.1.2.1,x.1.2.2,()),(x.2.1.1,x.2.1.2.1,x.2.1.2.2,()),x.2.2.1,x.2.2.2.1,x.2.2.2.2.1,x.2.2.2.2.2.1,x.2.2.2.2.2.2.1,x.2.2.2.2.2.2.2,())))⟩
def XT:zZ:=⟨[43,44],[(4,PT),(9,PU)],[],true⟩
theorem vRz:zU prog 1000 0 48 (zQ (zS f36) 0) PT:=lp (A:=XT) PT (fun d=>(d.1.2.2.1.1,(yZ d.2.1),(d.2.2.1.1,d.2.2.1.2.1,d.2.2.1.2.2.1),(d.2.2.2.1.1,d.2.2.2.1.2.1,d.2.2.2.1.2.2.1),d.2.2.2.2.1,d.2.2.2.2.2.1,d.2.2.2.2.2.2.1,d.2.2.2.2.2.2.2.1,d.2.2.2.2.2.2.2.2.1)) yDz XP yMp (e2 K6 BU) zF
theorem vDo:zU prog 1000 0 48 (zQ (zS f36) 1) PU:=lp (A:=XT) PU (fun d=>((d.2.1.1,d.2.1.2.1,d.2.1.2.2.1),(d.2.2.1.1,d.2.2.1.2.1,d.2.2.1.2.2.1),d.2.2.2.1,d.2.2.2.2.1,d.2.2.2.2.2.1,d.2.2.2.2.2.2.1,d.2.2.2.2.2.2.2.1,d.2.2.2.2.2.2.2.2.1)) vA0 XS yK0 (e2 K6 BU) zF
def XU:=zJ 36 [.agg ka] (.agg XV) (fun k d=>pV k (yZ d)) (fun x=>(wP x ())) (fun d=>(qQ d))
theorem yV6:zD prog XU:=fA f36 XT (e2 K6 BU) (oG (n:=2) (by kernel_rfl) fun i hi=>match i,hi with|0,_=>⟨PT,by kernel_rfl,vRz⟩|1,_=>⟨PU,by kernel_rfl,vDo⟩|i+2,hi=>absurd hi (by omega))
def vTw:=zJ 76 [.c .bool] (.c .i) (fun k d=>Ng k d.1) (fun x=>(x,())) (fun d=>d.1)
theorem XW:zD prog vTw:=fA f76 n0 e0 zF
def yG3:zE:=sp [sO 3 0,sI 5,sI 6,(11,.c (.dat false .i)),sI 12,sI 13] [oA (.int .u8)]
def yOo:zE:=sp [sO 3 0,(11,.c (.dat false .i)),sI 12,sI 13] [oA (.int .u8)]
def vB3 (f:XX)(d:yG3.den):=f d.1.2.1.1 d.1.2.2.1.1 d.1.2.2.2.1.1 d.1.2.2.2.2.1.1 d.1.2.2.2.2.2.1.1 d.2.1
def XY:zV:=⟨[yG3],[(.exit 2,yOo)],XZ,fun k d=>vB3 (w8 k k) d,fun b x _ K=>K (.exit 2) (zM b yOo (((),(x.1,()),(x.2.1,()),(x.2.2.1,()),()),(x.2.2.2,())))⟩
def yF6:zE:=sp [sO 3 0] [oA (.int .u8)]
def vBa (f:X0)(d:yOo.den):=f d.1.2.1.1 d.1.2.2.1.1 d.1.2.2.2.1.1 d.2.1
def X1:zV:=⟨[yOo],[(.exit 0,yF6)],AC,fun k d=>vBa (AL k k) d,fun b x _ K=>K (.exit 0) (zM b yF6 (((),()),(x,())))⟩
def X2:zZ:=⟨[],[(6,XY),(3,X1)],[],true⟩
theorem vWs:zU prog 1000 0 31 (zQ (zQ (zS f101) 0) 0) XY:=lp (A:=X2) XY (fun d=>(d.1.2.1.1,d.1.2.2.1.1,d.1.2.2.2.1.1,d.2.1)) vB3 w8 Nd e0 zF
theorem vPj:zU prog 1000 0 31 (zQ (zS f101) 0) X1:=lp (A:=X2) X1 (fun d=>d.2.1) vBa AL DB e0 (loops1 vWs)
def vE4:=zJ 101 [.c (.dat false .i)] (.c (.own (.int .u8))) (fun k d=>w9 k d.1) (fun x=>(x,())) (fun d=>d.1)
theorem PV:zD prog vE4:=fA f101 X2 e0 (loops1 vPj)
def vOw:=zJ 128 [.c (.dat false .i)] (.c (.own (.int .u8))) (fun k d=>Nf k d.1) (fun x=>(x,())) (fun d=>d.1)
theorem yDm:zD prog vOw:=fA f128 n0 (e1 PV) zF
def yB6:zE:=⟨[sO 3 0,(6,.c (.dat false (.sl .i))),sI 7,sI 8],[oA (.int .u8)],[(3,none,(.int .u8),false)]⟩
def yY1 (f:X3)(d:yB6.den):=f d.1.2.1.1 d.1.2.2.1.1 d.1.2.2.2.1.1 d.2.1
def X4:zV:=⟨[yB6],[(.exit 0,yF6)],AC,fun k d=>yY1 (DD k k) d,fun b x _ K=>K (.exit 0) (zM b yF6 (((),()),(x,())))⟩
def yKq:zZ:=⟨[],[(3,X4)],[],true⟩
theorem X5:zU prog 1000 0 18 (zQ (zS f77) 0) X4:=lp (A:=yKq) X4 (fun d=>d.2.1) yY1 DD DE (e1 yDm) zF
def vXk:=zJ 77 [.c (.dat false (.sl .i))] (.c (.own (.int .u8))) (fun k d=>II k d.1) (fun x=>(x,())) (fun d=>d.1)
theorem X6:zD prog vXk:=fA f77 yKq (e1 yDm) (loops1 X5)
def yV2:zE:=sp [sP 1 0,sP 3 1,sO 4 2,(39,.c (.dat true qW)),sI 40,sI 41] [oB gu,oB wB,oA (.sl .i)]
def yGp:zE:=sp [sP 1 0,sP 3 1,sO 4 2] [oB gu,oB wB,oA (.sl .i)]
def yC5 (f:X7)(d:yV2.den):=f d.1.2.2.2.1.1 d.1.2.2.2.2.1.1 d.1.2.2.2.2.2.1.1 (qQ d.2.1) (fL d.2.2.1) d.2.2.2.1
def PW:zV:=⟨[yV2],[(.exit 0,yGp)],X8,fun k d=>yC5 (AM k k) d,fun b x _ K=>K (.exit 0) (zM b yGp (((),(),(),()),((wP x.1 ()),(gP x.2.1 ()),x.2.2,())))⟩
def yU1:zE:=sp [sP 1 0,sO 4 1,(79,.c (.dat true zG)),sI 80,sI 81] [oB gu,oA (.sl .i)]
def yPf:zE:=sp [sP 1 0,sO 4 1] [oB gu,oA (.sl .i)]
def yJ7 (f:X9)(d:yU1.den):=f d.1.2.2.1.1 d.1.2.2.2.1.1 d.1.2.2.2.2.1.1 (qQ d.2.1) d.2.2.1
def PX:zV:=⟨[yU1],[(.exit 2,yPf)],Ya,fun k d=>yJ7 (AN k k) d,fun b x _ K=>K (.exit 2) (zM b yPf (((),(),()),((wP x.1 ()),x.2,())))⟩
def Yb:zZ:=⟨[],[(4,PW),(14,PX)],[],true⟩
theorem vVe:zU prog 1000 0 110 (zQ (zS f35) 0) PW:=lp (A:=Yb) PW (fun d=>((qQ d.2.1),(fL d.2.2.1),d.2.2.2.1)) yC5 AM DF (e2 XW X6) zF
theorem vS2:zU prog 1000 0 110 (zQ (zS f35) 1) PX:=lp (A:=Yb) PX (fun d=>((qQ d.2.1),d.2.2.1)) yJ7 AN DG (e2 XW X6) zF
def vVn:=zJ 35 [.agg ya] (.c (.own (.int .u8))) (fun k d=>lV k (qQ d)) (fun x=>(x,())) (fun d=>d.1)
theorem BV:zD prog vVn:=fA f35 Yb (e2 XW X6) (oG (n:=2) (by kernel_rfl) fun i hi=>match i,hi with|0,_=>⟨PW,by kernel_rfl,vVe⟩|1,_=>⟨PX,by kernel_rfl,vS2⟩|i+2,hi=>absurd hi (by omega))
def vL8:=zJ 124 [.c (.dat false (.int .u8))] (.tup [(false,[.own (.int .u8)]),(false,[.bool])]) (fun k d=>IG k d.1) (fun x=>(x.1,x.2,())) (fun d=>(d.1,d.2.1))
theorem yMh:zD prog vL8:=fA f124 n0 e0 zF
def vY0:=zJ 125 [.ptr K5] (.c .i) (fun k d=>W9 k (fu d)) (fun x=>(x,())) (fun d=>d.1)
theorem vB8:zD prog vY0:=fA f125 n0 e0 zF
def vZ4:=zJ 68 [.ptr K5] (.c .bool) (fun k d=>PY k (fu d)) (fun x=>(x,())) (fun d=>d.1)
theorem Yc:zD prog vZ4:=fA f68 n0 e0 zF
def vO8:=yM 70 [.ptr true lh] (.c .bool) [iP] 0 (fun k d=>kP k (fu d)) (fun x=>(x.1,(iu x.2 ()))) (fun d=>(d.1,(GW d)))
theorem Yd:zD prog vO8:=fX f70 ⟨[],[],[(6,3)],true⟩ 1 e0 (H9 (n:=1) (by kernel_rfl) fun i hi=>match i,hi with|0,_=>.inr ⟨by kernel_rfl,zF⟩|i+1,hi=>absurd hi (by omega))
def vHq:=yM 126 [.ptr true lh,.c (.p .i)] (.c .i) [iP] 0 (fun k d=>PA k (fu d) d.2.2.2.2.2.2.2.2.2.2.1) (fun x=>(x.1,(iu x.2 ()))) (fun d=>(d.1,(GW d)))
theorem vQl:zD prog vHq:=fX f126 n0 1 (e3 Yc Xu Yd) zF
def vWe:=yM 30 [.ptr true lh,.c (.p .i),.c (.p (.dat false (.int .u8)))] (.c .i) [iP] 0 (fun k d=>xU k (fu d) d.2.2.2.2.2.2.2.2.2.2.1 d.2.2.2.2.2.2.2.2.2.2.2.1) (fun x=>(x.1,(iu x.2 ()))) (fun d=>(d.1,(GW d)))
theorem qZ4:zD prog vWe:=fX f30 n0 1 (e3 Yc Xu Yd) zF
def vMo:=yM 127 [.ptr true lh] (.c .i) [iP] 0 (fun k d=>uM k (fu d)) (fun x=>(x.1,(iu x.2 ()))) (fun d=>(d.1,(GW d)))
theorem yAy:zD prog vMo:=fX f127 ⟨[],[],[(4,3)],true⟩ 1 (e2 Yc Yd) (H9 (n:=1) (by kernel_rfl) fun i hi=>match i,hi with|0,_=>.inr ⟨by kernel_rfl,zF⟩|i+1,hi=>absurd hi (by omega))
def vNg:=yM 75 [.ptr true lh,.c (.p .i),.c (.p .i),.c (.p (.dat false (.int .u8)))] (.c .i) [iP] 0 (fun k d=>KU k (fu d) d.2.2.2.2.2.2.2.2.2.2.1 d.2.2.2.2.2.2.2.2.2.2.2.1 d.2.2.2.2.2.2.2.2.2.2.2.2.1) (fun x=>(x.1,(iu x.2 ()))) (fun d=>(d.1,(GW d)))
theorem yYl:zD prog vNg:=fX f75 n0 1 (e6 PV yMh vB8 vQl qZ4 yAy) zF
def vD9:=MY 34 [.ptr true lh,.c (.p (.dat false (.int .u8)))] (.tup [(false,[.link 1]),(false,[.fro (.int .u8)]),(false,[.fro (.sl (.int .u8))]),(false,vD)]) [iP,[.link 0,.i,.i,.i,.bool]] 1 (.tup [(false,[.nilp]),(false,[.own (.int .u8)]),(false,[.own (.sl (.int .u8))]),(false,vD)]) [iP] 0 (fun k d=>PB k (fu d) d.2.2.2.2.2.2.2.2.2.2.1) (fun x=>((),x.1,x.2.1,x.2.2.1,(iu x.2.2.2.1 ((),(gP x.2.2.2.2 ()))))) (fun x=>((),x.1,x.2.1,x.2.2.1,(iu x.2.2.2 ()))) (fun d=>(d.2.1,d.2.2.1,d.2.2.2.1,(vAc d),(vDz d))) (fun d=>(d.2.1,d.2.2.1,d.2.2.2.1,(vAc d)))
theorem yMf:zD prog vD9:=fN f34 n0 1 (e2 XG yYl) zF
def vNu:=zJ 130 [.c (.dat true (.int .u8))] (.tup [(false,[.own .i]),(false,[.fro (.int .u8)]),(false,[.bool])]) (fun k d=>Nh k d.1) (fun x=>(x.1,x.2.1,x.2.2,())) (fun d=>(d.1,d.2.1,d.2.2.1))
theorem vU6:zD prog vNu:=fA f130 n0 (e1 PO) zF
def vK7:=yM 82 [.ptr true [.p (.dat true (.int .u8)),.p .bool]] (.c (.own .i)) [[.fro (.int .u8),.bool]] 0 (fun k d=>xE k (d.1,d.2.1)) (fun x=>(x.1,x.2.1,x.2.2,())) (fun d=>(d.1,(d.2.1,d.2.2.1)))
theorem GX:zD prog vK7:=fX f82 n0 1 (e1 vU6) zF
def vRb:=yM 80 [.ptr true [.p (.dat true (.int .u8)),.p .bool],.c (.p .i)] (.c (.own .i)) [[.fro (.int .u8),.bool]] 0 (fun k d=>FM k (d.1,d.2.1) d.2.2.1) (fun x=>(x.1,x.2.1,x.2.2,())) (fun d=>(d.1,(d.2.1,d.2.2.1)))
theorem Ye:zD prog vRb:=fX f80 n0 1 (e1 GX) zF
def yYd:zE:=⟨[sP 0 0,sI 1,sO 5 1],[oB GY,oA (.sl .i)],[(5,none,(.sl .i),false)]⟩
def yLs:zE:=sp [sP 0 0,sO 5 1] [oB GY,oA (.sl .i)]
def yG4 (f:Yf)(d:yYd.den):=f d.1.2.1.1 (d.2.1.1,d.2.1.2.1) d.2.2.1
def Yg:zV:=⟨[yYd],[(.exit 0,yLs)],Yh,fun k d=>yG4 (J9 k k) d,fun b x _ K=>K (.exit 0) (zM b yLs (((),(),()),((x.1.1,x.1.2,()),x.2,())))⟩
def yTp:zZ:=⟨[],[(2,Yg)],[],true⟩
theorem vX4:zU prog 1000 1 23 (zQ (zS f81) 0) Yg:=lp (A:=yTp) Yg (fun d=>((d.2.1.1,d.2.1.2.1),d.2.2.1)) yG4 J9 OM (e1 GX) zF
def vU9:=yM 81 [.ptr true [.p (.dat true (.int .u8)),.p .bool],.c (.p .i)] (.c (.own (.sl .i))) [[.fro (.int .u8),.bool]] 0 (fun k d=>FN k (d.1,d.2.1) d.2.2.1) (fun x=>(x.1,x.2.1,x.2.2,())) (fun d=>(d.1,(d.2.1,d.2.2.1)))
theorem Yi:zD prog vU9:=fX f81 yTp 1 (e1 GX) (loops1 vX4)
def vHa:=zJ 83 [.c (.dat false (.int .u8)),.c (.dat false (.int .u8))] (.c .bool) (fun k d=>V4 k d.1 d.2.1) (fun x=>(x,())) (fun d=>d.1)
theorem Yj:zD prog vHa:=fA f83 n0 e0 zF
def yCn:zE:=⟨[(0,.c (.dat true (.int .u8))),sP 2 0,sP 4 1,sO 5 2,sP 6 3,sI 7],[oB fw,oB GY,oA .i,oB yGw,oA qW],[(6,some 1,qW,false)]⟩
def yAq:zE:=sp [(0,.c (.dat true (.int .u8))),sP 2 0,sP 4 1,sO 5 2,sP 6 3] [oB fw,oB GY,oA .i,oB yGw,oA qW]
def yMz (f:Yk)(d:yCn.den):=f d.1.1.1 d.1.2.2.2.2.2.1.1 (d.2.1.1,d.2.1.2.1,d.2.1.2.2.1) (d.2.2.1.1,d.2.2.1.2.1) d.2.2.2.1 (d.2.2.2.2.1.1,d.2.2.2.2.1.2.1,d.2.2.2.2.1.2.2.1) d.2.2.2.2.2.1
def PZ:zV:=⟨[yCn],[(.exit 0,yAq)],Yl,fun k d=>yMz (FO k k) d,fun b x _ K=>K (.exit 0) (zM b yAq (((x.1,()),(),(),(),(),()),((x.2.1.1,x.2.1.2.1,x.2.1.2.2,()),(x.2.2.1.1,x.2.2.1.2,()),x.2.2.2.1,(x.2.2.2.2.1.1,x.2.2.2.2.1.2.1,x.2.2.2.2.1.2.2,()),x.2.2.2.2.2,())))⟩
def yKl:zE:=⟨[(0,.c (.dat true (.int .u8))),sP 2 0,sP 4 1,sP 6 2,sI 9],[oB fw,oB GY,oB yIf,oA qW,oA (.sl .i),oA .i,oA (.sl .i),oA .i,oA (.sl .i),oA zG],[(6,some 7,zG,false)]⟩
def yKk:zE:=sp [(0,.c (.dat true (.int .u8))),sP 2 0,sP 4 1,sP 6 2] [oB fw,oB GY,oB yIf,oA qW,oA (.sl .i),oA .i,oA (.sl .i),oA .i,oA (.sl .i),oA zG]
def yQ8 (f:Ym)(d:yKl.den):=f d.1.1.1 d.1.2.2.2.2.1.1 (d.2.1.1,d.2.1.2.1,d.2.1.2.2.1) (d.2.2.1.1,d.2.2.1.2.1) (d.2.2.2.1.1,d.2.2.2.1.2.1,d.2.2.2.1.2.2.1) d.2.2.2.2.1 d.2.2.2.2.2.1 d.2.2.2.2.2.2.1 d.2.2.2.2.2.2.2.1 d.2.2.2.2.2.2.2.2.1 d.2.2.2.2.2.2.2.2.2.1 d.2.2.2.2.2.2.2.2.2.2.1
def P0:zV:=⟨[yKl],[(.exit 2,yKk)],Yn,fun k d=>yQ8 (FP k k) d,fun b x _ K=>K (.exit 2) (zM b yKk (((x.1,()),(),(),(),()),((x.2.1.1,x.2.1.2.1,x.2.1.2.2,()),(x.2.2.1.1,x.2.2.1.2,()),(x.2.2.2.1.1,x.2.2.2.1.2.1,x.2.2.2.1.2.2,()),x.2.2.2.2.1,x.2.2.2.2.2.1,x.2.2.2.2.2.2.1,x.2.2.2.2.2.2.2.1,x.2.2.2.2.2.2.2.2.1,x.2.2.2.2.2.2.2.2.2.1,x.2.2.2.2.2.2.2.2.2.2,())))⟩
def Yo:zZ:=⟨[],[(5,PZ),(15,P0)],[],true⟩
theorem vUo:zU prog 1000 0 146 (zQ (zS f37) 0) PZ:=lp (A:=Yo) PZ (fun d=>(d.1.1.1,(d.2.1.1,d.2.1.2.1,d.2.1.2.2.1),(d.2.2.1.1,d.2.2.1.2.1),d.2.2.2.1,(d.2.2.2.2.1.1,d.2.2.2.2.1.2.1,d.2.2.2.2.1.2.2.1),d.2.2.2.2.2.1)) yMz FO ON (e5 Ye Yi GX BV Yj) zF
theorem vQ1:zU prog 1000 0 146 (zQ (zS f37) 1) P0:=lp (A:=Yo) P0 (fun d=>(d.1.1.1,(d.2.1.1,d.2.1.2.1,d.2.1.2.2.1),(d.2.2.1.1,d.2.2.1.2.1),(d.2.2.2.1.1,d.2.2.2.1.2.1,d.2.2.2.1.2.2.1),d.2.2.2.2.1,d.2.2.2.2.2.1,d.2.2.2.2.2.2.1,d.2.2.2.2.2.2.2.1,d.2.2.2.2.2.2.2.2.1,d.2.2.2.2.2.2.2.2.2.1,d.2.2.2.2.2.2.2.2.2.2.1)) yQ8 FP OO (e5 Ye Yi GX BV Yj) zF
def Yp:=zJ 37 [.c (.dat true (.int .u8))] (.tup [(true,yc),(false,[.bool])]) (fun k d=>Ka k d.1) (fun x=>(wP x.1 (x.2,()))) (fun d=>((qQ d),d.2.2.2.2.2.2.2.2.2.2.2.1))
theorem yPl:zD prog Yp:=fA f37 Yo (e5 Ye Yi GX BV Yj) (oG (n:=2) (by kernel_rfl) fun i hi=>match i,hi with|0,_=>⟨PZ,by kernel_rfl,vUo⟩|1,_=>⟨P0,by kernel_rfl,vQ1⟩|i+2,hi=>absurd hi (by omega))
def vZ6:=zJ 98 [.c .i] (.c .i) (fun k d=>tY k d.1) (fun x=>(x,())) (fun d=>d.1)
theorem P1:zD prog vZ6:=fA f98 n0 e0 zF
def vZ9:=zJ 44 [.c (.dat false (.int .u8))] (.tup [(true,qa),(false,vD)]) (fun k d=>AJ k d.1) (fun x=>(iw x.1 (x.2,()))) (fun d=>((wM d),d.2.2.2.2.2.2.2.1))
theorem Yq:zD prog vZ9:=fA f44 n0 (e2 PO P1) zF
def vFd:=zJ 39 [.c (.dat false (.int .u8))] (.tup [(true,[.i,.i,.i,.i,.i,.i,.i,.i]),(false,vD)]) (fun k d=>sw k d.1) (fun x=>(GZ x.1 (x.2,()))) (fun d=>((qb d),d.2.2.2.2.2.2.2.2.1))
theorem yVf:zD prog vFd:=fA f39 n0 (e2 PO Yq) zF
def Yr:=zJ 150 [.c .i] (.c .bool) (fun k d=>OH k d.1) (fun x=>(x,())) (fun d=>d.1)
theorem vX7:zD prog Yr:=fA f150 n0 e0 zF
def vD5:=zJ 151 [.c .i] (.c .bool) (fun k d=>J6 k d.1) (fun x=>(x,())) (fun d=>d.1)
theorem Ys:zD prog vD5:=fA f151 n0 e0 zF
def yKt:zE:=sp [(13,.c (.dat true .i)),sI 14,sI 15] []
def yT4:zE:=sp [(2,.c .bool)] []
def yJd (f:Yt)(d:yKt.den):=f d.1.1.1 d.1.2.1.1 d.1.2.2.1.1
def Yu:zV:=⟨[yKt],[(.exit 0,ySw),(.ret,yT4)],(Unit⊕Bool),fun k d=>yJd (l9 k k) d,fun b x _ K=>match x with|.inl x=>K (.exit 0) (zM b ySw ((),()))|.inr x=>K .ret (zM b yT4 (((x,()),()),()))⟩
def yHl:zZ:=⟨[],[(5,Yu)],[],true⟩
theorem vPu:zU prog 1000 0 22 (zQ (zS f152) 0) Yu:=lp (A:=yHl) Yu (fun d=>match d with|.inl d=>.inl ()|.inr d=>.inr d.1.1.1) yJd l9 lg (e1 P1) zF
def vLh:=zJ 152 [.agg vM] (.c .bool) (fun k d=>j5 k (wM d)) (fun x=>(x,())) (fun d=>d.1)
theorem yD8:zD prog vLh:=fA f152 yHl (e1 P1) (loops1 vPu)
def vGk:=zJ 91 [.agg ka,.agg sH,.agg K7] (.c .i) (fun k d=>uA k (yZ d) (pX d) (Yv d)) (fun x=>(x,())) (fun d=>d.1)
theorem vFn:zD prog vGk:=fA f91 n0 (e3 vX7 Ys yD8) zF
def vE8:=zJ 195 [.agg vM,.ptr [.i]] (.c .bool) (fun k d=>(mc (VJ k) d)) (fun x=>(x,())) (fun d=>d.1)
theorem yR4:zD prog vE8:=fA f195 ⟨[],[],[],false⟩ e0 zF
def yH7:zE:=⟨[(1,.c (.lit (.fn 195 [1001000]))),sO 5 1,(8,.c (.dat false zG)),sI 9,sI 10],[.robox [.i],oA zG],[(5,none,zG,false)]⟩
def yTu:zE:=sp [sO 5 0] [oA zG]
def yJa (f:Yw)(d:yH7.den):=f d.1.2.2.1.1 d.1.2.2.2.1.1 d.1.2.2.2.2.1.1 d.2.1.1 d.2.2.1
def Yx:zV:=⟨[yH7],[(.exit 0,yTu)],Yy,fun k d=>yJa (JV k k) d,fun b x _ K=>K (.exit 0) (zM b yTu (((),()),(x,())))⟩
def yTt:zZ:=⟨[],[(3,Yx)],[],false⟩
theorem vLx:zU prog 1000 0 23 (zQ (zS f194) 0) Yx:=lp (A:=yTt) Yx (fun d=>d.2.1) yJa JV Ft (e1 yR4) zF
def vVx:=zJ 194 [.c (.dat false zG),.fn 195 [[.i]]] (.c (.own zG)) (fun k d=>VI k d.1 d.2.1) (fun x=>(x,())) (fun d=>d.1)
theorem vM5:zD prog vVx:=fA f194 yTt (e1 yR4) (loops1 vLx)
def vZn:=zJ 153 [.c (.dat false zG),.c .i] (.c (.own zG)) (fun k d=>JU k d.1 d.2.1) (fun x=>(x,())) (fun d=>d.1)
theorem K8:zD prog vZn:=fA f153 ⟨[],[],[],false⟩ (e1 vM5) zF
def vXr:=yM 93 [.ptr true [.p .i,.p (.nil),.p .i,.p .i,.p .i,.p .i,.p (.nil),.p (.nil),.p (.nil),.p (.nil),.p (.nil),.p (.nil),.p (.nil),.p (.nil),.p .i,.p .bool,.p .i,.p (.nil)],.c (.p .i),.c (.p (.dat false .i))] (.tup []) [[.i,.own wX,.i,.i,.i,.i,.own qW,.mat,.own .i,.mat,.own .i,.mat,.own zG,.own .i,.i,.bool,.i,.own yR]] 0 (fun k d=>yLl k (d.1,(P2 d (d.2.2.2.2.2.2.2.2.2.2.2.2.2.2.1,d.2.2.2.2.2.2.2.2.2.2.2.2.2.2.2.1,d.2.2.2.2.2.2.2.2.2.2.2.2.2.2.2.2.1))) d.2.2.2.2.2.2.2.2.2.2.2.2.2.2.2.2.2.2.1 d.2.2.2.2.2.2.2.2.2.2.2.2.2.2.2.2.2.2.2.1) (fun x=>(jI x ())) (fun d=>(eX d))
theorem vR1:zD prog vXr:=fX f93 n0 1 e0 zF
def vSj:=zJ 92 [.agg sH,.c .i] (.c (.own yR)) (fun k d=>BE k (qQ d) d.2.2.2.2.2.2.2.2.2.2.2.1) (fun x=>(x,())) (fun d=>d.1)
theorem vKv:zD prog vSj:=fA f92 n0 (e2 K8 vR1) zF
def Yz:=yM 93 [.ptr true yd,.c (.p .i),.c (.p (.dat false .i))] (.tup []) [lj] 0 (fun k d=>KH k (lk d) d.2.2.2.2.2.2.2.2.2.2.2.2.2.2.2.2.2.2.1 d.2.2.2.2.2.2.2.2.2.2.2.2.2.2.2.2.2.2.2.1) (fun x=>(jI x ())) (fun d=>(eX d))
theorem vA9:zD prog Yz:=fX f93 n0 1 e0 zF
def vLb:=zJ 84 [.c .i,.c .i,.c .i] (.c .bool) (fun k d=>vH k d.1 d.2.1 d.2.2.1) (fun x=>(x,())) (fun d=>d.1)
theorem ix:zD prog vLb:=fA f84 n0 e0 zF
def vP4:=zJ 269 [.agg ka,.c .i] (.c .bool) (fun k d=>J3 k (yZ d) d.2.2.2.2.2.1) (fun x=>(x,())) (fun d=>d.1)
theorem YA:zD prog vP4:=fA f269 n0 e0 zF
def vTr:=zJ 237 [.agg ka,.c .i,.agg vM] (.c .bool) (fun k d=>OC k (yZ d) d.2.2.2.2.2.1 (YB d)) (fun x=>(x,())) (fun d=>d.1)
theorem YC:zD prog vTr:=fA f237 n0 (e1 YA) zF
def vCi:=zJ 201 [.agg ka,.c .i,.c .i] (.c .i) (fun k d=>Bj k (yZ d) d.2.2.2.2.2.1 d.2.2.2.2.2.2.1) (fun x=>(x,())) (fun d=>d.1)
theorem YD:zD prog vCi:=fA f201 n0 e0 zF
def vG0:=zJ 196 [.agg ka,.c .i,.agg vM] (.c .i) (fun k d=>FK k (yZ d) d.2.2.2.2.2.1 (YB d)) (fun x=>(x,())) (fun d=>d.1)
theorem yS6:zD prog vG0:=fA f196 n0 (e2 YC YD) zF
def vQ5:=zJ 267 [.c .i] (.c .bool) (fun k d=>N8 k d.1) (fun x=>(x,())) (fun d=>d.1)
theorem vTs:zD prog vQ5:=fA f267 n0 e0 zF
def YE:=zJ 233 [.c .i,.c .i] (.c .bool) (fun k d=>N7 k d.1 d.2.1) (fun x=>(x,())) (fun d=>d.1)
theorem yPu:zD prog YE:=fA f233 n0 (e1 vTs) zF
def vR2:=zJ 234 [.c .i] (.c .bool) (fun k d=>Oa k d.1) (fun x=>(x,())) (fun d=>d.1)
theorem yC9:zD prog vR2:=fA f234 n0 e0 zF
def yWf:zE:=sp [(0,.c (.dat false .i)),sI 1,sI 6,sI 7,sI 8] []
def yPk:zE:=sp [(0,.c (.dat false .i)),sI 1,sI 6,sI 7] []
def yXu (f:YF)(d:yWf.den):=f d.1.1.1 d.1.2.1.1 d.1.2.2.1.1 d.1.2.2.2.1.1 d.1.2.2.2.2.1.1
def YG:zV:=⟨[yWf],[(.exit 0,yPk)],YH,fun k d=>yXu (JH k k) d,fun b x _ K=>K (.exit 0) (zM b yPk (((x.1,()),(x.2.1,()),(x.2.2.1,()),(x.2.2.2,()),()),()))⟩
def yA0:zZ:=⟨[],[(3,YG)],[],true⟩
theorem vQn:zU prog 1000 0 54 (zQ (zS f191) 0) YG:=lp (A:=yA0) YG (fun d=>(d.1.1.1,d.1.2.1.1,d.1.2.2.1.1,d.1.2.2.2.1.1)) yXu JH N9 (e2 yPu yC9) zF
def vE3:=zJ 191 [.c (.dat false .i),.c .i] (.tup [(false,vD),(false,[.bool])]) (fun k d=>E2 k d.1 d.2.1) (fun x=>(x.1,x.2,())) (fun d=>(d.1,d.2.1))
theorem yMs:zD prog vE3:=fA f191 yA0 (e2 yPu yC9) (loops1 vQn)
def vT7:=wv 239 false .i (.own .i) pI
theorem K9:zD prog vT7:=fC f239 ⟨[],[],[],false⟩ e0 zF
theorem vMe (A X:Option Addr)(n c vc:Nat)(w w':World)(rv:Value)(hr:(Builtin.append_ #[36,36] 36 #[.slice A n c,.slice X 1 vc]).run prog w=.ok rv w'):
    Calls prog 238 #[.slice A n c,.int .i64 n,.slice X 1 vc] w fun e oK=>e=.returned rv∧oK=w':=by
  have t0:prog.underlying 36=some (.slice 2):=by kernel_rfl
  have t3:prog.underlying 3=some (.int .i64):=by kernel_rfl
  have z0:∀w,(Go.sizeOf 2).run prog w=.ok 1 w:=fun w=>by kernel_rfl
  have u0:=run_underlying t0;have u3:=run_underlying t3
  go_enter Proofs.Tryz.func238,Proofs.Tryz.ntmps238
  go_wp2_with (at_builtin;refine Lib.wpList_append_run _ rfl _ _ _ _ rfl _ _ rfl rfl _ _ hr ?_)
  all_goals (go_ret;exact⟨rfl,rfl⟩)
theorem vM8:MZ prog 238 36 3 1 where
  ends:=vMe
  grow B off n c i X vo vc N G w w1 w2 w3 hi hnc aO Kc hG hz hA hB:=by
    simp only[Nat.mul_one] at hA hB;have t0:prog.underlying 36=some (.slice 2):=by kernel_rfl
    have t3:prog.underlying 3=some (.int .i64):=by kernel_rfl
    have z0:∀w,(Go.sizeOf 2).run prog w=.ok 1 w:=fun w=>by kernel_rfl
    have u0:=run_underlying t0;have u3:=run_underlying t3;have mixed:prog.follows .mixedOrders=true:=gO;have YI:¬((i:Int)=(n:Int)):=by omega
    have rR:IntKind.i64.wrap ((i:Int)+1)=(i:Int)+1:=by rw[IntKind.wrap_i64];omega
    have fg:(0:Int)≤(i:Int)+1:=by omega
    have fh:i≤n:=by omega
    have gG:((i:Int)+1).toNat=i+1:=by omega
    have YJ:¬(c=i):=by omega
    have hz3:(c:Int)<(n:Int)+1:=by omega
    have K2:(i:Int)≤(n:Int):=by omega
    have hGi:¬(G=i):=by omega
    have YK:¬(G=i+1):=by omega
    go_enter Proofs.Tryz.func238,Proofs.Tryz.ntmps238
    go_wp2_with (first
      |(at_builtin;refine Lib.wpList_append_run _ rfl _ _ _ _ rfl _ _ rfl rfl _ _ hz ?_)
      |(at_builtin;refine M6 _ rfl _ _ 36 36 rfl _ _ rfl rfl (hA _) ?_))
    go_region_law_o (refine M7 rfl _ _ 36 36 rfl (.slice (some ⟨N,(i+1),none⟩) (n+1-(i+1)) (G-(i+1))) (.slice (some ⟨B,off+i,none⟩) (n-i) (c-i)) (by simp[Act.eval,Act.put]) (by simp[Act.eval,Act.put]) (hB (G-(i+1)) (c-i)) ?_)
    go_wp2
    go_ret
    exact⟨rfl,rfl⟩
  shift B off n c i X vo vc w w1 w2 hi aO Kc rL hA hB:=by
    simp only[Nat.mul_one] at hA hB;have t0:prog.underlying 36=some (.slice 2):=by kernel_rfl
    have t3:prog.underlying 3=some (.int .i64):=by kernel_rfl
    have z0:∀w,(Go.sizeOf 2).run prog w=.ok 1 w:=fun w=>by kernel_rfl
    have u0:=run_underlying t0;have u3:=run_underlying t3;have mixed:prog.follows .mixedOrders=true:=gO;have YI:¬((i:Int)=(n:Int)):=by omega
    have rR:IntKind.i64.wrap ((i:Int)+1)=(i:Int)+1:=by rw[IntKind.wrap_i64];omega
    have fg:(0:Int)≤(i:Int)+1:=by omega
    have fh:i≤n:=by omega
    have gG:((i:Int)+1).toNat=i+1:=by omega
    have YJ:¬(c=i):=by omega
    have uK:=fun lb cb=>yBv (P:=prog) (fo:=270) (tb:=4) (e:=2) (size:=1) Proofs.Tryz.func270 (by kernel_rfl) (by kernel_rfl) (by kernel_rfl) (by kernel_rfl) t0 z0 rL vo (off+(i+1)) vc lb cb
    have hb2:¬(c=i+1):=by omega
    have K2:(i:Int)≤(n:Int)+1:=by omega
    go_enter Proofs.Tryz.func238,Proofs.Tryz.ntmps238
    go_wp2_with (simp only[uK])
    go_region_law_o (refine M7 rfl _ _ 36 36 rfl (.slice (some ⟨B,off+(i+1),none⟩) (n-i) (c-(i+1))) (.slice (some ⟨B,off+i,none⟩) (n+1-i) (c-i)) (by simp[Act.eval,Act.put]) (by simp[Act.eval,Act.put]) (hA _ _) ?_)
    go_wp2_with (at_builtin;refine M6 _ rfl _ _ 36 36 rfl _ _ rfl rfl (hB _) ?_)
    go_ret
    exact⟨rfl,rfl⟩
def vZz:Nat×nB:=(238,T1 .i 8)
theorem vMx:zD prog vZz:=yC3 (e:=2) (fn:=f238) vM8
def vT4:=zJ 197 [.c (.dat true .i),.c .i] (.tup [(false,[.fro .i]),(false,vD)]) (fun k d=>E3 k d.1 d.2.1) (fun x=>(x.1,x.2,())) (fun d=>(d.1,d.2.1))
theorem yK1:zD prog vT4:=fA f197 n0 (e3 yMs K9 vMx) zF
def vPr:=zJ 167 [.agg vM,.ptr [.i]] (.c .bool) (fun k d=>(mc (Vc k) d)) (fun x=>(x,())) (fun d=>d.1)
theorem yCo:zD prog vPr:=fA f167 ⟨[],[],[],false⟩ e0 zF
def yEx:zE:=sp [(0,.c (.dat false zG)),(1,.c (.lit (.fn 167 [1001000]))),sI 7,sI 8] [.robox [.i]]
def vBr (f:YL)(d:yEx.den):=f d.1.1.1 d.1.2.2.1.1 d.1.2.2.2.1.1 d.2.1.1
def YM:zV:=⟨[yEx],[(.exit 0,ySw),(.ret,ySe)],(Unit⊕Int),fun k d=>vBr (ES k k) d,fun b x _ K=>match x with|.inl x=>K (.exit 0) (zM b ySw ((),()))|.inr x=>K .ret (zM b ySe (((x,()),()),()))⟩
def yUl:zZ:=⟨[],[(2,YM)],[],false⟩
theorem vQv:zU prog 1000 0 19 (zQ (zS f166) 0) YM:=lp (A:=yUl) YM (fun d=>match d with|.inl d=>.inl ()|.inr d=>.inr d.1.1.1) vBr ES ET (e1 yCo) zF
def vS8:=zJ 166 [.c (.dat false zG),.fn 167 [[.i]]] (.c .i) (fun k d=>Vd k d.1 d.2.1) (fun x=>(x,())) (fun d=>d.1)
theorem vOp:zD prog vS8:=fA f166 yUl (e1 yCo) (loops1 vQv)
def vRo:=zJ 97 [.c (.dat false zG),.c .i] (.c .i) (fun k d=>nM k d.1 d.2.1) (fun x=>(x,())) (fun d=>d.1)
theorem ye:zD prog vRo:=fA f97 ⟨[],[],[],false⟩ (e1 vOp) zF
def vKq:=zJ 268 [.c .i] (.c .bool) (fun k d=>N5 k d.1) (fun x=>(x,())) (fun d=>d.1)
theorem vVc:zD prog vKq:=fA f268 ⟨[],[],[],false⟩ e0 zF
def vXp:=zJ 236 [.c .i,.c .i] (.c .i) (fun k d=>JA k d.1 d.2.1) (fun x=>(x,())) (fun d=>d.1)
theorem YN:zD prog vXp:=fA f236 ⟨[],[],[],false⟩ (e1 vVc) zF
def yD9:zE:=sp [sI 3,(6,.c (.dat false .i)),sI 7,sI 8] []
def yRp:zE:=sp [sI 3] []
def yTg:zE:=sp [sI 2] []
def yEa (f:YO)(d:yD9.den):=f d.1.1.1 d.1.2.1.1 d.1.2.2.1.1 d.1.2.2.2.1.1
def YP:zV:=⟨[yD9],[(.exit 0,yRp),(.ret,yTg)],(Int⊕Int),fun k d=>yEa (Jz k k) d,fun b x _ K=>match x with|.inl x=>K (.exit 0) (zM b yRp (((x,()),()),()))|.inr x=>K .ret (zM b yTg (((x,()),()),()))⟩
def yBx:zZ:=⟨[],[(3,YP)],[],false⟩
theorem vJn:zU prog 1000 0 18 (zQ (zS f235) 0) YP:=lp (A:=yBx) YP (fun d=>match d with|.inl d=>.inl d.1.1.1|.inr d=>.inr d.1.1.1) yEa Jz ySj e0 zF
def vW5:=zJ 235 [.c (.dat false .i)] (.c .i) (fun k d=>N4 k d.1) (fun x=>(x,())) (fun d=>d.1)
theorem vMb:zD prog vW5:=fA f235 yBx e0 (loops1 vJn)
def YQ:=zJ 193 [.agg vM,.agg vM] (.c .i) (fun k d=>(G0 (EU k) d)) (fun x=>(x,())) (fun d=>d.1)
theorem G1:zD prog YQ:=fA f193 ⟨[],[],[],false⟩ (e2 YN vMb) zF
def vE0:=wv 241 false zG (.own zG) xj
theorem P3:zD prog vE0:=fC f241 ⟨[],[],[],false⟩ e0 zF
theorem vGg (A X:Option Addr)(n c vc:Nat)(w w':World)(rv:Value)(hr:(Builtin.append_ #[39,39] 39 #[.slice A n c,.slice X 1 vc]).run prog w=.ok rv w'):
    Calls prog 240 #[.slice A n c,.int .i64 n,.slice X 1 vc] w fun e oK=>e=.returned rv∧oK=w':=by
  have t0:prog.underlying 39=some (.slice 142):=by kernel_rfl
  have t3:prog.underlying 3=some (.int .i64):=by kernel_rfl
  have z0:∀w,(Go.sizeOf 142).run prog w=.ok 7 w:=fun w=>by kernel_rfl
  have u0:=run_underlying t0;have u3:=run_underlying t3
  go_enter Proofs.Tryz.func240,Proofs.Tryz.ntmps240
  go_wp2_with (at_builtin;refine Lib.wpList_append_run _ rfl _ _ _ _ rfl _ _ rfl rfl _ _ hr ?_)
  all_goals (go_ret;exact⟨rfl,rfl⟩)
theorem vU4:MZ prog 240 39 3 7 where
  ends:=vGg
  grow B off n c i X vo vc N G w w1 w2 w3 hi hnc aO Kc hG hz hA hB:=by
    have t0:prog.underlying 39=some (.slice 142):=by kernel_rfl
    have t3:prog.underlying 3=some (.int .i64):=by kernel_rfl
    have z0:∀w,(Go.sizeOf 142).run prog w=.ok 7 w:=fun w=>by kernel_rfl
    have u0:=run_underlying t0;have u3:=run_underlying t3;have mixed:prog.follows .mixedOrders=true:=gO;have YI:¬((i:Int)=(n:Int)):=by omega
    have rR:IntKind.i64.wrap ((i:Int)+1)=(i:Int)+1:=by rw[IntKind.wrap_i64];omega
    have fg:(0:Int)≤(i:Int)+1:=by omega
    have fh:i≤n:=by omega
    have gG:((i:Int)+1).toNat=i+1:=by omega
    have YJ:¬(c=i):=by omega
    have hz3:(c:Int)<(n:Int)+1:=by omega
    have K2:(i:Int)≤(n:Int):=by omega
    have hGi:¬(G=i):=by omega
    have YK:¬(G=i+1):=by omega
    go_enter Proofs.Tryz.func240,Proofs.Tryz.ntmps240
    go_wp2_with (first
      |(at_builtin;refine Lib.wpList_append_run _ rfl _ _ _ _ rfl _ _ rfl rfl _ _ hz ?_)
      |(at_builtin;refine M6 _ rfl _ _ 39 39 rfl _ _ rfl rfl (hA _) ?_))
    go_region_law_o (refine M7 rfl _ _ 39 39 rfl (.slice (some ⟨N,(i+1)*7,none⟩) (n+1-(i+1)) (G-(i+1))) (.slice (some ⟨B,off+i*7,none⟩) (n-i) (c-i)) (by simp[Act.eval,Act.put]) (by simp[Act.eval,Act.put]) (hB (G-(i+1)) (c-i)) ?_)
    go_wp2
    go_ret
    exact⟨rfl,rfl⟩
  shift B off n c i X vo vc w w1 w2 hi aO Kc rL hA hB:=by
    have t0:prog.underlying 39=some (.slice 142):=by kernel_rfl
    have t3:prog.underlying 3=some (.int .i64):=by kernel_rfl
    have z0:∀w,(Go.sizeOf 142).run prog w=.ok 7 w:=fun w=>by kernel_rfl
    have u0:=run_underlying t0;have u3:=run_underlying t3;have mixed:prog.follows .mixedOrders=true:=gO;have YI:¬((i:Int)=(n:Int)):=by omega
    have rR:IntKind.i64.wrap ((i:Int)+1)=(i:Int)+1:=by rw[IntKind.wrap_i64];omega
    have fg:(0:Int)≤(i:Int)+1:=by omega
    have fh:i≤n:=by omega
    have gG:((i:Int)+1).toNat=i+1:=by omega
    have YJ:¬(c=i):=by omega
    have uK:=fun lb cb=>yBv (P:=prog) (fo:=272) (tb:=4) (e:=142) (size:=7) Proofs.Tryz.func272 (by kernel_rfl) (by kernel_rfl) (by kernel_rfl) (by kernel_rfl) t0 z0 rL vo (off+(i+1)*7) vc lb cb
    have hb2:¬(c=i+1):=by omega
    have K2:(i:Int)≤(n:Int)+1:=by omega
    go_enter Proofs.Tryz.func240,Proofs.Tryz.ntmps240
    go_wp2_with (simp only[uK])
    go_region_law_o (refine M7 rfl _ _ 39 39 rfl (.slice (some ⟨B,off+(i+1)*7,none⟩) (n-i) (c-(i+1))) (.slice (some ⟨B,off+i*7,none⟩) (n+1-i) (c-i)) (by simp[Act.eval,Act.put]) (by simp[Act.eval,Act.put]) (hA _ _) ?_)
    go_wp2_with (at_builtin;refine M6 _ rfl _ _ 39 39 rfl _ _ rfl rfl (hB _) ?_)
    go_ret
    exact⟨rfl,rfl⟩
def vIs:Nat×nB:=(240,T1 zG 56)
theorem P4:zD prog vIs:=yC3 (e:=142) (fn:=f240) vU4
def yYc:zE:=sp [(0,.c (.dat true zG)),sP 3 0,sI 6] [oB wS]
def vBn (f:YR)(d:yYc.den):=f d.1.1.1 d.1.2.2.1.1 (wM d.2.1)
def YS:zV:=⟨[yYc],[(.exit 1,yYc)],YT,fun k d=>vBn (JD k k) d,fun b x _ K=>K (.exit 1) (zM b yYc (((x.1,()),(),(x.2.1,()),()),((iw x.2.2 ()),())))⟩
def yV0:zZ:=⟨[],[(6,YS)],[],true⟩
theorem vPs:zU prog 1000 0 40 (zQ (zS f198) 0) YS:=lp (A:=yV0) YS (fun d=>(d.1.1.1,d.1.2.2.1.1,(wM d.2.1))) vBn JD EX (e4 ye G1 P3 P4) zF
def vRf:=zJ 198 [.c (.dat true zG),.agg vM] (.tup [(false,[.fro zG]),(false,vD)]) (fun k d=>xk k d.1 (P5 d)) (fun x=>(x.1,x.2,())) (fun d=>(d.1,d.2.1))
theorem P6:zD prog vRf:=fA f198 yV0 (e4 ye G1 P3 P4) (loops1 vPs)
def vJ4:=yM 154 [.ptr true yf,.agg La] (.c .i) [lj] 0 (fun k d=>OD k (eX d) (yQk d)) (fun x=>(x.1,(jI x.2 ()))) (fun d=>(d.1,(kb d)))
theorem vHu:zD prog vJ4:=fX f154 n0 1 (e4 ix yS6 yK1 P6) zF
def vQd:=zJ 199 [.ptr YU,.c .i] (.tup [(true,qa),(false,vD)]) (fun k d=>YV k (eX d) d.2.2.2.2.2.2.2.2.2.2.2.2.2.2.2.2.2.2.1) (fun x=>(iw x.1 (x.2,()))) (fun d=>((wM d),d.2.2.2.2.2.2.2.1))
theorem yPo:zD prog vQd:=fA f199 n0 (e1 ye) zF
def vGn:=yM 242 [.c (.own zG),.c (.p .i),.c (.p .i)] (.c (.own zG)) [] 0 (fun k d=>Jy k d.1 d.2.1 d.2.2.1) (fun x=>(x,())) (fun d=>d.1)
theorem yN1:zD prog vGn:=fX f242 ⟨[],[],[],false⟩ 0 e0 zF
def vZ5:=zJ 200 [.c (.dat true zG),.c .i] (.tup [(false,[.fro zG]),(true,qa),(false,vD)]) (fun k d=>pM k d.1 d.2.1) (fun x=>(P7 x ())) (fun d=>(P8 d))
theorem qc:zD prog vZ5:=fA f200 ⟨[],[],[],false⟩ (e3 ye P3 yN1) zF
def vM2:=yM 93 [.ptr true yf,.c (.p .i),.c (.p (.dat false .i))] (.tup []) [lj] 0 (fun k d=>uz k (eX d) d.2.2.2.2.2.2.2.2.2.2.2.2.2.2.2.2.2.2.1 d.2.2.2.2.2.2.2.2.2.2.2.2.2.2.2.2.2.2.2.1) (fun x=>(jI x ())) (fun d=>(eX d))
theorem yXc:zD prog vM2:=fX f93 n0 1 e0 zF
def YW:=zJ 202 [.c (.dat true zG),.c .i,.c .i] (.tup [(false,[.fro zG]),(false,vD)]) (fun k d=>EY k d.1 d.2.1 d.2.2.1) (fun x=>(x.1,x.2,())) (fun d=>(d.1,d.2.1))
theorem ySb:zD prog YW:=fA f202 n0 (e2 qc P6) zF
def vLe:=zJ 200 [.c (.dat false zG),.c .i] (.tup [(false,[.own zG]),(true,qa),(false,vD)]) (fun k d=>Vl k d.1 d.2.1) (fun x=>(P7 x ())) (fun d=>(P8 d))
theorem yY9:zD prog vLe:=fA f200 ⟨[],[],[],false⟩ (e3 ye P3 yN1) zF
def yIi:zE:=sp [sO 6 0,sP 7 1,sI 9] [oA zG,oB wS]
def yKz (f:YX)(d:yIi.den):=f d.1.2.2.1.1 d.2.1 (wM d.2.2.1)
def YY:zV:=⟨[yIi],[(.exit 0,yIi)],YZ,fun k d=>yKz (JG k k) d,fun b x _ K=>K (.exit 0) (zM b yIi (((),(),(x.1,()),()),(x.2.1,(iw x.2.2 ()),())))⟩
def yVu:zZ:=⟨[],[(5,YY)],[],true⟩
theorem vJt:zU prog 1000 0 41 (zQ (zS f203) 0) YY:=lp (A:=yVu) YY (fun d=>(d.1.2.2.1.1,d.2.1,(wM d.2.2.1))) yKz JG E0 (e3 yY9 G1 P4) zF
def Y0:=zJ 203 [.c (.dat true zG),.c .i] (.tup [(false,[.fro zG]),(false,vD)]) (fun k d=>E1 k d.1 d.2.1) (fun x=>(x.1,x.2,())) (fun d=>(d.1,d.2.1))
theorem yW9:zD prog Y0:=fA f203 yVu (e3 yY9 G1 P4) (loops1 vJt)
def vOx:=zJ 204 [.c (.dat true zG),.c .i] (.tup [(false,[.fro zG]),(false,vD)]) (fun k d=>EZ k d.1 d.2.1) (fun x=>(x.1,x.2,())) (fun d=>(d.1,d.2.1))
theorem yF1:zD prog vOx:=fA f204 n0 (e2 qc P6) zF
def Y1:=yM 155 [.ptr true yf,.agg vM] (.c .i) [lj] 0 (fun k d=>xA k (eX d) (G2 d)) (fun x=>(x.1,(jI x.2 ()))) (fun d=>(d.1,(kb d)))
theorem vYd:zD prog Y1:=fX f155 n0 1 (e8 yPo qc yXc ix YD ySb yW9 yF1) zF
def vJq:=wv 243 false qW (.own qW) Ux
theorem vY4:zD prog vJq:=fC f243 ⟨[],[],[],false⟩ e0 zF
def vNk:=wv 208 true (.sl .i) (.jun) Uv
theorem vBo:zD prog vNk:=fC f208 ⟨[],[],[],false⟩ e0 zF
def yQy:zE:=sp [sO 3 0,(8,.c (.dat true (.sl .i))),sI 9,sI 10] [.pmat]
def yMk:zE:=sp [sO 3 0] [.pmat]
def yOa (f:Y2)(d:yQy.den):=f d.1.2.1.1 d.1.2.2.1.1 d.1.2.2.2.1.1 d.2.1.1 d.2.1.2
def Y3:zV:=⟨[yQy],[(.exit 0,yMk)],(EQ×Nat),fun k d=>yOa (IY k k) d,fun b x _ K=>K (.exit 0) (zM b yMk (((),()),((x.1,x.2),())))⟩
def yX7:zZ:=⟨[],[(3,Y3)],[],false⟩
theorem vHz:zU prog 1000 0 22 (zQ (zS f244) 0) Y3:=lp (A:=yX7) Y3 (fun d=>d.2.1) yOa IY DY (e2 vBo K9) zF
def vKs:=zJ 244 [.c (.dat true (.sl .i))] (.c (.mat)) (fun k d=>IZ k d.1) (fun x=>(x,())) (fun d=>d.1)
theorem vKx:zD prog vKs:=fA f244 yX7 (e2 vBo K9) (loops1 vHz)
def vOa:=zJ 205 [.agg [.dat false qW,.dat true (.sl .i),.dat false .i,.dat true (.sl .i)]] (.agg [.own qW,.mat,.own .i,.mat]) (fun k d=>(vI (gk k) d)) (fun x=>(gP x ())) (fun d=>(fL d))
theorem oY:zD prog vOa:=fA f205 ⟨[],[],[],false⟩ (e3 vY4 vKx K9) zF
def vW3:=zJ 206 [.ptr YU,.c .i] (.c .bool) (fun k d=>Y4 k (eX d) d.2.2.2.2.2.2.2.2.2.2.2.2.2.2.2.2.2.2.1) (fun x=>(x,())) (fun d=>d.1)
theorem yY4:zD prog vW3:=fA f206 n0 (e1 ix) zF
def vY6:=yM 156 [.ptr true yf,.agg vM] (.c .i) [lj] 0 (fun k d=>xB k (eX d) (G2 d)) (fun x=>(x.1,(jI x.2 ()))) (fun d=>(d.1,(kb d)))
theorem Y5:zD prog vY6:=fX f156 n0 1 (e3 oY yY4 ix) zF
def vHp:=zJ 207 [.ptr YU,.c .i] (.c .bool) (fun k d=>Lb k (eX d) d.2.2.2.2.2.2.2.2.2.2.2.2.2.2.2.2.2.2.1) (fun x=>(x,())) (fun d=>d.1)
theorem G3:zD prog vHp:=fA f207 n0 (e1 ix) zF
def vUm:=wv 208 true (.sl .i) (.own (.sl .i)) FL
theorem yFn:zD prog vUm:=fC f208 ⟨[],[],[],false⟩ e0 zF
def vNi:=zJ 209 [.c (.dat false .i),.c .i,.c .i] (.c (.own .i)) (fun k d=>pP k d.1 d.2.1 d.2.2.1) (fun x=>(x,())) (fun d=>d.1)
theorem G4:zD prog vNi:=fA f209 n0 (e1 K9) zF
def vFi:=zJ 230 [.c .i] (.c .bool) (fun k d=>Vr k d.1) (fun x=>(x,())) (fun d=>d.1)
theorem vGc:zD prog vFi:=fA f230 n0 e0 zF
def Y6:=zJ 231 [.c (.int .u64),.c (.int .u64)] (.tup [(false,[.int .u64]),(false,[.int .u64])]) (fun k d=>JI k d.1 d.2.1) (fun x=>(x.1,x.2,())) (fun d=>(d.1,d.2.1))
theorem vXm:zD prog Y6:=fA f231 n0 e0 zF
def vMq:=zJ 293 [.c (.int .u64)] (.c .i) (fun k d=>yNf k d.1) (fun x=>(x,())) (fun d=>d.1)
theorem vOm:zD prog vMq:=fA f293 n0 e0 zF
def vYo:=zJ 266 [.c (.int .u64)] (.c .i) (fun k d=>yJy k d.1) (fun x=>(x,())) (fun d=>d.1)
theorem Y7:zD prog vYo:=fA f266 n0 (e1 vOm) zF
def yFf:zE:=sp [(2,.c (.int .u64)),(8,.c (.int .u64)),(9,.c (.int .u64)),(10,.c (.int .u64)),(11,.c (.int .u64)),(13,.c (.int .u64)),(14,.c (.int .u64)),(15,.c (.int .u64)),(16,.c (.int .u64))] []
def yE2:zE:=sp [(2,.c (.int .u64)),(8,.c (.int .u64)),(9,.c (.int .u64)),(10,.c (.int .u64)),(11,.c (.int .u64)),(13,.c (.int .u64)),(14,.c (.int .u64)),(15,.c (.int .u64))] []
def yE9 (f:Y8)(d:yFf.den):=f d.1.1.1 d.1.2.1.1 d.1.2.2.1.1 d.1.2.2.2.1.1 d.1.2.2.2.2.1.1 d.1.2.2.2.2.2.1.1 d.1.2.2.2.2.2.2.1.1 d.1.2.2.2.2.2.2.2.1.1 d.1.2.2.2.2.2.2.2.2.1.1
def P9:zV:=⟨[yFf],[(.exit 0,yE2)],qS,fun k d=>yE9 (Za k k) d,fun b x _ K=>K (.exit 0) (zM b yE2 (((x.1,()),(x.2.1,()),(x.2.2.1,()),(x.2.2.2.1,()),(x.2.2.2.2.1,()),(x.2.2.2.2.2.1,()),(x.2.2.2.2.2.2.1,()),(x.2.2.2.2.2.2.2,()),()),()))⟩
def vAx:zE:=sp [(2,.c (.int .u64)),(8,.c (.int .u64)),(9,.c (.int .u64)),(10,.c (.int .u64)),(14,.c (.int .u64)),(15,.c (.int .u64)),(16,.c (.int .u64)),(17,.c (.int .u64)),(18,.c (.int .u64))] []
def yJs:zE:=sp [(2,.c (.int .u64)),(8,.c (.int .u64)),(14,.c (.int .u64)),(15,.c (.int .u64)),(17,.c (.int .u64)),(18,.c (.int .u64))] []
def yJo (f:Zb)(d:vAx.den):=f d.1.1.1 d.1.2.1.1 d.1.2.2.1.1 d.1.2.2.2.1.1 d.1.2.2.2.2.1.1 d.1.2.2.2.2.2.1.1 d.1.2.2.2.2.2.2.1.1 d.1.2.2.2.2.2.2.2.1.1 d.1.2.2.2.2.2.2.2.2.1.1
def Qa:zV:=⟨[vAx],[(.exit 2,yJs)],Lr,fun k d=>yJo (Zd k k) d,fun b x _ K=>K (.exit 2) (zM b yJs (((x.1,()),(x.2.1,()),(x.2.2.1,()),(x.2.2.2.1,()),(x.2.2.2.2.1,()),(x.2.2.2.2.2,()),()),()))⟩
def Ze:zZ:=⟨[],[(17,P9),(24,Qa)],[],true⟩
theorem vW6:zU prog 1000 0 135 (zQ (zS f232) 0) P9:=lp (A:=Ze) P9 (fun d=>(d.1.1.1,d.1.2.1.1,d.1.2.2.1.1,d.1.2.2.2.1.1,d.1.2.2.2.2.1.1,d.1.2.2.2.2.2.1.1,d.1.2.2.2.2.2.2.1.1,d.1.2.2.2.2.2.2.2.1.1)) yE9 Za yEi (e1 Y7) zF
theorem Zf:zU prog 1000 0 135 (zQ (zS f232) 1) Qa:=lp (A:=Ze) Qa (fun d=>(d.1.1.1,d.1.2.1.1,d.1.2.2.1.1,d.1.2.2.2.1.1,d.1.2.2.2.2.1.1,d.1.2.2.2.2.2.1.1)) yJo Zd yZi (e1 Y7) zF
def vYw:=zJ 232 [.c (.int .u64),.c (.int .u64),.c (.int .u64)] (.tup [(false,[.int .u64]),(false,[.int .u64])]) (fun k d=>Od k d.1 d.2.1 d.2.2.1) (fun x=>(x.1,x.2,())) (fun d=>(d.1,d.2.1))
theorem vIe:zD prog vYw:=fA f232 Ze (e1 Y7) (oG (n:=2) (by kernel_rfl) fun i hi=>match i,hi with|0,_=>⟨P9,by kernel_rfl,vW6⟩|1,_=>⟨Qa,by kernel_rfl,Zf⟩|i+2,hi=>absurd hi (by omega))
def vTq:=(149,MX)
theorem Zg:zD prog vTq:=T0 (fn:=f149)
def vQa:=zJ 190 [.c .i,.c .i,.c .i] (.tup [(false,vD),(false,[.bool])]) (fun k d=>Oe k d.1 d.2.1 d.2.2.1) (fun x=>(x.1,x.2,())) (fun d=>(d.1,d.2.1))
theorem yOh:zD prog vQa:=fA f190 n0 (e4 vGc vXm vIe Zg) zF
def ySh:zE:=sp [sI 4,(5,.c (.int .u64)),(9,.c (.dat false .i)),sI 10,sI 11] []
def yI5:zE:=sp [sI 4,(5,.c (.int .u64))] []
def yKf (f:Zh)(d:ySh.den):=f d.1.1.1 d.1.2.1.1 d.1.2.2.1.1 d.1.2.2.2.1.1 d.1.2.2.2.2.1.1
def Zi:zV:=⟨[ySh],[(.exit 0,yI5)],vU,fun k d=>yKf (E5 k k) d,fun b x _ K=>K (.exit 0) (zM b yI5 (((x.1,()),(x.2,()),()),()))⟩
def yNc:zZ:=⟨[],[(4,Zi)],[],false⟩
theorem vRp:zU prog 1000 0 37 (zQ (zS f88) 0) Zi:=lp (A:=yNc) Zi (fun d=>(d.1.1.1,d.1.2.1.1)) yKf E5 E6 (e1 Zg) zF
def vEs:=zJ 88 [.c (.dat false .i)] (.tup [(false,vD),(false,[.bool])]) (fun k d=>E4 k d.1) (fun x=>(x.1,x.2,())) (fun d=>(d.1,d.2.1))
theorem Qb:zD prog vEs:=fA f88 yNc (e1 Zg) (loops1 vRp)
def yEl:zE:=⟨[(1,.c (.dat false .i)),(2,.c (.dat false .i)),sO 8 0,(25,.c (.dat false wX)),sI 26,sI 27],[oA .i],[(8,none,.i,false)]⟩
def yW5:zE:=sp [sO 8 0] [oA .i]
def yIj:zE:=sp [sI 6,(7,.c .bool)] []
def yAn (f:Zj)(d:yEl.den):=f d.1.1.1 d.1.2.1.1 d.1.2.2.2.1.1 d.1.2.2.2.2.1.1 d.1.2.2.2.2.2.1.1 d.2.1
def Zk:zV:=⟨[yEl],[(.exit 0,yW5),(.ret,yIj)],(AC⊕eY),fun k d=>yAn (E8 k k) d,fun b x _ K=>match x with|.inl x=>K (.exit 0) (zM b yW5 (((),()),(x,())))|.inr x=>K .ret (zM b yIj (((x.1,()),(x.2,()),()),()))⟩
def yGu:zZ:=⟨[],[(5,Zk)],[],true⟩
theorem vCx:zU prog 1000 0 57 (zQ (zS f141) 0) Zk:=lp (A:=yGu) Zk (fun d=>match d with|.inl d=>.inl d.2.1|.inr d=>.inr (d.1.1.1,d.1.2.1.1)) yAn E8 E9 (e2 yOh Qb) zF
def vIh:=zJ 141 [.c (.dat false wX),.c (.dat false .i),.c (.dat false .i)] (.tup [(false,vD),(false,[.bool])]) (fun k d=>so k d.1 d.2.1 d.2.2.1) (fun x=>(x.1,x.2,())) (fun d=>(d.1,d.2.1))
theorem yg:zD prog vIh:=fA f141 yGu (e2 yOh Qb) (loops1 vCx)
def vHy:=yM 157 [.ptr true yf,.c (.p .i),.c (.p .i)] (.c .i) [lj] 0 (fun k d=>OE k (eX d) d.2.2.2.2.2.2.2.2.2.2.2.2.2.2.2.2.2.2.1 d.2.2.2.2.2.2.2.2.2.2.2.2.2.2.2.2.2.2.2.1) (fun x=>(x.1,(jI x.2 ()))) (fun d=>(d.1,(kb d)))
theorem vMt:zD prog vHy:=fX f157 n0 1 (e6 G3 ix yFn G4 yg oY) zF
def vGi:=zJ 274 [.c .i,.c .i] (.tup [(false,vD),(false,[.bool])]) (fun k d=>OF k d.1 d.2.1) (fun x=>(x.1,x.2,())) (fun d=>(d.1,d.2.1))
theorem vKz:zD prog vGi:=fA f274 ⟨[],[],[],false⟩ e0 zF
def vZl:=zJ 132 [.agg nT] (.c .bool) (fun k d=>Nj k d.1 d.2.1 d.2.2.1) (fun x=>(x,())) (fun d=>d.1)
theorem yEc:zD prog vZl:=fA f132 ⟨[],[],[],false⟩ e0 zF
def vId:=zJ 245 [.agg nT,.c .i] (.tup [(true,[.i,.i,.i]),(false,vD)]) (fun k d=>J5 k (d.1,d.2.1,d.2.2.1) d.2.2.2.1) (fun x=>(x.1.1,x.1.2.1,x.1.2.2,x.2,())) (fun d=>((d.1,d.2.1,d.2.2.1),d.2.2.2.1))
theorem yJe:zD prog vId:=fA f245 n0 (e2 vKz yEc) zF
def vZp:=zJ 210 [.agg nT,.c .i] (.tup [(true,[.i,.i,.i]),(false,vD)]) (fun k d=>F7 k (d.1,d.2.1,d.2.2.1) d.2.2.2.1) (fun x=>(x.1.1,x.1.2.1,x.1.2.2,x.2,())) (fun d=>((d.1,d.2.1,d.2.2.1),d.2.2.2.1))
theorem yVe:zD prog vZp:=fA f210 n0 (e1 yJe) zF
def vNx:=zJ 246 [.agg nT,.c .i] (.c .i) (fun k d=>(vI (xe k) d)) (fun x=>(x,())) (fun d=>d.1)
theorem Qc:zD prog vNx:=fA f246 ⟨[],[],[],false⟩ e0 zF
def vTj:=zJ 211 [.agg nT,.c .i,.c .i] (.tup [(true,[.i,.i,.i]),(false,vD)]) (fun k d=>F8 k (d.1,d.2.1,d.2.2.1) d.2.2.2.1 d.2.2.2.2.1) (fun x=>(x.1.1,x.1.2.1,x.1.2.2,x.2,())) (fun d=>((d.1,d.2.1,d.2.2.1),d.2.2.2.1))
theorem yQq:zD prog vTj:=fA f211 n0 (e2 yJe Qc) zF
def vCy:=zJ 212 [.agg nT,.c .i] (.c .i) (fun k d=>F9 k (d.1,d.2.1,d.2.2.1) d.2.2.2.1) (fun x=>(x,())) (fun d=>d.1)
theorem yKg:zD prog vCy:=fA f212 n0 e0 zF
def vF5:=yM 158 [.ptr true yf,.c (.p .i),.c (.p .i),.c (.p .i)] (.c .i) [lj] 0 (fun k d=>Zl k (eX d) d.2.2.2.2.2.2.2.2.2.2.2.2.2.2.2.2.2.2.1 d.2.2.2.2.2.2.2.2.2.2.2.2.2.2.2.2.2.2.2.1 d.2.2.2.2.2.2.2.2.2.2.2.2.2.2.2.2.2.2.2.2.1) (fun x=>(x.1,(jI x.2 ()))) (fun d=>(d.1,(kb d)))
theorem vIt:zD prog vF5:=fX f158 n0 1 (e5 ix yVe yQq yKg oY) zF
def yY6:zE:=sp [sP 0 0,sO 7 2,sP 8 3,(40,.c (.dat true (.sl .i))),sI 41,sI 42] [oB Zm,oA yR,oA .i,oB yVd,oA qW,.mat,oA .i,.mat]
def yUk:zE:=sp [sP 0 0,sO 7 2,sP 8 3] [oB Zm,oA yR,oA .i,oB yVd,oA qW,.mat,oA .i,.mat]
def yJk:zE:=sp [sP 0 0,sI 6] [oB Zm,oA yR]
def yAx (f:Zn)(d:yY6.den):=f d.1.2.2.2.1.1 d.1.2.2.2.2.1.1 d.1.2.2.2.2.2.1.1 (lk d.2.1) d.2.2.1 d.2.2.2.1 d.2.2.2.2.2.1 d.2.2.2.2.2.2.1 d.2.2.2.2.2.2.2.1 d.2.2.2.2.2.2.2.2.1
def Zo:zV:=⟨[yY6],[(.exit 0,yUk),(.ret,yJk)],Zp,fun k d=>yAx (Zq k k) d,fun b x _ K=>match x with|.inl x=>K (.exit 0) (zM b yUk (((),(),(),()),((vT x.1 ()),x.2.1,x.2.2.1,(),x.2.2.2.1,x.2.2.2.2.1,x.2.2.2.2.2.1,x.2.2.2.2.2.2,())))|.inr x=>K .ret (zM b yJk (((),(x.1,()),()),((vT x.2.1 ()),x.2.2,())))⟩
def yT1:zZ:=⟨[],[(6,Zo)],[],true⟩
theorem vPt:zU prog 1000 1 81 (zQ (zS f159) 0) Zo:=lp (A:=yT1) Zo (fun d=>match d with|.inl d=>.inl ((lk d.2.1),d.2.2.1,d.2.2.2.1,d.2.2.2.2.2.1,d.2.2.2.2.2.2.1,d.2.2.2.2.2.2.2.1,d.2.2.2.2.2.2.2.2.1)|.inr d=>.inr (d.1.2.1.1,(lk d.2.1),d.2.2.1)) yAx Zq yG0 (e5 G3 ix G4 oY yg) zF
def vE7:=yM 159 [.ptr true yf,.c (.p .i),.c (.p .i)] (.c .i) [lj] 0 (fun k d=>yOq k (eX d) d.2.2.2.2.2.2.2.2.2.2.2.2.2.2.2.2.2.2.1 d.2.2.2.2.2.2.2.2.2.2.2.2.2.2.2.2.2.2.2.1) (fun x=>(x.1,(jI x.2 ()))) (fun d=>(d.1,(kb d)))
theorem vIb:zD prog vE7:=fX f159 yT1 1 (e5 G3 ix G4 oY yg) (loops1 vPt)
def vRj:=yM 94 [.ptr true yf,.agg vM] (.c .i) [lj] 0 (fun k d=>GD k (eX d) (G2 d)) (fun x=>(x.1,(jI x.2 ()))) (fun d=>(d.1,(kb d)))
theorem vVv:zD prog vRj:=fX f94 n0 1 (e6 vHu vYd Y5 vMt vIt vIb) zF
def vJ1:=zJ 89 [.agg ka,.c .i] (.c .bool) (fun k d=>(ke (Bi k) d)) (fun x=>(x,())) (fun d=>d.1)
theorem Qd:zD prog vJ1:=fA f89 ⟨[],[],[],false⟩ e0 zF
def vKc:=zJ 162 [.c .i,.c .i,.c (.dat false .i)] (.agg [.i,.i,.i,.i,.i,.i,.i,.i]) (fun k d=>pR k d.1 d.2.1 d.2.2.1) (fun x=>(GZ x ())) (fun d=>(qb d))
theorem yh:zD prog vKc:=fA f162 ⟨[],[],[],false⟩ e0 zF
def yU5:zE:=⟨[sP 1 0,sP 2 1,sO 4 2,(10,.c (.dat true zG)),sI 11,sI 12],[oB gu,oB fw,oA yR],[(4,none,yR,false)]⟩
def yBa:zE:=sp [sP 1 0,sP 2 1,sO 4 2] [oB gu,oB fw,oA yR]
def yBi (f:Zr)(d:yU5.den):=(sJ (f d.1.2.2.2.1.1 d.1.2.2.2.2.1.1 d.1.2.2.2.2.2.1.1) d.2.1) d.2.2.1.1 d.2.2.1.2.1 d.2.2.1.2.2.1 d.2.2.2.1
def Qe:zV:=⟨[yU5],[(.exit 0,yBa)],Zs,fun k d=>yBi (FD k k) d,fun b x _ K=>K (.exit 0) (zM b yBa (((),(),(),()),((yi x ()),(x.2.2.2.2.2.2.2.2.2.2.2.1,x.2.2.2.2.2.2.2.2.2.2.2.2.1,x.2.2.2.2.2.2.2.2.2.2.2.2.2.1,()),x.2.2.2.2.2.2.2.2.2.2.2.2.2.2,())))⟩
def yBh:zE:=sp [sP 1 0,sP 2 1,sO 4 2,(28,.c (.dat true qW)),sI 29,sI 30] [oB gu,oB fw,oA yR]
def yP4 (f:Zt)(d:yBh.den):=(sJ (f d.1.2.2.2.1.1 d.1.2.2.2.2.1.1 d.1.2.2.2.2.2.1.1) d.2.1) d.2.2.1.1 d.2.2.1.2.1 d.2.2.1.2.2.1 d.2.2.2.1
def Qf:zV:=⟨[yBh],[(.exit 2,yBa)],Zs,fun k d=>yP4 (J1 k k) d,fun b x _ K=>K (.exit 2) (zM b yBa (((),(),(),()),((yi x ()),(x.2.2.2.2.2.2.2.2.2.2.2.1,x.2.2.2.2.2.2.2.2.2.2.2.2.1,x.2.2.2.2.2.2.2.2.2.2.2.2.2.1,()),x.2.2.2.2.2.2.2.2.2.2.2.2.2.2,())))⟩
def Zv:zZ:=⟨[],[(3,Qe),(8,Qf)],[],false⟩
theorem vWx:zU prog 1000 0 48 (zQ (zS f160) 0) Qe:=lp (A:=Zv) Qe (fun d=>(yi d.2.1 (d.2.2.1.1,d.2.2.1.2.1,d.2.2.1.2.2.1,d.2.2.2.1))) yBi FD FE (e1 yh) zF
theorem vTx:zU prog 1000 0 48 (zQ (zS f160) 1) Qf:=lp (A:=Zv) Qf (fun d=>(yi d.2.1 (d.2.2.1.1,d.2.2.1.2.1,d.2.2.1.2.2.1,d.2.2.2.1))) yP4 J1 FG (e1 yh) zF
def vMr:=zJ 160 [.agg ya] (.tup [(true,[.i,.fro qW,.fro (.sl .i),.fro .i,.fro (.sl .i),.fro .i,.fro (.sl .i),.own zG,.fro .i,.i,.bool]),(false,[.own yR])]) (fun k d=>(sJ (OB k) d)) (fun x=>(G5 x ())) (fun d=>(G6 d))
theorem yDn:zD prog vMr:=fA f160 Zv (e1 yh) (oG (n:=2) (by kernel_rfl) fun i hi=>match i,hi with|0,_=>⟨Qe,by kernel_rfl,vWx⟩|1,_=>⟨Qf,by kernel_rfl,vTx⟩|i+2,hi=>absurd hi (by omega))
def vEh:=zJ 161 [.agg vM,.c .i] (.c .bool) (fun k d=>(mc (VQ k) d)) (fun x=>(x,())) (fun d=>d.1)
theorem yF8:zD prog vEh:=fA f161 ⟨[],[],[],false⟩ e0 zF
def vVa:=zJ 163 [.agg ka,.c .i] (.c .bool) (fun k d=>(ke (FJ k) d)) (fun x=>(x,())) (fun d=>d.1)
theorem yQg:zD prog vVa:=fA f163 ⟨[],[],[],false⟩ e0 zF
def vQ2:=zJ 281 [.agg vM,.c .i] (.c .bool) (fun k d=>(mc (U0 k) d)) (fun x=>(x,())) (fun d=>d.1)
theorem vTf:zD prog vQ2:=fA f281 ⟨[],[],[],false⟩ e0 zF
def vZ7:=zJ 280 [.agg vM,.ptr [.i]] (.c .bool) (fun k d=>(mc (UZ k) d)) (fun x=>(x,())) (fun d=>d.1)
theorem yR9:zD prog vZ7:=fA f280 ⟨[],[],[],false⟩ (e1 vTf) zF
def yOn:zE:=⟨[(1,.c (.lit (.fn 280 [1001000]))),sO 5 1,(8,.c (.dat false zG)),sI 9,sI 10],[.robox [.i],oA zG],[(5,none,zG,false)]⟩
def yBp (f:Yw)(d:yOn.den):=f d.1.2.2.1.1 d.1.2.2.2.1.1 d.1.2.2.2.2.1.1 d.2.1.1 d.2.2.1
def Zx:zV:=⟨[yOn],[(.exit 0,yTu)],Yy,fun k d=>yBp (Jr k k) d,fun b x _ K=>K (.exit 0) (zM b yTu (((),()),(x,())))⟩
def yNd:zZ:=⟨[],[(3,Zx)],[],false⟩
theorem Zz:zU prog 1000 0 23 (zQ (zS f194) 0) Zx:=lp (A:=yNd) Zx (fun d=>d.2.1) yBp Jr EF (e1 yR9) zF
def vC6:=zJ 194 [.c (.dat false zG),.fn 280 [[.i]]] (.c (.own zG)) (fun k d=>UY k d.1 d.2.1) (fun x=>(x,())) (fun d=>d.1)
theorem vCu:zD prog vC6:=fA f194 yNd (e1 yR9) (loops1 Zz)
def vS7:=zJ 251 [.c (.dat false zG),.c .i] (.c (.own zG)) (fun k d=>EE k d.1 d.2.1) (fun x=>(x,())) (fun d=>d.1)
theorem BW:zD prog vS7:=fA f251 ⟨[],[],[],false⟩ (e1 vCu) zF
def ZA:=zJ 305 [.agg vM,.ptr vM] (.c .bool) (fun k d=>(G0 (U5 k) d)) (fun x=>(x,())) (fun d=>d.1)
theorem vAb:zD prog ZA:=fA f305 ⟨[],[],[],false⟩ e0 zF
def vBs:zE:=sp [(0,.c (.dat false zG)),(1,.c (.lit (.fn 305 [1001000]))),sI 7,sI 8] [.robox wS]
def yMt (f:ZB)(d:vBs.den):=(me (f d.1.1.1 d.1.2.2.1.1 d.1.2.2.2.1.1) d.2.1)
def ZC:zV:=⟨[vBs],[(.exit 0,ySw),(.ret,ySe)],(Unit⊕Int),fun k d=>yMt (Jw k k) d,fun b x _ K=>match x with|.inl x=>K (.exit 0) (zM b ySw ((),()))|.inr x=>K .ret (zM b ySe (((x,()),()),()))⟩
def yIh:zZ:=⟨[],[(2,ZC)],[],false⟩
theorem ZD:zU prog 1000 0 19 (zQ (zS f166) 0) ZC:=lp (A:=yIh) ZC (fun d=>match d with|.inl d=>.inl ()|.inr d=>.inr d.1.1.1) yMt Jw EM (e1 vAb) zF
def vL2:=zJ 166 [.c (.dat false zG),.fn 305 [vM]] (.c .i) (fun k d=>(mc (U6 k) d)) (fun x=>(x,())) (fun d=>d.1)
theorem vPe:zD prog vL2:=fA f166 yIh (e1 vAb) (loops1 ZD)
def vFe:=zJ 148 [.c (.dat false zG),.fn 305 [vM]] (.c .bool) (fun k d=>(mc (NZ k) d)) (fun x=>(x,())) (fun d=>d.1)
theorem vEu:zD prog vFe:=fA f148 ⟨[],[],[],false⟩ (e1 vPe) zF
def ZE:=yM 304 [.agg vM,.ptr true [.map],.ptr false [.p (.dat false zG)]] (.c .bool) [[.map]] 0 (fun k d=>(Qg (U9 k) d)) (fun x=>(x.1,x.2,())) (fun d=>(d.1,d.2.1))
theorem yAr:zD prog ZE:=fX f304 ⟨[],[],[],false⟩ 3 (e1 vEu) zF
def yIs:zE:=⟨[(1,.c (.lit (.fn 304 [1001000,1001002]))),sO 5 3,(8,.c (.dat false zG)),sI 9,sI 10],[oB [.lit (.map 1001001)],.imap,.robox [.dat false zG],oA zG],[(5,none,zG,false)]⟩
def yA5:zE:=sp [(1,.c (.lit (.fn 304 [1001000,1001002]))),sO 5 3] [oB [.lit (.map 1001001)],.imap,.robox [.dat false zG],oA zG]
def vA8 (f:ZF)(d:yIs.den):=f d.1.2.2.1.1 d.1.2.2.2.1.1 d.1.2.2.2.2.1.1 d.2.2.1 d.2.2.2.1.1 d.2.2.2.2.1
def ZG:zV:=⟨[yIs],[(.exit 0,yA5)],ZH,fun k d=>vA8 (EN k k) d,fun b x _ K=>K (.exit 0) (zM b yA5 (((),(),()),((),x.1,(x.2.1,()),x.2.2,())))⟩
def vAv:zZ:=⟨[],[(3,ZG)],[],false⟩
theorem vFp:zU prog 1000 2 23 (zQ (zS f194) 0) ZG:=lp (A:=vAv) ZG (fun d=>(d.2.2.1,d.2.2.2.1.1,d.2.2.2.2.1)) vA8 EN EO (e1 yAr) zF
def ZI:=yM 194 [.c (.p (.dat false zG)),.fn 304 [(true,[.map]),(false,[.p (.dat false zG)])]] (.c (.own zG)) [[.map]] 0 (fun k d=>U8 k d.1 d.2.1 d.2.2.1) (fun x=>(x.1,x.2,())) (fun d=>(d.1,d.2.1))
theorem vSc:zD prog ZI:=fX f194 vAv 2 (e1 yAr) (loops1 vFp)
def vVq:=zJ 296 [.c (.dat false zG),.c .i] (.c (.own zG)) (fun k d=>Jx k d.1 d.2.1) (fun x=>(x,())) (fun d=>d.1)
theorem Lc:zD prog vVq:=fA f296 ⟨[],[],[],false⟩ (e2 BW vSc) zF
def vPm:=zJ 144 [.agg jO,.agg vM] (.c .bool) (fun k d=>(sJ (D8 k) d)) (fun x=>(x,())) (fun d=>d.1)
theorem ZJ:zD prog vPm:=fA f144 ⟨[],[],[],false⟩ e0 zF
def vZs:=zJ 306 [.agg vM,.ptr jO] (.c .bool) (fun k d=>(sJ (UU k) d)) (fun x=>(x,())) (fun d=>d.1)
theorem yQw:zD prog vZs:=fA f306 ⟨[],[],[],false⟩ (e1 ZJ) zF
def vB4:zE:=sp [(0,.c (.dat false zG)),(1,.c (.lit (.fn 306 [1001000]))),sI 7,sI 8] [.robox jV]
def yOi (f:ZK)(d:vB4.den):=(vI (f d.1.1.1 d.1.2.2.1.1 d.1.2.2.2.1.1) d.2.1)
def ZL:zV:=⟨[vB4],[(.exit 0,ySw),(.ret,ySe)],(Unit⊕Int),fun k d=>yOi (Jp k k) d,fun b x _ K=>match x with|.inl x=>K (.exit 0) (zM b ySw ((),()))|.inr x=>K .ret (zM b ySe (((x,()),()),()))⟩
def yKp:zZ:=⟨[],[(2,ZL)],[],false⟩
theorem ZM:zU prog 1000 0 19 (zQ (zS f166) 0) ZL:=lp (A:=yKp) ZL (fun d=>match d with|.inl d=>.inl ()|.inr d=>.inr d.1.1.1) yOi Jp ED (e1 yQw) zF
def vV7:=zJ 166 [.c (.dat false zG),.fn 306 [jO]] (.c .i) (fun k d=>(ll (UW k) d)) (fun x=>(x,())) (fun d=>d.1)
theorem vUz:zD prog vV7:=fA f166 yKp (e1 yQw) (loops1 ZM)
def ZN:=zJ 148 [.c (.dat false zG),.fn 306 [jO]] (.c .bool) (fun k d=>(ll (NV k) d)) (fun x=>(x,())) (fun d=>d.1)
theorem vK5:zD prog ZN:=fA f148 ⟨[],[],[],false⟩ (e1 vUz) zF
def yYt:zE:=sp [sP 4 0,sP 5 1,(15,.c (.dat false zG)),sI 16,sI 17] [oB [.lit .nsl,.lit .nsl,.lit .nsl],oB ZO,oA .i,oA .i,.mat]
def yRt:zE:=sp [sP 4 0,sP 5 1] [oB [.lit .nsl,.lit .nsl,.lit .nsl],oB ZO,oA .i,oA .i,.mat]
def yK9 (f:ZP)(d:yYt.den):=f d.1.2.2.1.1 d.1.2.2.2.1.1 d.1.2.2.2.2.1.1 d.2.2.2.1 d.2.2.2.2.1 d.2.2.2.2.2.1
def ZQ:zV:=⟨[yYt],[(.exit 0,yRt)],ZR,fun k d=>yK9 (Jl k k) d,fun b x _ K=>K (.exit 0) (zM b yRt (((),(),()),((),(),x.1,x.2.1,x.2.2,())))⟩
def yH6:zZ:=⟨[],[(3,ZQ)],[],false⟩
theorem vRm:zU prog 1000 0 84 (zQ (zS f298) 0) ZQ:=lp (A:=yH6) ZQ (fun d=>(d.2.2.2.1,d.2.2.2.2.1,d.2.2.2.2.2.1)) yK9 Jl Eu (e2 BU K6) zF
def vUq:=zJ 298 [.c .i,.c (.dat false zG)] (.agg [.own .i,.own .i,.mat]) (fun k d=>NQ k d.1 d.2.1) (fun x=>(x.1,x.2.1,x.2.2,())) (fun d=>(d.1,d.2.1,d.2.2.1))
theorem yYb:zD prog vUq:=fA f298 yH6 (e2 BU K6) (loops1 vRm)
def ZS:=zJ 299 [.agg vM,.ptr [.i]] (.c .bool) (fun k d=>(mc (UN k) d)) (fun x=>(x,())) (fun d=>d.1)
theorem yRw:zD prog ZS:=fA f299 ⟨[],[],[],false⟩ e0 zF
def yN2:zE:=sp [(0,.c (.dat false zG)),(1,.c (.lit (.fn 299 [1001000]))),sI 7,sI 8] [.robox [.i]]
def yQl (f:YL)(d:yN2.den):=f d.1.1.1 d.1.2.2.1.1 d.1.2.2.2.1.1 d.2.1.1
def ZU:zV:=⟨[yN2],[(.exit 0,ySw),(.ret,ySe)],(Unit⊕Int),fun k d=>yQl (Jm k k) d,fun b x _ K=>match x with|.inl x=>K (.exit 0) (zM b ySw ((),()))|.inr x=>K .ret (zM b ySe (((x,()),()),()))⟩
def yN9:zZ:=⟨[],[(2,ZU)],[],false⟩
theorem vO3:zU prog 1000 0 19 (zQ (zS f166) 0) ZU:=lp (A:=yN9) ZU (fun d=>match d with|.inl d=>.inl ()|.inr d=>.inr d.1.1.1) yQl Jm Ev (e1 yRw) zF
def vX1:=zJ 166 [.c (.dat false zG),.fn 299 [[.i]]] (.c .i) (fun k d=>UO k d.1 d.2.1) (fun x=>(x,())) (fun d=>d.1)
theorem vP3:zD prog vX1:=fA f166 yN9 (e1 yRw) (loops1 vO3)
def vP6:=zJ 148 [.c (.dat false zG),.fn 299 [[.i]]] (.c .bool) (fun k d=>NR k d.1 d.2.1) (fun x=>(x,())) (fun d=>d.1)
theorem yL6:zD prog vP6:=fA f148 ⟨[],[],[],false⟩ (e1 vP3) zF
def yLv:zE:=sp [sI 5,(12,.c (.dat false .i)),sI 13,sI 14] []
def yLu:zE:=sp [sI 5] []
def yP0 (f:Int→AC→Int→Int→Option Int)(d:yLv.den):=f d.1.1.1 d.1.2.1.1 d.1.2.2.1.1 d.1.2.2.2.1.1
def ZV:zV:=⟨[yLv],[(.exit 0,yLu)],Int,fun k d=>yP0 (Eo k k) d,fun b x _ K=>K (.exit 0) (zM b yLu (((x,()),()),()))⟩
def yJg:zZ:=⟨[],[(3,ZV)],[],false⟩
theorem vF3:zU prog 1000 0 23 (zQ (zS f307) 0) ZV:=lp (A:=yJg) ZV (fun d=>d.1.1.1) yP0 Eo Ep e0 zF
def vT9:=zJ 307 [.agg jO,.c .i] (.c .i) (fun k d=>(ll (NN k) d)) (fun x=>(x,())) (fun d=>d.1)
theorem vBk:zD prog vT9:=fA f307 yJg e0 (loops1 vF3)
def vN0:=zJ 308 [.c .i,.c .i] (.c .bool) (fun k d=>Ey k d.1 d.2.1) (fun x=>(x,())) (fun d=>d.1)
theorem ZW:zD prog vN0:=fA f308 ⟨[],[],[],false⟩ e0 zF
def ZX:=zJ 309 [.agg vM,.ptr [.i],.ptr nT,.ptr Qh,.ptr [.i],.ptr jO] (.c .bool) (fun k d=>(vSa (UQ k) d)) (fun x=>(x,())) (fun d=>d.1)
theorem yVc:zD prog ZX:=fA f309 ⟨[],[],[],false⟩ (e2 Qc ZW) zF
def yCl:zE:=sp [(0,.c (.dat false zG)),(1,.c (.lit (.fn 309 [1001000,1001001,1001002,1001003,1001004]))),sI 7,sI 8] [.robox [.i],.robox [.i,.i,.i],.robox ZY,.robox [.i],.robox jV]
def yTz (f:ZZ)(d:yCl.den):=(vI (f d.1.1.1 d.1.2.2.1.1 d.1.2.2.2.1.1 d.2.1.1 d.2.2.1.1 d.2.2.1.2.1 d.2.2.1.2.2.1 d.2.2.2.1.1 d.2.2.2.1.2.1 d.2.2.2.1.2.2.1 d.2.2.2.2.1.1) d.2.2.2.2.2.1)
def Z0:zV:=⟨[yCl],[(.exit 0,ySw),(.ret,ySe)],(Unit⊕Int),fun k d=>yTz (Jo k k) d,fun b x _ K=>match x with|.inl x=>K (.exit 0) (zM b ySw ((),()))|.inr x=>K .ret (zM b ySe (((x,()),()),()))⟩
def yJt:zZ:=⟨[],[(2,Z0)],[],false⟩
theorem vQc:zU prog 1000 0 19 (zQ (zS f166) 0) Z0:=lp (A:=yJt) Z0 (fun d=>match d with|.inl d=>.inl ()|.inr d=>.inr d.1.1.1) yTz Jo Ez (e1 yVc) zF
def Z1:=zJ 166 [.c (.dat false zG),.fn 309 [[.i],nT,Qh,[.i],jO]] (.c .i) (fun k d=>(Z2 (UR k) d)) (fun x=>(x,())) (fun d=>d.1)
theorem vC5:zD prog Z1:=fA f166 yJt (e1 yVc) (loops1 vQc)
def Z3:=zJ 148 [.c (.dat false zG),.fn 309 [[.i],nT,Qh,[.i],jO]] (.c .bool) (fun k d=>(Z2 (NS k) d)) (fun x=>(x,())) (fun d=>d.1)
theorem yEy:zD prog Z3:=fA f148 ⟨[],[],[],false⟩ (e1 vC5) zF
def qZz:zE:=sp [(3,.c (.dat false zG)),sP 4 0,sP 5 1,sP 6 2,sP 9 3,sP 10 4,sI 11,(39,.c (.dat false .i)),sI 40,sI 41] [oB ZY,oB jV,oB [.i],oB [.i,.i,.i],oB [.i]]
def yFx:zE:=sp [(3,.c (.dat false zG)),sP 4 0,sP 5 1,sP 6 2,sP 9 3,sP 10 4,sI 11] [oB ZY,oB jV,oB [.i],oB [.i,.i,.i],oB [.i]]
def yJb (f:Z4)(d:qZz.den):=(vI (f d.1.1.1 d.1.2.2.2.2.2.2.1.1 d.1.2.2.2.2.2.2.2.1.1 d.1.2.2.2.2.2.2.2.2.1.1 d.1.2.2.2.2.2.2.2.2.2.1.1 d.2.1.1 d.2.1.2.1 d.2.1.2.2.1) d.2.2.1) d.2.2.2.1.1 d.2.2.2.2.1.1 d.2.2.2.2.1.2.1 d.2.2.2.2.1.2.2.1 d.2.2.2.2.2.1.1
def Z5:zV:=⟨[qZz],[(.exit 0,yFx)],Z6,fun k d=>yJb (AY k k) d,fun b x _ K=>K (.exit 0) (zM b yFx (((x.1,()),(),(),(),(),(),(x.2.1,()),()),((x.2.2.1,x.2.2.2.1,x.2.2.2.2.1,()),(Z7 x ()),(x.2.2.2.2.2.2.2.2.2.1,()),(x.2.2.2.2.2.2.2.2.2.2.1,x.2.2.2.2.2.2.2.2.2.2.2.1,x.2.2.2.2.2.2.2.2.2.2.2.2.1,()),(x.2.2.2.2.2.2.2.2.2.2.2.2.2,()),())))⟩
def yG2:zZ:=⟨[],[(7,Z5)],[],false⟩
theorem vI3:zU prog 1000 0 59 (zQ (zS f300) 0) Z5:=lp (A:=yG2) Z5 (fun d=>(d.1.1.1,d.1.2.2.2.2.2.2.1.1,d.2.1.1,d.2.1.2.1,d.2.1.2.2.1,(vX d.2.2.1 (d.2.2.2.1.1,d.2.2.2.2.1.1,d.2.2.2.2.1.2.1,d.2.2.2.2.1.2.2.1,d.2.2.2.2.2.1.1)))) yJb AY EA (e3 vBk ZW yEy) zF
def vNe:=zJ 300 [.agg Qh,.agg jO,.c .i,.c (.dat false zG)] (.c .bool) (fun k d=>(Qg (NU k) d)) (fun x=>(x,())) (fun d=>d.1)
theorem yBn:zD prog vNe:=fA f300 yG2 (e3 vBk ZW yEy) (loops1 vI3)
def yS4:zE:=⟨[(1,.c (.dat false zG)),sP 2 0,sP 5 1,sO 6 5,sI 16,sI 17],[oB jV,oB ZO,oA .i,oA .i,.mat,oA .i],[(6,none,.i,false)]⟩
def yCu:zE:=sp [sO 6 0] [oA .i]
def yWc (f:Z8)(d:yS4.den):=(vI (f d.1.1.1 d.1.2.2.2.2.1.1 d.1.2.2.2.2.2.1.1) d.2.1) d.2.2.2.1 d.2.2.2.2.1 d.2.2.2.2.2.1 d.2.2.2.2.2.2.1
def Z9:zV:=⟨[yS4],[(.exit 0,yCu)],AC,fun k d=>yWc (EB k k) d,fun b x _ K=>K (.exit 0) (zM b yCu (((),()),(x,())))⟩
def yCj:zZ:=⟨[],[(4,Z9)],[],false⟩
theorem vI5:zU prog 1000 0 37 (zQ (zS f277) 0) Z9:=lp (A:=yCj) Z9 (fun d=>d.2.1) yWc EB EC (e3 yYb yL6 yBn) zF
def vI2:=zJ 277 [.agg jO,.c (.dat false zG)] (.c (.own .i)) (fun k d=>(ll (AZ k) d)) (fun x=>(x,())) (fun d=>d.1)
theorem Ld:zD prog vI2:=fA f277 yCj (e3 yYb yL6 yBn) (loops1 vI5)
def vC9:=zJ 297 [.agg jO,.c (.dat false zG)] (.c .bool) (fun k d=>(ll (A0 k) d)) (fun x=>(x,())) (fun d=>d.1)
theorem Le:zD prog vC9:=fA f297 ⟨[],[],[],false⟩ (e2 vK5 Ld) zF
def vUh:=zJ 282 [.agg vM,.ptr jO] (.c .bool) (fun k d=>(sJ (UA k) d)) (fun x=>(x,())) (fun d=>d.1)
theorem vB5:zD prog vUh:=fA f282 ⟨[],[],[],false⟩ (e1 ZJ) zF
def yI2:zE:=sp [(0,.c (.dat false zG)),(1,.c (.lit (.fn 282 [1001000]))),sI 7,sI 8] [.robox jV]
def ySr (f:ZK)(d:yI2.den):=(vI (f d.1.1.1 d.1.2.2.1.1 d.1.2.2.2.1.1) d.2.1)
def qQv:zV:=⟨[yI2],[(.exit 0,ySw),(.ret,ySe)],(Unit⊕Int),fun k d=>ySr (I7 k k) d,fun b x _ K=>match x with|.inl x=>K (.exit 0) (zM b ySw ((),()))|.inr x=>K .ret (zM b ySe (((x,()),()),()))⟩
def yPj:zZ:=⟨[],[(2,qQv)],[],false⟩
theorem vI8:zU prog 1000 0 19 (zQ (zS f166) 0) qQv:=lp (A:=yPj) qQv (fun d=>match d with|.inl d=>.inl ()|.inr d=>.inr d.1.1.1) ySr I7 D9 (e1 vB5) zF
def aaa:=zJ 166 [.c (.dat false zG),.fn 282 [jO]] (.c .i) (fun k d=>(ll (UB k) d)) (fun x=>(x,())) (fun d=>d.1)
theorem vM0:zD prog aaa:=fA f166 yPj (e1 vB5) (loops1 vI8)
def vW4:=zJ 148 [.c (.dat false zG),.fn 282 [jO]] (.c .bool) (fun k d=>(ll (Nx k) d)) (fun x=>(x,())) (fun d=>d.1)
theorem ySn:zD prog vW4:=fA f148 ⟨[],[],[],false⟩ (e1 vM0) zF
def vXs:=zJ 131 [.agg nT] (.c .bool) (fun k d=>Un k d.1 d.2.1 d.2.2.1) (fun x=>(x,())) (fun d=>d.1)
theorem yGa:zD prog vXs:=fA f131 ⟨[],[],[],false⟩ (e1 yEc) zF
def yKv:zE:=sp [(0,.c (.dat false qW)),(1,.c (.lit (.fn 131 []))),sI 7,sI 8] []
def yTc (f:qXn)(d:yKv.den):=f d.1.1.1 d.1.2.2.1.1 d.1.2.2.2.1.1
def qKk:zV:=⟨[yKv],[(.exit 0,ySw),(.ret,ySe)],(Unit⊕Int),fun k d=>yTc (IN k k) d,fun b x _ K=>match x with|.inl x=>K (.exit 0) (zM b ySw ((),()))|.inr x=>K .ret (zM b ySe (((x,()),()),()))⟩
def yLa:zZ:=⟨[],[(2,qKk)],[],false⟩
theorem vUx:zU prog 1000 0 19 (zQ (zS f187) 0) qKk:=lp (A:=yLa) qKk (fun d=>match d with|.inl d=>.inl ()|.inr d=>.inr d.1.1.1) yTc IN DP (e1 yGa) zF
def vVb:=zJ 187 [.c (.dat false qW),.c (.fn 131)] (.c .i) (fun k d=>Uo k d.1) (fun x=>(x,())) (fun d=>d.1)
theorem vC0:zD prog vVb:=fA f187 yLa (e1 yGa) (loops1 vUx)
def vQt:=zJ 133 [.c (.dat false qW),.c (.fn 131)] (.c .bool) (fun k d=>Nm k d.1) (fun x=>(x,())) (fun d=>d.1)
theorem vQs:zD prog vQt:=fA f133 ⟨[],[],[],false⟩ (e1 vC0) zF
def aab:=zJ 135 [.c .i] (.c .bool) (fun k d=>qOp k d.1) (fun x=>(x,())) (fun d=>d.1)
theorem vTm:zD prog aab:=fA f135 ⟨[],[],[],false⟩ e0 zF
def vGw:=zJ 188 [.c .i,.ptr [.fn 135]] (.c .bool) (fun k d=>Uq k d.1) (fun x=>(x,())) (fun d=>d.1)
theorem yIq:zD prog vGw:=fA f188 ⟨[],[],[],false⟩ (e1 vTm) zF
def yAh:zE:=sp [(0,.c (.dat false .i)),(1,.c (.lit (.fn 188 [1001000]))),sI 7,sI 8] [.robox [.lit (.fn 135 [])]]
def yNh (f:qWg)(d:yAh.den):=f d.1.1.1 d.1.2.2.1.1 d.1.2.2.2.1.1
def qUn:zV:=⟨[yAh],[(.exit 0,ySw),(.ret,ySe)],(Unit⊕Int),fun k d=>yNh (IP k k) d,fun b x _ K=>match x with|.inl x=>K (.exit 0) (zM b ySw ((),()))|.inr x=>K .ret (zM b ySe (((x,()),()),()))⟩
def yP7:zZ:=⟨[],[(2,qUn)],[],false⟩
theorem vS5:zU prog 1000 0 19 (zQ (zS f189) 0) qUn:=lp (A:=yP7) qUn (fun d=>match d with|.inl d=>.inl ()|.inr d=>.inr d.1.1.1) yNh IP DQ (e1 yIq) zF
def vUp:=zJ 189 [.c (.dat false .i),.fn 188 [[.fn 135]]] (.c .i) (fun k d=>Ur k d.1) (fun x=>(x,())) (fun d=>d.1)
theorem vM7:zD prog vUp:=fA f189 yP7 (e1 yIq) (loops1 vS5)
def vE1:=zJ 139 [.c (.dat false .i),.fn 188 [[.fn 135]]] (.c .bool) (fun k d=>Nn k d.1) (fun x=>(x,())) (fun d=>d.1)
theorem vQ3:zD prog vE1:=fA f139 ⟨[],[],[],false⟩ (e1 vM7) zF
def vKl:=zJ 136 [.c (.dat false .i),.c .i,.c (.fn 135)] (.c .bool) (fun k d=>IS k d.1 d.2.1) (fun x=>(x,())) (fun d=>d.1)
theorem qPj:zD prog vKl:=fA f136 ⟨[],[],[],false⟩ (e1 vQ3) zF
def yN5:zE:=sp [sI 1,(2,.c (.lit (.fn 135 []))),(13,.c (.dat false (.sl .i))),sI 14,sI 15] []
def yH8:zE:=sp [(6,.c .bool)] []
def yRb (f:qUj)(d:yN5.den):=f d.1.1.1 d.1.2.2.1.1 d.1.2.2.2.1.1 d.1.2.2.2.2.1.1
def qO4:zV:=⟨[yN5],[(.exit 0,ySw),(.ret,yH8)],(Unit⊕Bool),fun k d=>yRb (IT k k) d,fun b x _ K=>match x with|.inl x=>K (.exit 0) (zM b ySw ((),()))|.inr x=>K .ret (zM b yH8 (((x,()),()),()))⟩
def yWu:zZ:=⟨[],[(4,qO4)],[],false⟩
theorem aac:zU prog 1000 0 25 (zQ (zS f134) 0) qO4:=lp (A:=yWu) qO4 (fun d=>match d with|.inl d=>.inl ()|.inr d=>.inr d.1.1.1) yRb IT DS (e1 qPj) zF
def vU5:=zJ 134 [.c (.dat false (.sl .i)),.c .i,.c (.fn 135)] (.c .bool) (fun k d=>Nq k d.1 d.2.1) (fun x=>(x,())) (fun d=>d.1)
theorem vKo:zD prog vU5:=fA f134 yWu (e1 qPj) (loops1 aac)
def vRu:=zJ 137 [.c .i] (.c .bool) (fun k d=>Nk k d.1) (fun x=>(x,())) (fun d=>d.1)
theorem vQr:zD prog vRu:=fA f137 ⟨[],[],[],false⟩ e0 zF
def vEg:=zJ 188 [.c .i,.ptr [.fn 137]] (.c .bool) (fun k d=>Us k d.1) (fun x=>(x,())) (fun d=>d.1)
theorem yHp:zD prog vEg:=fA f188 ⟨[],[],[],false⟩ (e1 vQr) zF
def yCx:zE:=sp [(0,.c (.dat false .i)),(1,.c (.lit (.fn 188 [1001000]))),sI 7,sI 8] [.robox [.lit (.fn 137 [])]]
def ySl (f:qWg)(d:yCx.den):=f d.1.1.1 d.1.2.2.1.1 d.1.2.2.2.1.1
def qNi:zV:=⟨[yCx],[(.exit 0,ySw),(.ret,ySe)],(Unit⊕Int),fun k d=>ySl (IQ k k) d,fun b x _ K=>match x with|.inl x=>K (.exit 0) (zM b ySw ((),()))|.inr x=>K .ret (zM b ySe (((x,()),()),()))⟩
def yXm:zZ:=⟨[],[(2,qNi)],[],false⟩
theorem vSd:zU prog 1000 0 19 (zQ (zS f189) 0) qNi:=lp (A:=yXm) qNi (fun d=>match d with|.inl d=>.inl ()|.inr d=>.inr d.1.1.1) ySl IQ DR (e1 yHp) zF
def vGj:=zJ 189 [.c (.dat false .i),.fn 188 [[.fn 137]]] (.c .i) (fun k d=>Ut k d.1) (fun x=>(x,())) (fun d=>d.1)
theorem aad:zD prog vGj:=fA f189 yXm (e1 yHp) (loops1 vSd)
def vFa:=zJ 139 [.c (.dat false .i),.fn 188 [[.fn 137]]] (.c .bool) (fun k d=>No k d.1) (fun x=>(x,())) (fun d=>d.1)
theorem vGz:zD prog vFa:=fA f139 ⟨[],[],[],false⟩ (e1 aad) zF
def aae:=zJ 136 [.c (.dat false .i),.c .i,.c (.fn 137)] (.c .bool) (fun k d=>Np k d.1 d.2.1) (fun x=>(x,())) (fun d=>d.1)
theorem yW4:zD prog aae:=fA f136 ⟨[],[],[],false⟩ (e1 vGz) zF
def yGs:zE:=sp [sI 1,(2,.c (.lit (.fn 137 []))),(13,.c (.dat false (.sl .i))),sI 14,sI 15] []
def yX5 (f:qUj)(d:yGs.den):=f d.1.1.1 d.1.2.2.1.1 d.1.2.2.2.1.1 d.1.2.2.2.2.1.1
def qYa:zV:=⟨[yGs],[(.exit 0,ySw),(.ret,yH8)],(Unit⊕Bool),fun k d=>yX5 (IU k k) d,fun b x _ K=>match x with|.inl x=>K (.exit 0) (zM b ySw ((),()))|.inr x=>K .ret (zM b yH8 (((x,()),()),()))⟩
def yOw:zZ:=⟨[],[(4,qYa)],[],false⟩
theorem vR3:zU prog 1000 0 25 (zQ (zS f134) 0) qYa:=lp (A:=yOw) qYa (fun d=>match d with|.inl d=>.inl ()|.inr d=>.inr d.1.1.1) yX5 IU DT (e1 yW4) zF
def vXa:=zJ 134 [.c (.dat false (.sl .i)),.c .i,.c (.fn 137)] (.c .bool) (fun k d=>Nr k d.1 d.2.1) (fun x=>(x,())) (fun d=>d.1)
theorem vNh:zD prog vXa:=fA f134 yOw (e1 yW4) (loops1 vR3)
def yOe:zE:=sp [(0,.c (.dat false (.sl .i))),sI 3,(7,.c (.dat false (.sl .i))),sI 8,sI 9,(14,.c (.dat false .i)),sI 15,sI 16] []
def ySu:zE:=sp [(0,.c (.dat false (.sl .i))),(7,.c (.dat false (.sl .i))),sI 8,sI 9] []
def yFg (f:qR7)(d:yOe.den):=f d.1.1.1 d.1.2.1.1 d.1.2.2.1.1 d.1.2.2.2.1.1 d.1.2.2.2.2.1.1 d.1.2.2.2.2.2.1.1 d.1.2.2.2.2.2.2.1.1 d.1.2.2.2.2.2.2.2.1.1
def qMq:zV:=⟨[yOe],[(.exit 2,ySu),(.ret,yT4)],qOq,fun k d=>yFg (DU k k) d,fun b x _ K=>match x with|.inl x=>K (.exit 2) (zM b ySu (((x.1,()),(x.2.1,()),(x.2.2.1,()),(x.2.2.2,()),()),()))|.inr x=>K .ret (zM b yT4 (((x,()),()),()))⟩
def vAu (f:qPu)(d:ySu.den):=f d.1.1.1 d.1.2.1.1 d.1.2.2.1.1 d.1.2.2.2.1.1
def qIa:zV:=⟨[ySu],[(.exit 0,ySw),(.ret,yT4)],(Unit⊕Bool),fun k d=>vAu (IV k k) d,fun b x _ K=>match x with|.inl x=>K (.exit 0) (zM b ySw ((),()))|.inr x=>K .ret (zM b yT4 (((x,()),()),()))⟩
def qTo:zZ:=⟨[],[(5,qMq),(2,qIa)],[],false⟩
theorem vNo:zU prog 1000 0 33 (zQ (zQ (zS f138) 0) 0) qMq:=lp (A:=qTo) qMq (fun d=>match d with|.inl d=>.inl (d.1.1.1,d.1.2.1.1,d.1.2.2.1.1,d.1.2.2.2.1.1)|.inr d=>.inr d.1.1.1) yFg DU DV e0 zF
theorem vX5:zU prog 1000 0 33 (zQ (zS f138) 0) qIa:=lp (A:=qTo) qIa (fun d=>match d with|.inl d=>.inl ()|.inr d=>.inr d.1.1.1) vAu IV DW e0 (loops1 vNo)
def vPz:=zJ 138 [.c (.dat false (.sl .i))] (.c .bool) (fun k d=>Ns k d.1) (fun x=>(x,())) (fun d=>d.1)
theorem vD8:zD prog vPz:=fA f138 qTo e0 (loops1 vX5)
def vN7:=zJ 85 [.agg jO] (.c .bool) (fun k d=>(vI (AP k) d)) (fun x=>(x,())) (fun d=>d.1)
theorem Qi:zD prog vN7:=fA f85 ⟨[],[],[],false⟩ (e5 vQs vKo qPj vNh vD8) zF
def yHv:zE:=sp [sP 2 0,sP 4 1,sP 7 2,(24,.c (.dat false zG)),sI 25,sI 26] [oB wB,oB nU,oB sK,oA qW,.mat,oA .i,.mat]
def yYp:zE:=sp [sP 2 0,sP 4 1,sP 7 2] [oB wB,oB nU,oB sK,oA qW,.mat,oA .i,.mat]
def yC2 (f:qOa)(d:yHv.den):=(vI (f d.1.2.2.2.1.1 d.1.2.2.2.2.1.1 d.1.2.2.2.2.2.1.1) d.2.1) d.2.2.2.2.1 d.2.2.2.2.2.1 d.2.2.2.2.2.2.1 d.2.2.2.2.2.2.2.1
def qNf:zV:=⟨[yHv],[(.exit 0,yYp)],qKv,fun k d=>yC2 (Ec k k) d,fun b x _ K=>K (.exit 0) (zM b yYp (((),(),(),()),((vX x ()),(),(),x.2.2.2.2.1,x.2.2.2.2.2.1,x.2.2.2.2.2.2.1,x.2.2.2.2.2.2.2,())))⟩
def yOu:zZ:=⟨[],[(6,qNf)],[],false⟩
theorem aaf:zU prog 1000 0 104 (zQ (zS f252) 0) qNf:=lp (A:=yOu) qNf (fun d=>(vX d.2.1 (d.2.2.2.2.1,d.2.2.2.2.2.1,d.2.2.2.2.2.2.1,d.2.2.2.2.2.2.2.1))) yC2 Ec Ed (e4 ySn oY Qc Qi) zF
def vL9:=zJ 252 [.agg kR,.c (.dat false zG)] (.tup [(true,mY),(false,vD)]) (fun k d=>(ll (pL k) d)) (fun x=>(jE x ())) (fun d=>(yZ d))
theorem BX:zD prog vL9:=fA f252 yOu (e4 ySn oY Qc Qi) (loops1 aaf)
def yJ5:zE:=sp [sP 3 0,sP 6 1,sP 7 2,sO 15 3,sI 16,sI 17] [oB wB,oB wS,oB nU,oA zG]
def yHs:zE:=sp [sP 3 0,sP 6 1,sP 7 2] [oB wB,oB wS,oB nU]
def yAe:zE:=sp [sP 6 0,sP 7 1,(8,.c .bool)] [oB wS,oB wB]
def yCh (f:qRz)(d:yJ5.den):=(me (vI (f d.1.2.2.2.2.1.1 d.1.2.2.2.2.2.1.1) d.2.1) d.2.2.1) d.2.2.2.2.1
def qNu:zV:=⟨[yJ5],[(.exit 0,yHs),(.ret,yAe)],qW7,fun k d=>yCh (JL k k) d,fun b x _ K=>match x with|.inl x=>K (.exit 0) (zM b yHs (((),(),(),()),((vX x ()),(qX4 x ()),(),())))|.inr x=>K .ret (zM b yAe (((),(),(x.1,()),()),((qYs x ()),(vYz x ()),())))⟩
def yC7:zZ:=⟨[],[(2,qNu)],[],false⟩
theorem vG5:zU prog 1000 0 40 (zQ (zS f275) 0) qNu:=lp (A:=yC7) qNu (fun d=>match d with|.inl d=>.inl (vX d.2.1 (wM d.2.2.1))|.inr d=>.inr (d.1.2.2.1.1,(j6 d.2.1 (fL d.2.2.1)))) yCh JL Ff (e3 Lc Le BX) zF
def vVr:=zJ 275 [.agg kR,.c (.dat true zG),.c .i] (.tup [(true,qa),(true,mY),(false,[.bool])]) (fun k d=>(ke (Oi k) d)) (fun x=>(G5 x ())) (fun d=>(G6 d))
theorem yP8:zD prog vVr:=fA f275 yC7 (e3 Lc Le BX) (loops1 vG5)
def yAi:zE:=⟨[sI 2,sP 6 0,(7,.c (.dat true zG)),sO 8 1],[oB wB,oA zG],[(8,none,zG,false)]⟩
def ySi:zE:=sp [sP 6 0,(7,.c (.dat true zG)),sO 8 1] [oB wB,oA zG]
def yNy (f:qOj)(d:yAi.den):=(vI (f d.1.1.1 d.1.2.2.1.1) d.2.1) d.2.2.1
def qWj:zV:=⟨[yAi],[(.ret,ySi)],qV6,fun k d=>yNy (JM k k) d,fun b x _ K=>K .ret (zM b ySi (((),(x.1,()),(),()),((iy x ()),x.2.2.2.2.2,())))⟩
def yCq:zZ:=⟨[],[(2,qWj)],[],false⟩
theorem vU1:zU prog 1000 0 40 (zQ (zS f247) 0) qWj:=lp (A:=yCq) qWj (fun d=>(d.1.2.1.1,(vX d.2.1 d.2.2.1))) yNy JM Fh (e2 yP8 qc) zF
def vFz:=zJ 247 [.agg kR,.c (.dat true zG),.c .i] (.tup [(true,mY),(false,[.fro zG]),(false,[.own zG])]) (fun k d=>(ke (Oj k) d)) (fun x=>(nV x ())) (fun d=>(mZ d))
theorem yBk:zD prog vFz:=fA f247 yCq (e2 yP8 qc) (loops1 vU1)
def yCi:zE:=sp [sP 3 0,sP 6 1,sO 8 2,sP 10 3,sO 18 2,sI 19,sI 20,sO 24 2,sI 25,sI 26] [oB wB,oB Qj,oA zG,oB wS]
def vAl:zE:=sp [sP 3 0,sP 6 1,sO 8 2,sO 18 2,sI 19,sI 20] [oB wB,oB Qj,oA zG]
def yDq:zE:=sp [sP 6 0,(7,.c .bool)] [oB yNz]
def yBc (f:qXs)(d:yCi.den):=(me ((G0 (vI (f d.1.2.2.2.2.2.1.1 d.1.2.2.2.2.2.2.1.1 d.1.2.2.2.2.2.2.2.2.1.1 d.1.2.2.2.2.2.2.2.2.2.1.1) d.2.1) d.2.2.1) d.2.2.2.1) d.2.2.2.2.1)
def qIv:zV:=⟨[yCi],[(.exit 2,vAl),(.ret,yDq)],qUw,fun k d=>yBc (JN k k) d,fun b x _ K=>match x with|.inl x=>K (.exit 2) (zM b vAl (((),(),(),(),(x.1,()),(x.2.1,()),()),((P2 x ()),(vUr x ()),x.2.2.2.2.2.2.2.2.2.2.2.2.2.2.2.2.2.2.2.2,())))|.inr x=>K .ret (zM b yDq (((),(x.1,()),()),((qJd x ()),())))⟩
def vAg:zE:=sp [sP 6 0] [oB Qj]
def yZf (f:qVh)(d:vAl.den):=(G0 (vI (f d.1.2.2.2.2.1.1 d.1.2.2.2.2.2.1.1) d.2.1) d.2.2.1) d.2.2.2.1
def qRv:zV:=⟨[vAl],[(.exit 0,vAg),(.ret,yDq)],qO9,fun k d=>yZf (JP k k) d,fun b x _ K=>match x with|.inl x=>K (.exit 0) (zM b vAg (((),()),((qQi x ()),())))|.inr x=>K .ret (zM b yDq (((),(x.1,()),()),((qJd x ()),())))⟩
def qWk:zZ:=⟨[],[(6,qIv),(3,qRv)],[],false⟩
theorem aag:zU prog 1000 0 74 (zQ (zQ (zS f276) 0) 0) qIv:=lp (A:=qWk) qIv (fun d=>match d with|.inl d=>.inl (d.1.2.2.2.2.1.1,d.1.2.2.2.2.2.1.1,(vX d.2.1 (qI6 d.2.2.1 d.2.2.2.1)))|.inr d=>.inr (d.1.2.1.1,(eX d.2.1))) yBc JN Fk (e3 Lc Le BX) zF
theorem vZi:zU prog 1000 0 74 (zQ (zS f276) 0) qRv:=lp (A:=qWk) qRv (fun d=>match d with|.inl d=>.inl (yTq d.2.1)|.inr d=>.inr (d.1.2.1.1,(eX d.2.1))) yZf JP Fl (e3 Lc Le BX) (loops1 aag)
def aah:=zJ 276 [.agg kR,.c (.dat true zG),.c .i] (.tup [(true,[.i,.i,.i,.i,.i,.i,.i,.i,.i,.i,.i,.i,.i,.i,.fro qW,.fro (.sl .i),.fro .i,.fro (.sl .i)]),(false,[.bool])]) (fun k d=>(ke (Om k) d)) (fun x=>(yj x ())) (fun d=>(Qk d))
theorem qT5:zD prog aah:=fA f276 qWk (e3 Lc Le BX) (loops1 vZi)
def yCc:zE:=⟨[sI 2,sP 6 0,(7,.c (.dat true zG)),sO 8 1,sO 33 2,sI 34,sI 35],[oB wB,oA zG,oA zG],[(8,none,zG,false)]⟩
def yYv:zE:=sp [sI 2,sP 6 0,(7,.c (.dat true zG)),sO 8 1] [oB wB,oA zG]
def yAf (f:qOt)(d:yCc.den):=(vI (f d.1.1.1 d.1.2.2.1.1 d.1.2.2.2.2.2.1.1 d.1.2.2.2.2.2.2.1.1) d.2.1) d.2.2.1 d.2.2.2.1
def qXj:zV:=⟨[yCc],[(.exit 2,yYv)],qIk,fun k d=>yAf (xo k k) d,fun b x _ K=>K (.exit 2) (zM b yYv (((x.1,()),(),(x.2.1,()),(),()),((P2 x ()),x.2.2.2.2.2.2,())))⟩
def yFw (f:qOj)(d:yAi.den):=(vI (f d.1.1.1 d.1.2.2.1.1) d.2.1) d.2.2.1
def qJw:zV:=⟨[yAi],[(.ret,ySi)],qV6,fun k d=>yFw (JQ k k) d,fun b x _ K=>K .ret (zM b ySi (((),(x.1,()),(),()),((iy x ()),x.2.2.2.2.2,())))⟩
def qXu:zZ:=⟨[],[(7,qXj),(2,qJw)],[],false⟩
theorem vSp:zU prog 1000 0 52 (zQ (zQ (zS f248) 0) 0) qXj:=lp (A:=qXu) qXj (fun d=>(d.1.1.1,d.1.2.2.1.1,(vX d.2.1 d.2.2.1))) yAf xo xp (e2 qT5 qc) zF
theorem vO2:zU prog 1000 0 52 (zQ (zS f248) 0) qJw:=lp (A:=qXu) qJw (fun d=>(d.1.2.1.1,(vX d.2.1 d.2.2.1))) yFw JQ Fm (e2 qT5 qc) (loops1 vSp)
def vWv:=zJ 248 [.agg kR,.c (.dat true zG),.c .i] (.tup [(true,mY),(false,[.fro zG]),(false,[.own zG])]) (fun k d=>(ke (On k) d)) (fun x=>(nV x ())) (fun d=>(mZ d))
theorem yR1:zD prog vWv:=fA f248 qXu (e2 qT5 qc) (loops1 vO2)
def yFt (f:qOj)(d:yAi.den):=(vI (f d.1.1.1 d.1.2.2.1.1) d.2.1) d.2.2.1
def qZo:zV:=⟨[yAi],[(.ret,ySi)],qV6,fun k d=>yFt (JX k k) d,fun b x _ K=>K .ret (zM b ySi (((),(x.1,()),(),()),((iy x ()),x.2.2.2.2.2,())))⟩
def yBu:zZ:=⟨[],[(2,qZo)],[],false⟩
theorem vPi:zU prog 1000 0 40 (zQ (zS f213) 0) qZo:=lp (A:=yBu) qZo (fun d=>(d.1.2.1.1,(vX d.2.1 d.2.2.1))) yFt JX Ox (e2 yBk yR1) zF
def vEf:=zJ 213 [.agg kR,.c (.dat true zG),.c .i] (.tup [(true,mY),(false,[.fro zG]),(false,[.own zG])]) (fun k d=>(ke (JY k) d)) (fun x=>(nV x ())) (fun d=>(mZ d))
theorem vDp:zD prog vEf:=fA f213 yBu (e2 yBk yR1) (loops1 vPi)
def vKf:=wv 278 false .i (.own .i) VE
theorem vIk:zD prog vKf:=fC f278 ⟨[],[],[],false⟩ e0 zF
def vRx:=yM 279 [.agg vM,.ptr true [.own .i]] (.c .bool) [[.own .i]] 0 (fun k d=>(mc (VG k) d)) (fun x=>(x.1,x.2,())) (fun d=>(d.1,d.2.1))
theorem yFk:zD prog vRx:=fX f279 ⟨[],[],[],false⟩ 2 e0 zF
def yRk:zE:=⟨[(1,.c (.lit (.fn 279 [1001000]))),sO 5 2,(8,.c (.dat false zG)),sI 9,sI 10],[oB [.lit (.osl 1001001 none)],oA .i,oA zG],[(5,none,zG,false)]⟩
def vAa:zE:=sp [(1,.c (.lit (.fn 279 [1001000]))),sO 5 2] [oB [.lit (.osl 1001001 none)],oA .i,oA zG]
def yF2 (f:qXg)(d:yRk.den):=f d.1.2.2.1.1 d.1.2.2.2.1.1 d.1.2.2.2.2.1.1 d.2.2.1 d.2.2.2.1
def qWx:zV:=⟨[yRk],[(.exit 0,vAa)],qTn,fun k d=>yF2 (Fq k k) d,fun b x _ K=>K (.exit 0) (zM b vAa (((),(),()),((),x.1,x.2,())))⟩
def yT5:zZ:=⟨[],[(3,qWx)],[],false⟩
theorem vT6:zU prog 1000 2 23 (zQ (zS f194) 0) qWx:=lp (A:=yT5) qWx (fun d=>(d.2.2.1,d.2.2.2.1)) yF2 Fq Fs (e1 yFk) zF
def vK4:=yM 194 [.c (.p (.dat false zG)),.fn 279 [(true,[.own .i])]] (.c (.own zG)) [[.own .i]] 0 (fun k d=>VF k d.1 d.2.1) (fun x=>(x.1,x.2,())) (fun d=>(d.1,d.2.1))
theorem aai:zD prog vK4:=fX f194 yT5 2 (e1 yFk) (loops1 vT6)
def vEq:=zJ 250 [.c (.dat false zG),.c (.dat false .i)] (.c (.own zG)) (fun k d=>Fp k d.1 d.2.1) (fun x=>(x,())) (fun d=>d.1)
theorem G7:zD prog vEq:=fA f250 ⟨[],[],[],false⟩ (e2 vIk aai) zF
def yC4:zE:=⟨[sP 3 0,sO 6 1,sI 7,sO 8 2,sI 18,sI 19],[oB jV,oA .i,oA zG],[(6,none,.i,false)]⟩
def yTv:zE:=sp [sP 3 0,sO 6 1,sI 7,sO 8 2] [oB jV,oA .i,oA zG]
def yVw (f:qJg)(d:yC4.den):=(vI (f d.1.2.2.1.1 d.1.2.2.2.2.1.1 d.1.2.2.2.2.2.1.1) d.2.1) d.2.2.1 d.2.2.2.1
def Ql:zV:=⟨[yC4],[(.exit 0,yTv)],qI4,fun k d=>yVw (Bc k k) d,fun b x _ K=>K (.exit 0) (zM b yTv (((),(),(x.1,()),(),()),((iy x ()),x.2.2.2.2.2.1,x.2.2.2.2.2.2,())))⟩
def yX8:zE:=sp [sP 3 0,sO 6 1,sI 7,sO 8 2,sO 42 3,sI 43,sI 44] [oB jV,oA .i,oA zG,oA .i]
def yHi (f:qTi)(d:yX8.den):=(vI (f d.1.2.2.1.1 d.1.2.2.2.2.2.1.1 d.1.2.2.2.2.2.2.1.1) d.2.1) d.2.2.1 d.2.2.2.1 d.2.2.2.2.1
def qX5:zV:=⟨[yX8],[(.exit 4,yTv)],qI4,fun k d=>yHi (Fv k k) d,fun b x _ K=>K (.exit 4) (zM b yTv (((),(),(x.1,()),(),()),((iy x ()),x.2.2.2.2.2.1,x.2.2.2.2.2.2,())))⟩
def yW7:zE:=sp [sO 6 0,sI 7] [oA .i]
def yCa (f:qJz)(d:yTv.den):=(vI (f d.1.2.2.1.1) d.2.1) d.2.2.1 d.2.2.2.1
def Qm:zV:=⟨[yTv],[(.ret,yW7)],(Int×AC),fun k d=>yCa (JW k k) d,fun b x _ K=>K .ret (zM b yW7 (((),(x.1,()),()),(x.2,())))⟩
def Qn:zZ:=⟨[],[(3,Ql),(12,qX5),(7,Qm)],[],false⟩
theorem vOs:zU prog 1000 0 55 (zQ (zS f249) 0) Ql:=lp (A:=Qn) Ql (fun d=>(d.1.2.2.1.1,(vX d.2.1 (d.2.2.1,d.2.2.2.1)))) yVw Bc Fu (e4 BW K8 G7 Ld) zF
theorem vN1:zU prog 1000 0 55 (zQ (zQ (zS f249) 1) 0) qX5:=lp (A:=Qn) qX5 (fun d=>(d.1.2.2.1.1,(vX d.2.1 (d.2.2.1,d.2.2.2.1)))) yHi Fv Fw (e4 BW K8 G7 Ld) zF
theorem vRe:zU prog 1000 0 55 (zQ (zS f249) 1) Qm:=lp (A:=Qn) Qm (fun d=>(d.1.2.1.1,d.2.1)) yCa JW Fx (e4 BW K8 G7 Ld) (loops1 vN1)
def vN6:=zJ 249 [.agg jO,.c (.dat false zG),.c .i] (.tup [(false,[.own .i]),(false,vD)]) (fun k d=>(ke (Ou k) d)) (fun x=>(x.1,x.2,())) (fun d=>(d.1,d.2.1))
theorem yZh:zD prog vN6:=fA f249 Qn (e4 BW K8 G7 Ld) (oG (n:=2) (by kernel_rfl) fun i hi=>match i,hi with|0,_=>⟨Ql,by kernel_rfl,vOs⟩|1,_=>⟨Qm,by kernel_rfl,vRe⟩|i+2,hi=>absurd hi (by omega))
def yWz:zE:=sp [sP 6 0,(7,.c (.dat true zG)),sO 11 1,sO 38 1,sI 39,sI 40] [oB wB,oA zG]
def yRo:zE:=sp [sP 6 0,(7,.c (.dat true zG)),sO 11 1] [oB wB,oA zG]
def yMn (f:qMy)(d:yWz.den):=(vI (f d.1.2.1.1 d.1.2.2.2.2.1.1 d.1.2.2.2.2.2.1.1) d.2.1) d.2.2.1
def qS2:zV:=⟨[yWz],[(.exit 0,yRo)],qV6,fun k d=>yMn (Bd k k) d,fun b x _ K=>K (.exit 0) (zM b yRo (((),(x.1,()),(),()),((iy x ()),x.2.2.2.2.2,())))⟩
def yX9:zZ:=⟨[],[(8,qS2)],[],false⟩
theorem vEk:zU prog 1000 0 56 (zQ (zS f214) 0) qS2:=lp (A:=yX9) qS2 (fun d=>(d.1.2.1.1,(vX d.2.1 d.2.2.1))) yMn Bd Fy (e5 yZh BW G7 BX qc) zF
def vJr:=zJ 214 [.agg kR,.c (.dat true zG),.c .i] (.tup [(true,mY),(false,[.fro zG]),(false,[.own zG])]) (fun k d=>(ke (Be k) d)) (fun x=>(nV x ())) (fun d=>(mZ d))
theorem vJz:zD prog vJr:=fA f214 yX9 (e5 yZh BW G7 BX qc) (loops1 vEk)
def vMi:=zJ 164 [.agg kR,.c (.dat true zG),.c .i,.c .bool] (.tup [(true,mY),(false,[.fro zG]),(false,[.own zG])]) (fun k d=>(me (uv k) d)) (fun x=>(nV x ())) (fun d=>(mZ d))
theorem vOg:zD prog vMi:=fA f164 ⟨[],[],[],false⟩ (e2 vDp vJz) zF
def yOc:zE:=⟨[sO 3 0,sP 5 1,(8,.c (.dat false zG)),sI 9,sI 10,sO 18 2,sI 19,sI 20],[oA yR,oB wS,oA .i],[(3,none,yR,false)]⟩
def yEt:zE:=sp [sO 3 0,(8,.c (.dat false zG)),sI 9,sI 10] [oA yR]
def yEs (f:qK8)(d:yOc.den):=(me (f d.1.2.2.1.1 d.1.2.2.2.1.1 d.1.2.2.2.2.1.1 d.1.2.2.2.2.2.2.1.1 d.1.2.2.2.2.2.2.2.1.1 d.2.1) d.2.2.1) d.2.2.2.1
def qMt:zV:=⟨[yOc],[(.exit 2,yEt)],qMj,fun k d=>yEs (xw k k) d,fun b x _ K=>K (.exit 2) (zM b yEt (((),(x.1,()),(x.2.1,()),(x.2.2.1,()),()),(x.2.2.2,())))⟩
def yJw:zE:=⟨[sO 3 0,(8,.c (.dat false zG)),sI 9,sI 10],[oA yR],[(3,none,yR,false)]⟩
def yT0:zE:=sp [sO 3 0] [oA yR]
def yKn (f:qKt)(d:yJw.den):=f d.1.2.1.1 d.1.2.2.1.1 d.1.2.2.2.1.1 d.2.1
def qH3:zV:=⟨[yJw],[(.exit 0,yT0)],qHv,fun k d=>yKn (JZ k k) d,fun b x _ K=>K (.exit 0) (zM b yT0 (((),()),(x,())))⟩
def qZt:zZ:=⟨[],[(6,qMt),(3,qH3)],[],false⟩
theorem vC1:zU prog 1000 0 41 (zQ (zQ (zS f165) 0) 0) qMt:=lp (A:=qZt) qMt (fun d=>(d.1.2.1.1,d.1.2.2.1.1,d.1.2.2.2.1.1,d.2.1)) yEs xw xx (e1 yh) zF
theorem vW8:zU prog 1000 0 41 (zQ (zS f165) 0) qH3:=lp (A:=qZt) qH3 (fun d=>d.2.1) yKn JZ FA (e1 yh) (loops1 vC1)
def vDd:=zJ 165 [.c (.dat false zG)] (.c (.own yR)) (fun k d=>Oy k d.1) (fun x=>(x,())) (fun d=>d.1)
theorem vZc:zD prog vDd:=fA f165 qZt (e1 yh) (loops1 vW8)
def vCg:=zJ 96 [.agg ya,.c .bool] (.tup [(true,yc),(false,[.own yR])]) (fun k d=>(Lf (oU k) d)) (fun x=>(G5 x ())) (fun d=>(G6 d))
theorem qIp:zD prog vCg:=fA f96 ⟨[],[],[],false⟩ (e2 vOg vZc) zF
def yUo:zE:=⟨[sP 2 0,sP 3 1,sP 4 2,sO 6 3,sO 7 4,(27,.c (.dat true zG)),sI 28,sI 29],[oB pZ,oB gu,oB fw,oA yR,oA zG],[(6,none,yR,false),(7,none,zG,false)]⟩
def yUu:zE:=sp [sP 2 0,sP 3 1,sP 4 2,sO 6 3,sO 7 4] [oB pZ,oB gu,oB fw,oA yR,oA zG]
def yJ6 (f:qJf)(d:yUo.den):=(sJ (ll (f d.1.2.2.2.2.2.1.1 d.1.2.2.2.2.2.2.1.1 d.1.2.2.2.2.2.2.2.1.1) d.2.1) d.2.2.1) d.2.2.2.1.1 d.2.2.2.1.2.1 d.2.2.2.1.2.2.1 d.2.2.2.2.1 d.2.2.2.2.2.1
def qRa:zV:=⟨[yUo],[(.exit 0,yUu)],qPp,fun k d=>yJ6 (FH k k) d,fun b x _ K=>K (.exit 0) (zM b yUu (((),(),(),(),(),()),((qd x ()),(vXg x ()),(x.2.2.2.2.2.2.2.2.2.2.2.2.2.2.2.2.1,x.2.2.2.2.2.2.2.2.2.2.2.2.2.2.2.2.2.1,x.2.2.2.2.2.2.2.2.2.2.2.2.2.2.2.2.2.2.1,()),x.2.2.2.2.2.2.2.2.2.2.2.2.2.2.2.2.2.2.2.1,x.2.2.2.2.2.2.2.2.2.2.2.2.2.2.2.2.2.2.2.2,())))⟩
def yKi:zZ:=⟨[],[(9,qRa)],[],false⟩
theorem vHr:zU prog 1000 0 66 (zQ (zS f95) 0) qRa:=lp (A:=yKi) qRa (fun d=>(qd d.2.1 (yi d.2.2.1 (d.2.2.2.1.1,d.2.2.2.1.2.1,d.2.2.2.1.2.2.1,d.2.2.2.2.1,d.2.2.2.2.2.1)))) yJ6 FH FI (e6 Qd yDn yF8 yh yQg qIp) zF
def vJh:=zJ 95 [.agg ka,.agg ya] (.tup [(true,yc),(false,[.own yR])]) (fun k d=>(yRf (uw k) d)) (fun x=>(G5 x ())) (fun d=>(G6 d))
theorem vOn:zD prog vJh:=fA f95 yKi (e6 Qd yDn yF8 yh yQg qIp) (loops1 vHr)
def vIz:=yM 154 [.ptr true yd,.agg La] (.c .i) [lj] 0 (fun k d=>yD5 k (lk d) (yQk d)) (fun x=>(x.1,(jI x.2 ()))) (fun d=>(d.1,(kb d)))
theorem vKw:zD prog vIz:=fX f154 n0 1 (e4 ix yS6 yK1 P6) zF
def vO6:=yM 155 [.ptr true yd,.agg vM] (.c .i) [lj] 0 (fun k d=>Qo k (lk d) (G2 d)) (fun x=>(x.1,(jI x.2 ()))) (fun d=>(d.1,(kb d)))
theorem vZ3:zD prog vO6:=fX f155 n0 1 (e8 yPo qc vA9 ix YD ySb yW9 yF1) zF
def vJo:=yM 156 [.ptr true yd,.agg vM] (.c .i) [lj] 0 (fun k d=>Qp k (lk d) (G2 d)) (fun x=>(x.1,(jI x.2 ()))) (fun d=>(d.1,(kb d)))
theorem vLt:zD prog vJo:=fX f156 n0 1 (e3 oY yY4 ix) zF
def vJk:=yM 157 [.ptr true yd,.c (.p .i),.c (.p .i)] (.c .i) [lj] 0 (fun k d=>yW2 k (lk d) d.2.2.2.2.2.2.2.2.2.2.2.2.2.2.2.2.2.2.1 d.2.2.2.2.2.2.2.2.2.2.2.2.2.2.2.2.2.2.2.1) (fun x=>(x.1,(jI x.2 ()))) (fun d=>(d.1,(kb d)))
theorem vK9:zD prog vJk:=fX f157 n0 1 (e6 G3 ix yFn G4 yg oY) zF
def vTo:=yM 158 [.ptr true yd,.c (.p .i),.c (.p .i),.c (.p .i)] (.c .i) [lj] 0 (fun k d=>Bq k (lk d) d.2.2.2.2.2.2.2.2.2.2.2.2.2.2.2.2.2.2.1 d.2.2.2.2.2.2.2.2.2.2.2.2.2.2.2.2.2.2.2.1 d.2.2.2.2.2.2.2.2.2.2.2.2.2.2.2.2.2.2.2.2.1) (fun x=>(x.1,(jI x.2 ()))) (fun d=>(d.1,(kb d)))
theorem vZt:zD prog vTo:=fX f158 n0 1 (e5 ix yVe yQq yKg oY) zF
def yM8:zE:=sp [sP 0 0,sO 7 1,sP 8 2,(40,.c (.dat true (.sl .i))),sI 41,sI 42] [oB qRi,oA .i,oB sK,oA qW,.mat,oA .i,.mat]
def yA8:zE:=sp [sP 0 0,sO 7 1,sP 8 2] [oB qRi,oA .i,oB sK,oA qW,.mat,oA .i,.mat]
def yWo:zE:=sp [sP 0 0,sI 6] [oB qRi]
def yMb (f:qS3)(d:yM8.den):=f d.1.2.2.2.1.1 d.1.2.2.2.2.1.1 d.1.2.2.2.2.2.1.1 (lk d.2.1) d.2.2.1 d.2.2.2.2.1 d.2.2.2.2.2.1 d.2.2.2.2.2.2.1 d.2.2.2.2.2.2.2.1
def qM2:zV:=⟨[yM8],[(.exit 0,yA8),(.ret,yWo)],qYf,fun k d=>yMb (uE k k) d,fun b x _ K=>match x with|.inl x=>K (.exit 0) (zM b yA8 (((),(),(),()),((vT x.1 ()),x.2.1,(),x.2.2.1,x.2.2.2.1,x.2.2.2.2.1,x.2.2.2.2.2,())))|.inr x=>K .ret (zM b yWo (((),(x.1,()),()),((vT x.2 ()),())))⟩
def yZl:zZ:=⟨[],[(6,qM2)],[],true⟩
theorem vZa:zU prog 1000 1 81 (zQ (zS f159) 0) qM2:=lp (A:=yZl) qM2 (fun d=>match d with|.inl d=>.inl ((lk d.2.1),d.2.2.1,d.2.2.2.2.1,d.2.2.2.2.2.1,d.2.2.2.2.2.2.1,d.2.2.2.2.2.2.2.1)|.inr d=>.inr (d.1.2.1.1,(lk d.2.1))) yMb uE Ga (e5 G3 ix G4 oY yg) zF
def vFo:=yM 159 [.ptr true yd,.c (.p .i),.c (.p .i)] (.c .i) [lj] 0 (fun k d=>O8 k (lk d) d.2.2.2.2.2.2.2.2.2.2.2.2.2.2.2.2.2.2.1 d.2.2.2.2.2.2.2.2.2.2.2.2.2.2.2.2.2.2.2.1) (fun x=>(x.1,(jI x.2 ()))) (fun d=>(d.1,(kb d)))
theorem vD4:zD prog vFo:=fX f159 yZl 1 (e5 G3 ix G4 oY yg) (loops1 vZa)
def aaj:=yM 94 [.ptr true yd,.agg vM] (.c .i) [lj] 0 (fun k d=>xS k (lk d) (G2 d)) (fun x=>(x.1,(jI x.2 ()))) (fun d=>(d.1,(kb d)))
theorem vKt:zD prog aaj:=fX f94 n0 1 (e6 vKw vZ3 vLt vK9 vZt vD4) zF
def vLi:=zJ 40 [.agg Qq,.agg ya,.agg K7] (.tup [(true,yc),(false,[.own yR]),(false,vD)]) (fun k d=>gM k (yZ d) (pX d) (Yv d)) (fun x=>(wP x.1 (x.2.1,x.2.2,()))) (fun d=>((qQ d),d.2.2.2.2.2.2.2.2.2.2.2.1,d.2.2.2.2.2.2.2.2.2.2.2.2.1))
theorem qWl:zD prog vLi:=fA f40 n0 (e9 vFn vKv vA9 vVv vOn qIp ye yXc vKt) zF
def vJv:=yM 41 [.chn [qNv,lh],.c (.p (.dat false (.int .u8)))] (.c .i) [[.link 1,.i,.i,.i,.bool],iP] 0 (fun k d=>uN k (Qr d) (Qs d) d.2.2.2.2.2.2.2.2.2.2.2.2.2.2.2.1) (fun x=>(x.1,(),(gP x.2.1 (iu x.2.2 ())))) (fun d=>(d.1,(qKw d),(qMh d)))
theorem Qt:zD prog vJv:=fX f41 n0 0 (e1 yYl) zF
def vL7:=zJ 140 [.c .i] (.c .bool) (fun k d=>WX k d.1) (fun x=>(x,())) (fun d=>d.1)
theorem yHa:zD prog vL7:=fA f140 n0 (e1 ix) zF
def yD0:zE:=sp [(0,.c (.dat false .i)),(1,.c (.lit (.fn 140 []))),sI 7,sI 8] []
def yYi (f:qWg)(d:yD0.den):=f d.1.1.1 d.1.2.2.1.1 d.1.2.2.2.1.1
def qNa:zV:=⟨[yD0],[(.exit 0,ySw),(.ret,ySe)],(Unit⊕Int),fun k d=>yYi (BJ k k) d,fun b x _ K=>match x with|.inl x=>K (.exit 0) (zM b ySw ((),()))|.inr x=>K .ret (zM b ySe (((x,()),()),()))⟩
def yLq:zZ:=⟨[],[(2,qNa)],[],false⟩
theorem vZg:zU prog 1000 0 19 (zQ (zS f189) 0) qNa:=lp (A:=yLq) qNa (fun d=>match d with|.inl d=>.inl ()|.inr d=>.inr d.1.1.1) yYi BJ GM (e1 yHa) zF
def vWq:=zJ 189 [.c (.dat false .i),.c (.fn 140)] (.c .i) (fun k d=>WY k d.1) (fun x=>(x,())) (fun d=>d.1)
theorem vJ0:zD prog vWq:=fA f189 yLq (e1 yHa) (loops1 vZg)
def aak:=zJ 139 [.c (.dat false .i),.c (.fn 140)] (.c .bool) (fun k d=>KO k d.1) (fun x=>(x,())) (fun d=>d.1)
theorem yBb:zD prog aak:=fA f139 ⟨[],[],[],false⟩ (e1 vJ0) zF
def aal:=zJ 142 [.c .i] (.c .bool) (fun k d=>WZ k d.1) (fun x=>(x,())) (fun d=>d.1)
theorem yJz:zD prog aal:=fA f142 n0 e0 zF
def yZ1:zE:=sp [(0,.c (.dat false .i)),(1,.c (.lit (.fn 142 []))),sI 7,sI 8] []
def yTh (f:qWg)(d:yZ1.den):=f d.1.1.1 d.1.2.2.1.1 d.1.2.2.2.1.1
def qNe:zV:=⟨[yZ1],[(.exit 0,ySw),(.ret,ySe)],(Unit⊕Int),fun k d=>yTh (BK k k) d,fun b x _ K=>match x with|.inl x=>K (.exit 0) (zM b ySw ((),()))|.inr x=>K .ret (zM b ySe (((x,()),()),()))⟩
def yNq:zZ:=⟨[],[(2,qNe)],[],false⟩
theorem vEl:zU prog 1000 0 19 (zQ (zS f189) 0) qNe:=lp (A:=yNq) qNe (fun d=>match d with|.inl d=>.inl ()|.inr d=>.inr d.1.1.1) yTh BK GN (e1 yJz) zF
def aam:=zJ 189 [.c (.dat false .i),.c (.fn 142)] (.c .i) (fun k d=>W0 k d.1) (fun x=>(x,())) (fun d=>d.1)
theorem vTk:zD prog aam:=fA f189 yNq (e1 yJz) (loops1 vEl)
def vZq:=zJ 139 [.c (.dat false .i),.c (.fn 142)] (.c .bool) (fun k d=>Px k d.1) (fun x=>(x,())) (fun d=>d.1)
theorem yM3:zD prog vZq:=fA f139 ⟨[],[],[],false⟩ (e1 vTk) zF
def yD6:zE:=sp [sP 2 0,sP 3 1,(28,.c (.dat false (.sl .i))),sI 29,sI 30] [oB pZ,oB Qu]
def yO7:zE:=sp [(4,.c .bool)] []
def yLr (f:qTv)(d:yD6.den):=f d.1.2.2.1.1 d.1.2.2.2.1.1 d.1.2.2.2.2.1.1 (yZ d.2.1) (qQ d.2.2.1)
def qT1:zV:=⟨[yD6],[(.exit 0,ySw),(.ret,yO7)],(Unit⊕Bool),fun k d=>yLr (xT k k) d,fun b x _ K=>match x with|.inl x=>K (.exit 0) (zM b ySw ((),()))|.inr x=>K .ret (zM b yO7 (((x,()),()),()))⟩
def yL4:zZ:=⟨[],[(6,qT1)],[],true⟩
theorem vPg:zU prog 1000 0 66 (zQ (zS f86) 0) qT1:=lp (A:=yL4) qT1 (fun d=>match d with|.inl d=>.inl ()|.inr d=>.inr d.1.1.1) yLr xT GO (e3 yBb yg yM3) zF
def vYf:=zJ 86 [.agg ka,.agg sH] (.c .bool) (fun k d=>KP k (yZ d) (pX d)) (fun x=>(x,())) (fun d=>d.1)
theorem yD7:zD prog vYf:=fA f86 yL4 (e3 yBb yg yM3) (loops1 vPg)
def yL0:zE:=sp [(0,.c (.dat false zG)),(1,.c (.lit (.fn 193 []))),sI 5] []
def yMi (f:qP8)(d:yL0.den):=f d.1.1.1 d.1.2.2.1.1
def qMn:zV:=⟨[yL0],[(.exit 0,ySw),(.ret,yO7)],(Unit⊕Bool),fun k d=>yMi (KJ k k) d,fun b x _ K=>match x with|.inl x=>K (.exit 0) (zM b ySw ((),()))|.inr x=>K .ret (zM b yO7 (((x,()),()),()))⟩
def yX6:zZ:=⟨[],[(2,qMn)],[],true⟩
theorem vVt:zU prog 1000 0 25 (zQ (zS f192) 0) qMn:=lp (A:=yX6) qMn (fun d=>match d with|.inl d=>.inl ()|.inr d=>.inr d.1.1.1) yMi KJ Pu (e1 G1) zF
def vRq:=zJ 192 [.c (.dat false zG),.c (.fn 193)] (.c .bool) (fun k d=>Pt k d.1) (fun x=>(x,())) (fun d=>d.1)
theorem yDx:zD prog vRq:=fA f192 yX6 (e1 G1) (loops1 vVt)
def yAd:zE:=sp [(0,.c (.dat false zG)),(5,.c (.dat false zG)),sI 6,sI 7] []
def yBl:zE:=sp [(0,.c (.dat false zG))] []
def yT9 (f:qPh)(d:yAd.den):=f d.1.1.1 d.1.2.1.1 d.1.2.2.1.1 d.1.2.2.2.1.1
def qLy:zV:=⟨[yAd],[(.exit 0,yBl),(.ret,yT4)],qLt,fun k d=>yT9 (BH k k) d,fun b x _ K=>match x with|.inl x=>K (.exit 0) (zM b yBl (((x,()),()),()))|.inr x=>K .ret (zM b yT4 (((x,()),()),()))⟩
def yY0:zZ:=⟨[],[(2,qLy)],[],false⟩
theorem vI9:zU prog 1000 0 26 (zQ (zS f146) 0) qLy:=lp (A:=yY0) qLy (fun d=>match d with|.inl d=>.inl d.1.1.1|.inr d=>.inr d.1.1.1) yT9 BH GJ (e2 ye yDx) zF
def aan:=zJ 146 [.c (.dat false zG)] (.c .bool) (fun k d=>KI k d.1) (fun x=>(x,())) (fun d=>d.1)
theorem vUn:zD prog aan:=fA f146 yY0 (e2 ye yDx) (loops1 vI9)
def yJn:zE:=sp [(0,.c (.dat false .i)),sI 3,(6,.c (.dat false .i)),sI 7,sI 8] []
def yHm:zE:=sp [(0,.c (.dat false .i))] []
def vB7 (f:qTt)(d:yJn.den):=f d.1.1.1 d.1.2.1.1 d.1.2.2.1.1 d.1.2.2.2.1.1 d.1.2.2.2.2.1.1
def qO0:zV:=⟨[yJn],[(.exit 0,yHm),(.ret,yT4)],(AC⊕Bool),fun k d=>vB7 (KL k k) d,fun b x _ K=>match x with|.inl x=>K (.exit 0) (zM b yHm (((x,()),()),()))|.inr x=>K .ret (zM b yT4 (((x,()),()),()))⟩
def yQn:zZ:=⟨[],[(3,qO0)],[],true⟩
theorem vIy:zU prog 1000 0 20 (zQ (zS f147) 0) qO0:=lp (A:=yQn) qO0 (fun d=>match d with|.inl d=>.inl d.1.1.1|.inr d=>.inr d.1.1.1) vB7 KL GK e0 zF
def vMh:=zJ 147 [.c (.dat false .i)] (.c .bool) (fun k d=>KK k d.1) (fun x=>(x,())) (fun d=>d.1)
theorem vI6:zD prog vMh:=fA f147 yQn e0 (loops1 vIy)
def aao:=zJ 145 [.c (.dat false .i),.c .i] (.c .bool) (fun k d=>Ob k d.1 d.2.1) (fun x=>(x,())) (fun d=>d.1)
theorem vLo:zD prog aao:=fA f145 n0 (e1 yMs) zF
def vPx:=zJ 143 [.agg vM,.ptr sH] (.c .bool) (fun k d=>Pw k (wM d) (vCs d)) (fun x=>(x,())) (fun d=>d.1)
theorem yDe:zD prog vPx:=fA f143 n0 (e3 ZJ ix vLo) zF
def yWv:zE:=sp [(0,.c (.dat false zG)),(1,.c (.lit (.fn 143 [1001000]))),sI 7,sI 8] [.robox Qu]
def yS0 (f:qPs)(d:yWv.den):=(sJ (f d.1.1.1 d.1.2.2.1.1 d.1.2.2.2.1.1) d.2.1)
def qPr:zV:=⟨[yWv],[(.exit 0,ySw),(.ret,ySe)],(Unit⊕Int),fun k d=>yS0 (BI k k) d,fun b x _ K=>match x with|.inl x=>K (.exit 0) (zM b ySw ((),()))|.inr x=>K .ret (zM b ySe (((x,()),()),()))⟩
def yIr:zZ:=⟨[],[(2,qPr)],[],false⟩
theorem vTd:zU prog 1000 0 19 (zQ (zS f166) 0) qPr:=lp (A:=yIr) qPr (fun d=>match d with|.inl d=>.inl ()|.inr d=>.inr d.1.1.1) yS0 BI GL (e1 yDe) zF
def vSe:=zJ 166 [.c (.dat false zG),.fn 143 [sH]] (.c .i) (fun k d=>(Lf (WW k) d)) (fun x=>(x,())) (fun d=>d.1)
theorem vO4:zD prog vSe:=fA f166 yIr (e1 yDe) (loops1 vTd)
def vWi:=zJ 148 [.c (.dat false zG),.fn 143 [sH]] (.c .bool) (fun k d=>(Lf (Pv k) d)) (fun x=>(x,())) (fun d=>d.1)
theorem vEx:zD prog vWi:=fA f148 ⟨[],[],[],false⟩ (e1 vO4) zF
def vSf:=zJ 87 [.agg sH] (.c .bool) (fun k d=>KM k (qQ d)) (fun x=>(x,())) (fun d=>d.1)
theorem yJl:zD prog vSf:=fA f87 n0 (e3 vUn vI6 vEx) zF
def yFm:zE:=⟨[sP 2 0,sP 3 1,sO 5 2,(44,.c (.dat false qW)),sI 45,sI 46],[oB pZ,oB Qu,oA .i],[(5,none,.i,false)]⟩
def yWn:zE:=sp [sP 2 0,sP 3 1,sO 5 2] [oB pZ,oB Qu,oA .i]
def yQf (f:qY6)(d:yFm.den):=f d.1.2.2.2.1.1 d.1.2.2.2.2.1.1 d.1.2.2.2.2.2.1.1 (yZ d.2.1) (qQ d.2.2.1) d.2.2.2.1
def qRp:zV:=⟨[yFm],[(.exit 0,yWn)],qNo,fun k d=>yQf (GP k k) d,fun b x _ K=>K (.exit 0) (zM b yWn (((),(),(),()),((jE x.1 ()),(wP x.2.1 ()),x.2.2,())))⟩
def yB3:zZ:=⟨[],[(5,qRp)],[],true⟩
theorem vXh:zU prog 1000 0 92 (zQ (zS f38) 0) qRp:=lp (A:=yB3) qRp (fun d=>((yZ d.2.1),(qQ d.2.2.1),d.2.2.2.1)) yQf GP GQ (e6 ix Qi yD7 yJl Qb Qd) zF
def vV2:=zJ 38 [.agg ka,.agg sH] (.c .bool) (fun k d=>KQ k (yZ d) (pX d)) (fun x=>(x,())) (fun d=>d.1)
theorem yDa:zD prog vV2:=fA f38 yB3 (e6 ix Qi yD7 yJl Qb Qd) (loops1 vXh)
def yVh:zE:=⟨[sP 1 0,sI 2,sP 3 3,(12,.c .bool),sP 13 4,sP 17 5,(72,.c (.dat true (.sl (.int .u8)))),sI 73,sI 74],[oB yLx,oA (.int .u8),oA (.int .u8),oB Qv,oB [.lit (.ptr 1001000 0),.i,.i,.i,.bool],oB gu],[(17,some 1,.bool,true),(17,some 2,.bool,true),(17,some 3,.bool,true),(17,some 4,.bool,true),(17,some 5,.bool,true),(17,some 6,.bool,true),(17,some 7,.bool,true),(17,some 8,.bool,true)]⟩
def yHn:zE:=sp [sP 1 0,sI 2,sP 3 3,(12,.c .bool),sP 13 4,sP 17 5] [oB yLx,oA (.int .u8),oA (.int .u8),oB Qv,oB [.lit (.ptr 1001000 0),.i,.i,.i,.bool],oB gu]
def yWi (f:qS4)(d:yVh.den):=f d.1.2.1.1 d.1.2.2.2.1.1 d.1.2.2.2.2.2.2.1.1 d.1.2.2.2.2.2.2.2.1.1 d.1.2.2.2.2.2.2.2.2.1.1 (qb d.2.1) d.2.2.1 d.2.2.2.1 (yZ d.2.2.2.2.1) (fL d.2.2.2.2.2.1) (qQ d.2.2.2.2.2.2.1)
def qQ4:zV:=⟨[yVh],[(.exit 0,yHn)],qTh,fun k d=>yWi (xW k k) d,fun b x _ K=>K (.exit 0) (zM b yHn (((),(x.1,()),(),(x.2.1,()),(),(),()),((GZ x.2.2.1 ()),x.2.2.2.1,x.2.2.2.2.1,(jE x.2.2.2.2.2.1 ()),(gP x.2.2.2.2.2.2.1 ()),(wP x.2.2.2.2.2.2.2 ()),())))⟩
def yO8:zZ:=⟨[],[(11,qQ4)],[],true⟩
theorem vV8:zU prog 1000 2 112 (zQ (zS f10) 0) qQ4:=lp (A:=yO8) qQ4 (fun d=>(d.1.2.1.1,d.1.2.2.2.1.1,(qb d.2.1),d.2.2.1,d.2.2.2.1,(yZ d.2.2.2.2.1),(fL d.2.2.2.2.2.1),(qQ d.2.2.2.2.2.2.1))) yWi xW xX (e10 F7q XG yV6 BV yMf yPl yVf qWl Qt yDa) zF
def qMd:=MY 10 [.agg Qq,.ptr true lh,.c (.p .i)] (.tup [(false,[.link 1]),(false,vD)]) [iP,[.link 2,.i,.fro wX,.i,.i,.i,.i,.fro qW,.fro (.sl .i),.fro .i,.fro (.sl .i),.fro .i,.fro (.sl .i),.fro zG,.fro .i,.i,.bool,.i,.bool],[.link 0,.i,.i,.i,.bool]] 2 (.tup [(false,[.nilp]),(false,vD)]) [iP] 0 (fun k d=>jJ k (yZ d) (Qs d) d.2.2.2.2.2.2.2.2.2.2.2.2.2.2.2.1) (fun x=>((),x.1,(iu x.2.1 ((),(jI x.2.2.1 ((),(gP x.2.2.2 ()))))))) (fun x=>((),x.1,(iu x.2 ()))) (fun d=>(d.2.1,(yQa d),(vY3 d),(aap d))) (fun d=>(d.2.1,(yQa d)))
theorem qZ3:zD prog qMd:=fN f10 yO8 2 (e10 F7q XG yV6 BV yMf yPl yVf qWl Qt yDa) (loops1 vV8)
def yUb:zE:=sp [sI 0,sI 1,sO 5 0,sI 6] [oA .i]
def yZ4 (f:XH)(d:yUb.den):=f d.1.1.1 d.1.2.1.1 d.1.2.2.2.1.1 d.2.1
def qJp:zV:=⟨[yUb],[(.exit 0,yAb)],AC,fun k d=>yZ4 (Qw k k) d,fun b x _ K=>K (.exit 0) (zM b yAb (((),()),(x,())))⟩
def yKe:zZ:=⟨[],[(5,qJp)],[],false⟩
theorem vL6:zU prog 1000 0 25 (zQ (zS f43) 0) qJp:=lp (A:=yKe) qJp (fun d=>d.2.1) yZ4 Qw yS1 e0 zF
def vQ9:=zJ 43 [.c .i,.c .i] (.c (.own .i)) (fun k d=>qQ9 k d.1 d.2.1) (fun x=>(x,())) (fun d=>d.1)
theorem Lg:zD prog vQ9:=fA f43 yKe e0 (loops1 vL6)
def yKw:zE:=⟨[sI 0,sI 1,sO 5 0,sI 6],[.mat],[(5,none,(.sl .i),true)]⟩
def yF4 (f:qKz)(d:yKw.den):=f d.1.1.1 d.1.2.1.1 d.1.2.2.2.1.1 d.2.1
def qP5:zV:=⟨[yKw],[(.exit 0,yZv)],EQ,fun k d=>yF4 (Qx k k) d,fun b x _ K=>K (.exit 0) (zM b yZv (((),()),(x,())))⟩
def yVb:zZ:=⟨[22,23],[(5,qP5)],[],false⟩
theorem vUv:zU prog 1000 0 25 (zQ (zS f42) 0) qP5:=lp (A:=yVb) qP5 (fun d=>d.2.1) yF4 Qx yMc (e1 Lg) zF
def vJ8:=zJ 42 [.c .i,.c .i] (.c (.mat)) (fun k d=>qP2 k d.1 d.2.1) (fun x=>(x,())) (fun d=>d.1)
theorem qJs:zD prog vJ8:=fA f42 yVb (e1 Lg) (loops1 vUv)
def yPs:zE:=⟨[sP 1 0,sP 2 1,sI 3,sP 4 2,sI 5],[oB pZ,oB fw,oB PR,oA qW,.mat,oA .i,.mat,oA .i],[(4,some 5,.i,false)]⟩
def yOj (f:qR2)(d:yPs.den):=f d.1.2.2.1.1 d.1.2.2.2.2.1.1 (yZ d.2.1) (d.2.2.1.1,d.2.2.1.2.1,d.2.2.1.2.2.1) (d.2.2.2.1.1,d.2.2.2.1.2.1,d.2.2.2.1.2.2.1) d.2.2.2.2.1 d.2.2.2.2.2.1 d.2.2.2.2.2.2.1 d.2.2.2.2.2.2.2.1 d.2.2.2.2.2.2.2.2.1
def Qy:zV:=⟨[yPs],[(.exit 0,yH9)],XO,fun k d=>yOj (qWu k k) d,fun b x _ K=>K (.exit 0) (zM b yH9 (((),(),(x.1,()),(),()),((jE x.2.1 ()),(x.2.2.1.1,x.2.2.1.2.1,x.2.2.1.2.2,()),(x.2.2.2.1.1,x.2.2.2.1.2.1,x.2.2.2.1.2.2,()),x.2.2.2.2.1,x.2.2.2.2.2.1,x.2.2.2.2.2.2.1,x.2.2.2.2.2.2.2.1,x.2.2.2.2.2.2.2.2,())))⟩
def yG1:zE:=⟨[sP 1 0,sP 2 1,sI 3,sP 4 2,sI 6],[oB pZ,oB fw,oB yD2,oA qW,.mat,oA .i,.mat,oA .i,.mat],[(4,some 6,(.sl .i),true)]⟩
def yZ3 (f:XQ)(d:yG1.den):=f d.1.2.2.1.1 d.1.2.2.2.2.1.1 (yZ d.2.1) (d.2.2.1.1,d.2.2.1.2.1,d.2.2.1.2.2.1) (d.2.2.2.1.1,d.2.2.2.1.2.1,d.2.2.2.1.2.2.1) d.2.2.2.2.1 d.2.2.2.2.2.1 d.2.2.2.2.2.2.1 d.2.2.2.2.2.2.2.1 d.2.2.2.2.2.2.2.2.1 d.2.2.2.2.2.2.2.2.2.1
def Qz:zV:=⟨[yG1],[(.exit 2,yVm)],XR,fun k d=>yZ3 (qLf k k) d,fun b x _ K=>K (.exit 2) (zM b yVm (((),(),()),((x.1.1,x.1.2.1,x.1.2.2,()),(x.2.1.1,x.2.1.2.1,x.2.1.2.2,()),x.2.2.1,x.2.2.2.1,x.2.2.2.2.1,x.2.2.2.2.2.1,x.2.2.2.2.2.2.1,x.2.2.2.2.2.2.2,())))⟩
def qMc:zZ:=⟨[48,49],[(4,Qy),(8,Qz)],[],true⟩
theorem vV4:zU prog 1000 0 52 (zQ (zS f11) 0) Qy:=lp (A:=qMc) Qy (fun d=>(d.1.2.2.1.1,(yZ d.2.1),(d.2.2.1.1,d.2.2.1.2.1,d.2.2.1.2.2.1),(d.2.2.2.1.1,d.2.2.2.1.2.1,d.2.2.2.1.2.2.1),d.2.2.2.2.1,d.2.2.2.2.2.1,d.2.2.2.2.2.2.1,d.2.2.2.2.2.2.2.1,d.2.2.2.2.2.2.2.2.1)) yOj qWu yDd (e2 qJs Lg) zF
theorem vRg:zU prog 1000 0 52 (zQ (zS f11) 1) Qz:=lp (A:=qMc) Qz (fun d=>((d.2.1.1,d.2.1.2.1,d.2.1.2.2.1),(d.2.2.1.1,d.2.2.1.2.1,d.2.2.1.2.2.1),d.2.2.2.1,d.2.2.2.2.1,d.2.2.2.2.2.1,d.2.2.2.2.2.2.1,d.2.2.2.2.2.2.2.1,d.2.2.2.2.2.2.2.2.1)) yZ3 qLf yNr (e2 qJs Lg) zF
def qO3:=zJ 11 [.agg ka] (.agg XV) (fun k d=>Xf k (yZ d)) (fun x=>(wP x ())) (fun d=>(qQ d))
theorem aaq:zD prog qO3:=fA f11 qMc (e2 qJs Lg) (oG (n:=2) (by kernel_rfl) fun i hi=>match i,hi with|0,_=>⟨Qy,by kernel_rfl,vV4⟩|1,_=>⟨Qz,by kernel_rfl,vRg⟩|i+2,hi=>absurd hi (by omega))
def qSf:=yM 12 [.ptr true lh,.agg [.i,.i]] (.tup []) [iP] 0 (fun k d=>Xl k (fu d) (d.2.2.2.2.2.2.2.2.2.2.1,d.2.2.2.2.2.2.2.2.2.2.2.1)) (fun x=>(iu x ())) (fun d=>(fu d))
theorem aar:zD prog qSf:=fX f12 n0 1 e0 zF
def qXb:=yM 16 [.chn [QA,QB,lh]] (.c .bool) [QC,QD,iP] 0 (fun k d=>j7 k (kb d) (QE d) (QF d)) (fun x=>(x.1,(),(jI x.2.1 ((),(gP x.2.2.1 (iu x.2.2.2 ())))))) (fun d=>(d.1,(qNt d),(qWa d),(qRq d)))
theorem qNd:zD prog qXb:=fX f16 n0 0 e0 zF
def vOi:=zJ 45 [.c .i,.c .i] (.c (.own yR)) (fun k d=>Lh k d.1 d.2.1) (fun x=>(x,())) (fun d=>d.1)
theorem yN7:zD prog vOi:=fA f45 n0 e0 zF
def vSg:=zJ 100 [.agg vM] (.c (.own (.int .u8))) (fun k d=>VZ k (wM d)) (fun x=>(x,())) (fun d=>d.1)
theorem vCh:zD prog vSg:=fA f100 ⟨[1],[],[],true⟩ (e3 yD8 P1 PV) zF
def vMg:=zJ 47 [.agg K7] (.c (.own (.int .u8))) (fun k d=>OJ k (qb d)) (fun x=>(x,())) (fun d=>d.1)
theorem vGs:zD prog vMg:=fA f47 n0 (e2 vCh PV) zF
def vU3:=yM 99 [.chn [qNv,lh],.c (.p (.dat false (.int .u8)))] (.c .i) [[.link 1,.i,.i,.i,.bool],iP] 0 (fun k d=>KW k (Qr d) (Qs d) d.2.2.2.2.2.2.2.2.2.2.2.2.2.2.2.1) (fun x=>(x.1,(),(gP x.2.1 (iu x.2.2 ())))) (fun d=>(d.1,(qKw d),(qMh d)))
theorem vJd:zD prog vU3:=fX f99 n0 0 (e3 yMh qZ4 yAy) zF
def vWu:=yM 46 [.chn [QA,QB,lh],.c (.p (.dat false (.int .u8)))] (.c .i) [QC,QD,iP] 0 (fun k d=>PE k (kb d) (QE d) (QF d) d.2.2.2.2.2.2.2.2.2.2.2.2.2.2.2.2.2.2.2.2.2.2.2.2.2.2.2.2.2.2.2.2.2.2.1) (fun x=>(x.1,(),(jI x.2.1 ((),(gP x.2.2.1 (iu x.2.2.2 ())))))) (fun d=>(d.1,(qNt d),(qWa d),(qRq d)))
theorem vOz:zD prog vWu:=fX f46 n0 0 (e3 vJd BV Qt) zF
def vVo:=yM 48 [.chn [qNv,lh]] (.c .i) [[.link 1,.i,.i,.i,.bool],iP] 0 (fun k d=>PG k (Qr d) (Qs d)) (fun x=>(x.1,(),(gP x.2.1 (iu x.2.2 ())))) (fun d=>(d.1,(qKw d),(qMh d)))
theorem vX8:zD prog vVo:=fX f48 n0 0 e0 zF
def qQ3:=yM 13 [.chn [QA,QB,lh],.c (.p .i),.c (.p (.dat false (.int .u8)))] (.c (.own yR)) [QC,QD,iP] 0 (fun k d=>BS k (kb d) (QE d) (QF d) d.2.2.2.2.2.2.2.2.2.2.2.2.2.2.2.2.2.2.2.2.2.2.2.2.2.2.2.2.2.2.2.2.2.2.1 d.2.2.2.2.2.2.2.2.2.2.2.2.2.2.2.2.2.2.2.2.2.2.2.2.2.2.2.2.2.2.2.2.2.2.2.1) (fun x=>(x.1,(),(jI x.2.1 ((),(gP x.2.2.1 (iu x.2.2.2 ())))))) (fun d=>(d.1,(qNt d),(qWa d),(qRq d)))
theorem yNb:zD prog qQ3:=fX f13 n0 0 (e9 qNd Yq yN7 qWl vGs vOz vX8 BV Qt) zF
def vG4:=zJ 50 [.c .i] (.c .i) (fun k d=>Dz k d.1) (fun x=>(x,())) (fun d=>d.1)
theorem qVl:zD prog vG4:=fA f50 n0 e0 zF
def vOo:=zJ 103 [.c .i] (.c .bool) (fun k d=>Pq k d.1) (fun x=>(x,())) (fun d=>d.1)
theorem vSz:zD prog vOo:=fA f103 n0 e0 zF
def yT6:zE:=sp [sP 1 0,sI 3,sI 4] [oB wS]
def yB7 (f:qIg)(d:yT6.den):=f d.1.2.1.1 d.1.2.2.1.1 (wM d.2.1)
def qS0:zV:=⟨[yT6],[(.exit 0,yRp),(.ret,yT4)],(Int⊕Bool),fun k d=>yB7 (xD k k) d,fun b x _ K=>match x with|.inl x=>K (.exit 0) (zM b yRp (((x,()),()),()))|.inr x=>K .ret (zM b yT4 (((x,()),()),()))⟩
def yRj:zZ:=⟨[],[(3,qS0)],[],true⟩
theorem vEv:zU prog 1000 0 21 (zQ (zS f65) 0) qS0:=lp (A:=yRj) qS0 (fun d=>match d with|.inl d=>.inl d.1.1.1|.inr d=>.inr d.1.1.1) yB7 xD WQ (e1 qVl) zF
def vHg:=zJ 65 [.agg vM] (.c .bool) (fun k d=>sA k (wM d)) (fun x=>(x,())) (fun d=>d.1)
theorem yIe:zD prog vHg:=fA f65 yRj (e1 qVl) (loops1 vEv)
def vM3:=zJ 104 [.c .i] (.c .bool) (fun k d=>Pr k d.1) (fun x=>(x,())) (fun d=>d.1)
theorem vYa:zD prog vM3:=fA f104 n0 e0 zF
def vPb:=zJ 51 [.agg ka,.agg K7] (.c .bool) (fun k d=>BB k (yZ d) (vVj d)) (fun x=>(x,())) (fun d=>d.1)
theorem vZw:zD prog vPb:=fA f51 n0 (e3 vSz yIe vYa) zF
def yWy:zE:=⟨[(0,.c (.dat false zG)),sI 1,sO 5 0,sI 6],[oA zG],[(5,none,zG,false)]⟩
def vAt (f:qZc)(d:yWy.den):=f d.1.1.1 d.1.2.1.1 d.1.2.2.2.1.1 d.2.1
def qW8:zV:=⟨[yWy],[(.exit 0,yTu)],Yy,fun k d=>vAt (Jt k k) d,fun b x _ K=>K (.exit 0) (zM b yTu (((),()),(x,())))⟩
def yYs:zZ:=⟨[],[(3,qW8)],[],false⟩
theorem vUy:zU prog 1000 0 28 (zQ (zS f52) 0) qW8:=lp (A:=yYs) qW8 (fun d=>d.2.1) vAt Jt EI e0 zF
def qOl:=zJ 52 [.c (.dat false zG),.c .i] (.c (.own zG)) (fun k d=>uh k d.1 d.2.1) (fun x=>(x,())) (fun d=>d.1)
theorem yk:zD prog qOl:=fA f52 yYs e0 (loops1 vUy)
def yDu:zE:=sp [(1,.c (.dat false .i)),sP 4 0,sP 5 1,sI 6] [oB wS,oB wS]
def yDc:zE:=sp [sP 4 0,sP 5 1] [oB wS,oB wS]
def yHx (f:qJ1)(d:yDu.den):=(me (me (f d.1.1.1 d.1.2.2.2.1.1) d.2.1) d.2.2.1)
def qLb:zV:=⟨[yDu],[(.exit 0,yDc)],qSg,fun k d=>yHx (QG k k) d,fun b x _ K=>K (.exit 0) (zM b yDc (((),(),()),((j6 x ()),(yJh x ()),())))⟩
def yLy:zZ:=⟨[],[(3,qLb)],[],false⟩
theorem vQ4:zU prog 1000 0 27 (zQ (zS f24) 0) qLb:=lp (A:=yLy) qLb (fun d=>(j6 d.2.1 (wM d.2.2.1))) yHx QG yNx e0 zF
def vP9:=zJ 24 [.c .i,.c (.dat false .i)] (.agg qa) (fun k d=>eW k d.1 d.2.1) (fun x=>(iw x ())) (fun d=>(wM d))
theorem uQ:zD prog vP9:=fA f24 yLy e0 (loops1 vQ4)
def vP8:=zJ 105 [.agg ka,.c .i] (.c .bool) (fun k d=>Po k (yZ d) d.2.2.2.2.2.1) (fun x=>(x,())) (fun d=>d.1)
theorem QH:zD prog vP8:=fA f105 n0 e0 zF
def vXn:=zJ 106 [.agg vM,.c .i] (.c .bool) (fun k d=>(mc (WL k) d)) (fun x=>(x,())) (fun d=>d.1)
theorem QI:zD prog vXn:=fA f106 ⟨[],[],[],false⟩ e0 zF
def yBg:zE:=sp [(0,.c (.dat false zG)),sI 1,sI 5] []
def yPv (f:qY0)(d:yBg.den):=f d.1.1.1 d.1.2.1.1 d.1.2.2.1.1
def qUl:zV:=⟨[yBg],[(.exit 0,ySw),(.ret,ySe)],(Unit⊕Int),fun k d=>yPv (EP k k) d,fun b x _ K=>match x with|.inl x=>K (.exit 0) (zM b ySw ((),()))|.inr x=>K .ret (zM b ySe (((x,()),()),()))⟩
def yMq:zZ:=⟨[],[(2,qUl)],[],false⟩
theorem aas:zU prog 1000 0 20 (zQ (zS f56) 0) qUl:=lp (A:=yMq) qUl (fun d=>match d with|.inl d=>.inl ()|.inr d=>.inr d.1.1.1) yPv EP ER e0 zF
def aat:=zJ 56 [.c (.dat false zG),.c .i] (.c .i) (fun k d=>mQ k d.1 d.2.1) (fun x=>(x,())) (fun d=>d.1)
theorem QJ:zD prog aat:=fA f56 yMq e0 (loops1 aas)
def aau:=zJ 107 [.c (.dat true zG),.c .i] (.tup [(false,[.fro zG]),(true,qa),(false,vD)]) (fun k d=>nQ k d.1 d.2.1) (fun x=>(P7 x ())) (fun d=>(P8 d))
theorem mf:zD prog aau:=fA f107 ⟨[],[],[],false⟩ (e1 QJ) zF
def vOe:=zJ 108 [.agg ka,.c .i] (.c .bool) (fun k d=>KF k (yZ d) d.2.2.2.2.2.1) (fun x=>(x,())) (fun d=>d.1)
theorem QK:zD prog vOe:=fA f108 n0 e0 zF
def vY8:=zJ 260 [.agg vM,.c .i] (.c .bool) (fun k d=>(mc (U2 k) d)) (fun x=>(x,())) (fun d=>d.1)
theorem yDv:zD prog vY8:=fA f260 ⟨[],[],[],false⟩ e0 zF
def yO4 (f:qZc)(d:yWy.den):=f d.1.1.1 d.1.2.1.1 d.1.2.2.2.1.1 d.2.1
def qKy:zV:=⟨[yWy],[(.exit 0,yTu)],Yy,fun k d=>yO4 (Js k k) d,fun b x _ K=>K (.exit 0) (zM b yTu (((),()),(x,())))⟩
def yOb:zZ:=⟨[],[(3,qKy)],[],false⟩
theorem vM9:zU prog 1000 0 27 (zQ (zS f227) 0) qKy:=lp (A:=yOb) qKy (fun d=>d.2.1) yO4 Js EH (e1 yDv) zF
def qL2:=zJ 227 [.c (.dat false zG),.c .i] (.c (.own zG)) (fun k d=>EG k d.1 d.2.1) (fun x=>(x,())) (fun d=>d.1)
theorem BY:zD prog qL2:=fA f227 yOb (e1 yDv) (loops1 vM9)
def yHo:zE:=sp [sO 5 0,sO 6 1,sI 7,sO 8 2,(9,.c .bool),sI 10] [oA zG,oA zG,oA zG]
def yQv:zE:=sp [sO 5 0,sO 6 1,sI 7,sO 8 2,(9,.c .bool)] [oA zG,oA zG,oA zG]
def yRu (f:qU4)(d:yHo.den):=f d.1.2.2.1.1 d.1.2.2.2.2.1.1 d.1.2.2.2.2.2.1.1 d.2.1 d.2.2.1 d.2.2.2.1
def qJ2:zV:=⟨[yHo],[(.exit 2,yQv)],qU3,fun k d=>yRu (EJ k k) d,fun b x _ K=>K (.exit 2) (zM b yQv (((),(),(x.1,()),(),(x.2.1,()),()),(x.2.2.1,x.2.2.2.1,x.2.2.2.2,())))⟩
def yK3:zE:=⟨[sO 5 0,sO 6 1,sI 7],[oA zG,oA zG],[(6,none,zG,false)]⟩
def ySp:zE:=sp [sO 6 0] [oA zG]
def vAh (f:qIm)(d:yK3.den):=f d.1.2.2.1.1 d.2.1 d.2.2.1
def qK9:zV:=⟨[yK3],[(.exit 0,ySp)],Yy,fun k d=>vAh (Jv k k) d,fun b x _ K=>K (.exit 0) (zM b ySp (((),()),(x,())))⟩
def aav:Env:=⟨prog,fun t=>[142].any (Nat.beq t),fj [qL2,qOl]⟩
theorem qYl:jL aav:=MW (l:=[qL2,qOl]) (eqT:=fun t=>[142].any (Nat.beq t)) (Sa (fun t h=>TC (p:=fun t=>prog.keyTypeAt 8 t&& !prog.eqGuardType prog.depth t) (l:=[142]) (List.forall_mem_cons.2 ⟨by kernel_rfl,List.forall_mem_nil _⟩) t h)) gO ⟨BY,yk,trivial⟩
def qZl:zZ:=⟨[],[(9,qJ2),(4,qK9)],[],false⟩
theorem vE2:zU prog 1000 0 61 (zQ (zQ (zS f285) 0) 0) qJ2:=lp (A:=qZl) qJ2 (fun d=>(d.1.2.2.1.1,d.1.2.2.2.2.1.1,d.2.1,d.2.2.1,d.2.2.2.1)) yRu EJ EK qYl zF
theorem vKh:zU prog 1000 0 61 (zQ (zS f285) 0) qK9:=lp (A:=qZl) qK9 (fun d=>d.2.1) vAh Jv EL qYl (loops1 vE2)
def vE9:=zJ 285 [.c (.dat false zG),.c .i] (.c (.own zG)) (fun k d=>Ju k d.1 d.2.1) (fun x=>(x,())) (fun d=>d.1)
theorem Lj:zD prog vE9:=fA f285 qZl qYl (loops1 vKh)
def vEb:=zJ 288 [.agg jO,.agg vM] (.c .bool) (fun k d=>(sJ (Uz k) d)) (fun x=>(x,())) (fun d=>d.1)
theorem yX2:zD prog vEb:=fA f288 ⟨[],[],[],false⟩ e0 zF
def yZy:zE:=sp [(1,.c (.dat false zG)),sP 2 0,sI 5] [oB jV]
def yG6:zE:=sp [(1,.c (.dat false zG))] []
def yNs (f:qX2)(d:yZy.den):=(vI (f d.1.1.1 d.1.2.2.1.1) d.2.1)
def qLg:zV:=⟨[yZy],[(.exit 0,yG6),(.ret,yO7)],qLt,fun k d=>yNs (I9 k k) d,fun b x _ K=>match x with|.inl x=>K (.exit 0) (zM b yG6 (((x,()),()),()))|.inr x=>K .ret (zM b yO7 (((x,()),()),()))⟩
def ySd:zZ:=⟨[],[(2,qLg)],[],false⟩
theorem aaw:zU prog 1000 0 22 (zQ (zS f261) 0) qLg:=lp (A:=ySd) qLg (fun d=>match d with|.inl d=>.inl d.1.1.1|.inr d=>.inr d.1.1.1) yNs I9 Ea (e1 yX2) zF
def vJe:=zJ 261 [.agg jO,.c (.dat false zG)] (.c .bool) (fun k d=>(ll (I8 k) d)) (fun x=>(x,())) (fun d=>d.1)
theorem QL:zD prog vJe:=fA f261 ySd (e1 yX2) (loops1 aaw)
def yJ9:zE:=⟨[(0,.c (.dat false (.sl .i))),sO 3 0,sI 4],[.mat],[(3,none,(.sl .i),true)]⟩
def yYy:zE:=sp [sO 3 0] [.mat]
def yRd (f:qIh)(d:yJ9.den):=f d.1.1.1 d.1.2.2.1.1 d.2.1
def qL1:zV:=⟨[yJ9],[(.exit 0,yYy)],EQ,fun k d=>yRd (IW k k) d,fun b x _ K=>K (.exit 0) (zM b yYy (((),()),(x,())))⟩
def yGi:zZ:=⟨[18,19],[(3,qL1)],[],false⟩
theorem vTc:zU prog 1000 0 21 (zQ (zS f219) 0) qL1:=lp (A:=yGi) qL1 (fun d=>d.2.1) yRd IW DX e0 zF
def vUa:=zJ 219 [.c (.dat false (.sl .i))] (.c (.mat)) (fun k d=>IX k d.1) (fun x=>(x,())) (fun d=>d.1)
theorem vNs:zD prog vUa:=fA f219 yGi e0 (loops1 vTc)
def vRw:=zJ 177 [.agg jO] (.agg [.own qW,.mat,.own .i,.mat]) (fun k d=>(vI (oM k) d)) (fun x=>(gP x ())) (fun d=>(fL d))
theorem yl:zD prog vRw:=fA f177 ⟨[],[],[],false⟩ (e1 vNs) zF
def yBe:zE:=sp [(0,.c (.dat false zG)),sI 1,sI 6,sI 7,sI 8] []
def yO3:zE:=sp [sI 6,sI 7] []
def yQi (f:qH7)(d:yBe.den):=f d.1.1.1 d.1.2.1.1 d.1.2.2.1.1 d.1.2.2.2.1.1 d.1.2.2.2.2.1.1
def qTf:zV:=⟨[yBe],[(.exit 0,yO3)],vU,fun k d=>yQi (Jc k k) d,fun b x _ K=>K (.exit 0) (zM b yO3 (((x.1,()),(x.2,()),()),()))⟩
def yHe:zZ:=⟨[],[(3,qTf)],[],false⟩
theorem vLz:zU prog 1000 0 46 (zQ (zS f289) 0) qTf:=lp (A:=yHe) qTf (fun d=>(d.1.1.1,d.1.2.1.1)) yQi Jc Ef e0 zF
def vH7:=zJ 289 [.c (.dat false zG),.c .i] (.tup [(false,vD),(false,vD)]) (fun k d=>Jb k d.1 d.2.1) (fun x=>(x.1,x.2,())) (fun d=>(d.1,d.2.1))
theorem qMo:zD prog vH7:=fA f289 yHe e0 (loops1 vLz)
def aax:=zJ 263 [.c (.dat false zG),.c .i] (.c .i) (fun k d=>NF k d.1 d.2.1) (fun x=>(x,())) (fun d=>d.1)
theorem qUe:zD prog aax:=fA f263 ⟨[],[],[],false⟩ (e1 qMo) zF
def aay:=zJ 262 [.agg nT,.c .i] (.c .i) (fun k d=>(vI (Jd k) d)) (fun x=>(x,())) (fun d=>d.1)
theorem Lk:zD prog aay:=fA f262 ⟨[],[],[],false⟩ e0 zF
def yYu:zE:=sp [(0,.c (.dat false zG)),sI 1,sI 2,sI 7,sI 8] []
def yFy:zE:=sp [sI 7] []
def yAm (f:qNs)(d:yYu.den):=f d.1.1.1 d.1.2.1.1 d.1.2.2.1.1 d.1.2.2.2.1.1 d.1.2.2.2.2.1.1
def qQc:zV:=⟨[yYu],[(.exit 0,yFy)],Int,fun k d=>yAm (Ja k k) d,fun b x _ K=>K (.exit 0) (zM b yFy (((x,()),()),()))⟩
def yUt:zZ:=⟨[],[(3,qQc)],[],false⟩
theorem vYr:zU prog 1000 0 39 (zQ (zS f290) 0) qQc:=lp (A:=yUt) qQc (fun d=>d.1.1.1) yAm Ja Ee e0 zF
def vUu:=zJ 290 [.c (.dat false zG),.c .i,.c .i] (.c .i) (fun k d=>xf k d.1 d.2.1 d.2.2.1) (fun x=>(x,())) (fun d=>d.1)
theorem qHz:zD prog vUu:=fA f290 yUt e0 (loops1 vYr)
def vJ7:=zJ 264 [.c (.dat false zG),.c .i,.c .i] (.c .i) (fun k d=>NC k d.1 d.2.1 d.2.2.1) (fun x=>(x,())) (fun d=>d.1)
theorem qRn:zD prog vJ7:=fA f264 ⟨[],[],[],false⟩ (e1 qHz) zF
def yF9:zE:=sp [(0,.c (.dat false (.sl .i))),sI 1,sI 5] []
def yFc (f:qLh)(d:yF9.den):=f d.1.1.1 d.1.2.1.1 d.1.2.2.1.1
def qUg:zV:=⟨[yF9],[(.exit 0,ySw),(.ret,yO7)],(Unit⊕Bool),fun k d=>yFc (IM k k) d,fun b x _ K=>match x with|.inl x=>K (.exit 0) (zM b ySw ((),()))|.inr x=>K .ret (zM b yO7 (((x,()),()),()))⟩
def yDg:zZ:=⟨[],[(4,qUg)],[],false⟩
theorem vKm:zU prog 1000 0 22 (zQ (zS f291) 0) qUg:=lp (A:=yDg) qUg (fun d=>match d with|.inl d=>.inl ()|.inr d=>.inr d.1.1.1) yFc IM DK e0 zF
def vLw:=zJ 291 [.c (.dat false (.sl .i)),.c .i] (.c .bool) (fun k d=>IL k d.1 d.2.1) (fun x=>(x,())) (fun d=>d.1)
theorem qR0:zD prog vLw:=fA f291 yDg e0 (loops1 vKm)
def vZ2:=zJ 222 [.agg nT] (.c .bool) (fun k d=>IJ k d.1 d.2.1 d.2.2.1) (fun x=>(x,())) (fun d=>d.1)
theorem QM:zD prog vZ2:=fA f222 ⟨[],[],[],false⟩ e0 zF
def vF4:=zJ 292 [.c .i] (.c .bool) (fun k d=>IK k d.1) (fun x=>(x,())) (fun d=>d.1)
theorem qQt:zD prog vF4:=fA f292 ⟨[],[],[],false⟩ e0 zF
def yFb:zE:=sp [sP 1 0,sI 3,sI 4,sI 5] [oB jV]
def yNw:zE:=sp [sP 1 0,sI 3,sI 4] [oB jV]
def yNa (f:qLs)(d:yFb.den):=(vI (f d.1.2.1.1 d.1.2.2.1.1 d.1.2.2.2.1.1) d.2.1)
def qRl:zV:=⟨[yFb],[(.exit 2,yNw),(.ret,yT4)],qO2,fun k d=>yNa (DL k k) d,fun b x _ K=>match x with|.inl x=>K (.exit 2) (zM b yNw (((),(x.1,()),(x.2.1,()),()),((Bt x ()),())))|.inr x=>K .ret (zM b yT4 (((x,()),()),()))⟩
def yIc (f:qOx)(d:yNw.den):=(vI (f d.1.2.1.1 d.1.2.2.1.1) d.2.1)
def qYj:zV:=⟨[yNw],[(.exit 0,ySw),(.ret,yT4)],(Unit⊕Bool),fun k d=>yIc (DN k k) d,fun b x _ K=>match x with|.inl x=>K (.exit 0) (zM b ySw ((),()))|.inr x=>K .ret (zM b yT4 (((x,()),()),()))⟩
def qVg:zZ:=⟨[],[(10,qRl),(5,qYj)],[],false⟩
theorem vHk:zU prog 1000 0 114 (zQ (zQ (zS f265) 0) 0) qRl:=lp (A:=qVg) qRl (fun d=>match d with|.inl d=>.inl (d.1.2.1.1,d.1.2.2.1.1,(fL d.2.1))|.inr d=>.inr d.1.1.1) yNa DL DM (e3 qR0 QM qQt) zF
theorem vMa:zU prog 1000 0 114 (zQ (zS f265) 0) qYj:=lp (A:=qVg) qYj (fun d=>match d with|.inl d=>.inl ()|.inr d=>.inr d.1.1.1) yIc DN DO (e3 qR0 QM qQt) (loops1 vHk)
def vJu:=zJ 265 [.agg jO] (.c .bool) (fun k d=>(vI (Nl k) d)) (fun x=>(x,())) (fun d=>d.1)
theorem qXv:zD prog vJu:=fA f265 qVg (e3 qR0 QM qQt) (loops1 vMa)
def yK5:zE:=sp [(1,.c (.dat false zG)),sP 2 0,sP 4 1,sP 6 2,sI 7,sI 8] [oB wB,oB nU,oB sK,oA qW,.mat,oA .i,.mat]
def yZw:zE:=sp [(1,.c (.dat false zG)),sP 2 0,sP 4 1,sP 6 2,sI 7] [oB wB,oB nU,oB sK,oA qW,.mat,oA .i,.mat]
def yGg (f:qTc)(d:yK5.den):=(vI (f d.1.1.1 d.1.2.2.2.2.1.1 d.1.2.2.2.2.2.1.1) d.2.1) d.2.2.2.2.1 d.2.2.2.2.2.1 d.2.2.2.2.2.2.1 d.2.2.2.2.2.2.2.1
def qJj:zV:=⟨[yK5],[(.exit 2,yZw)],qUo,fun k d=>yGg (Eg k k) d,fun b x _ K=>K (.exit 2) (zM b yZw (((x.1,()),(),(),(),(x.2.1,()),()),((P2 x ()),(),(),x.2.2.2.2.2.2.1,x.2.2.2.2.2.2.2.1,x.2.2.2.2.2.2.2.2.1,x.2.2.2.2.2.2.2.2.2,())))⟩
def yGn:zE:=sp [sP 2 0,sP 4 1,sP 6 2] [oB wB,oB nU,oB sK,oA qW,.mat,oA .i,.mat]
def yLe (f:qMz)(d:yZw.den):=(vI (f d.1.1.1 d.1.2.2.2.2.1.1) d.2.1) d.2.2.2.2.1 d.2.2.2.2.2.1 d.2.2.2.2.2.2.1 d.2.2.2.2.2.2.2.1
def qJa:zV:=⟨[yZw],[(.exit 0,yGn)],qKv,fun k d=>yLe (Ei k k) d,fun b x _ K=>K (.exit 0) (zM b yGn (((),(),(),()),((vX x ()),(),(),x.2.2.2.2.1,x.2.2.2.2.2.1,x.2.2.2.2.2.2.1,x.2.2.2.2.2.2.2,())))⟩
def qTy:zZ:=⟨[],[(9,qJj),(5,qJa)],[],false⟩
theorem vU8:zU prog 1000 0 84 (zQ (zQ (zS f228) 0) 0) qJj:=lp (A:=qTy) qJj (fun d=>(d.1.1.1,d.1.2.2.2.2.1.1,(vX d.2.1 (d.2.2.2.2.1,d.2.2.2.2.2.1,d.2.2.2.2.2.2.1,d.2.2.2.2.2.2.2.1)))) yGg Eg Eh (e6 QL yl qUe Lk qRn qXv) zF
theorem vP5:zU prog 1000 0 84 (zQ (zS f228) 0) qJa:=lp (A:=qTy) qJa (fun d=>(vX d.2.1 (d.2.2.2.2.1,d.2.2.2.2.2.1,d.2.2.2.2.2.2.1,d.2.2.2.2.2.2.2.1))) yLe Ei Ej (e6 QL yl qUe Lk qRn qXv) (loops1 vU8)
def vMd:=zJ 228 [.agg kR,.c (.dat false zG)] (.tup [(true,mY),(false,vD)]) (fun k d=>(ll (AT k) d)) (fun x=>(jE x ())) (fun d=>(yZ d))
theorem qI7:zD prog vMd:=fA f228 qTy (e6 QL yl qUe Lk qRn qXv) (loops1 vP5)
def yM0:zE:=sp [sI 1,sP 2 0,sI 5,sI 6] [oB jV]
def vAj (f:qKu)(d:yM0.den):=(vI (f d.1.1.1 d.1.2.2.1.1 d.1.2.2.2.1.1) d.2.1)
def qPn:zV:=⟨[yM0],[(.exit 0,yLu)],Int,fun k d=>vAj (Ek k k) d,fun b x _ K=>K (.exit 0) (zM b yLu (((x,()),()),()))⟩
def yEw:zZ:=⟨[],[(3,qPn)],[],false⟩
theorem vKi:zU prog 1000 0 28 (zQ (zS f301) 0) qPn:=lp (A:=yEw) qPn (fun d=>d.1.1.1) vAj Ek El e0 zF
def aaz:=zJ 301 [.agg jO,.c .i] (.c .i) (fun k d=>(ll (NI k) d)) (fun x=>(x,())) (fun d=>d.1)
theorem yP3:zD prog aaz:=fA f301 yEw e0 (loops1 vKi)
def yZt:zE:=sp [(1,.c (.dat false zG)),sI 2,sP 3 0,sI 7,sI 8,sI 9,sI 10,sI 11] [oB jV]
def yFe:zE:=sp [sI 2,sP 3 0,sI 7,sI 8,sI 9,sI 10] [oB jV]
def yVr (f:qS7)(d:yZt.den):=(vI (f d.1.1.1 d.1.2.1.1 d.1.2.2.2.1.1 d.1.2.2.2.2.1.1 d.1.2.2.2.2.2.1.1 d.1.2.2.2.2.2.2.1.1 d.1.2.2.2.2.2.2.2.1.1) d.2.1)
def qQe:zV:=⟨[yZt],[(.exit 0,yFe),(.ret,yH8)],qTd,fun k d=>yVr (sk k k) d,fun b x _ K=>match x with|.inl x=>K (.exit 0) (zM b yFe (((x.1,()),(),(x.2.1,()),(x.2.2.1,()),(x.2.2.2.1,()),(x.2.2.2.2.1,()),()),((aaA x ()),())))|.inr x=>K .ret (zM b yH8 (((x,()),()),()))⟩
def yUv:zZ:=⟨[],[(7,qQe)],[],false⟩
theorem vPl:zU prog 1000 0 130 (zQ (zS f287) 0) qQe:=lp (A:=yUv) qQe (fun d=>match d with|.inl d=>.inl (d.1.1.1,d.1.2.2.1.1,d.1.2.2.2.1.1,d.1.2.2.2.2.1.1,d.1.2.2.2.2.2.1.1,(fL d.2.1))|.inr d=>.inr d.1.1.1) yVr sk En (e4 qMo yP3 qHz Lk) zF
def vJl:=zJ 287 [.agg jO,.c (.dat false zG),.c .i] (.c .bool) (fun k d=>(ke (NM k) d)) (fun x=>(x,())) (fun d=>d.1)
theorem yPe:zD prog vJl:=fA f287 yUv (e4 qMo yP3 qHz Lk) (loops1 vPl)
def yP6:zE:=⟨[(1,.c (.dat false zG)),sP 2 0,sO 5 1,sI 6],[oB jV,oA .i],[(5,none,.i,false)]⟩
def vB2 (f:qH8)(d:yP6.den):=(vI (f d.1.1.1 d.1.2.2.2.1.1) d.2.1) d.2.2.1
def qP0:zV:=⟨[yP6],[(.exit 0,yAb)],AC,fun k d=>vB2 (uf k k) d,fun b x _ K=>K (.exit 0) (zM b yAb (((),()),(x,())))⟩
def yT7:zZ:=⟨[],[(3,qP0)],[],false⟩
theorem vQ7:zU prog 1000 0 23 (zQ (zS f259) 0) qP0:=lp (A:=yT7) qP0 (fun d=>d.2.1) vB2 uf sm (e1 yPe) zF
def vZj:=zJ 259 [.agg jO,.c (.dat false zG)] (.c (.own .i)) (fun k d=>(ll (ue k) d)) (fun x=>(x,())) (fun d=>d.1)
theorem Ll:zD prog vZj:=fA f259 yT7 (e1 yPe) (loops1 vQ7)
def vVu:=zJ 286 [.agg jO,.c (.dat false zG)] (.c .bool) (fun k d=>(ll (Jf k) d)) (fun x=>(x,())) (fun d=>d.1)
theorem vKk:zD prog vVu:=fA f286 ⟨[],[],[],false⟩ (e2 QL Ll) zF
def vC8:=zJ 257 [.agg kR,.c (.dat false zG)] (.tup [(true,mY),(false,[.bool])]) (fun k d=>(ll (uI k) d)) (fun x=>(jE x ())) (fun d=>(yZ d))
theorem uR:zD prog vC8:=fA f257 ⟨[],[],[],false⟩ (e2 qI7 vKk) zF
def yAj:zE:=sp [sP 3 0,sP 6 1,sO 8 2,sI 9] [oB wB,oB wS,oA zG]
def yDo:zE:=sp [sP 6 0] [oB wS]
def yKm:zE:=sp [sP 6 0,(7,.c .bool)] [oB wS]
def yPn (f:qNx)(d:yAj.den):=(me (vI (f d.1.2.2.2.1.1) d.2.1) d.2.2.1) d.2.2.2.1
def qV7:zV:=⟨[yAj],[(.exit 0,yDo),(.ret,yKm)],qWi,fun k d=>yPn (Kv k k) d,fun b x _ K=>match x with|.inl x=>K (.exit 0) (zM b yDo (((),()),((iw x ()),())))|.inr x=>K .ret (zM b yKm (((),(x.1,()),()),((yS8 x ()),())))⟩
def yUa:zZ:=⟨[],[(3,qV7)],[],false⟩
theorem vYj:zU prog 1000 0 37 (zQ (zS f256) 0) qV7:=lp (A:=yUa) qV7 (fun d=>match d with|.inl d=>.inl (wM d.2.1)|.inr d=>.inr (d.1.2.1.1,(wM d.2.1))) yPn Kv Gh (e2 Lj uR) zF
def vWj:=zJ 256 [.agg kR,.c (.dat true zG),.c .i] (.tup [(true,qa),(false,[.bool])]) (fun k d=>(ke (Pg k) d)) (fun x=>(GZ x ())) (fun d=>(qb d))
theorem yOs:zD prog vWj:=fA f256 yUa (e2 Lj uR) (loops1 vYj)
def yVx:zE:=⟨[(1,.c (.dat true zG)),sI 2,sP 3 0,sP 6 1,sO 9 2],[oB wB,oB nU,oA zG],[(9,none,zG,false)]⟩
def yWj (f:qYc)(d:yVx.den):=(vI (f d.1.1.1 d.1.2.1.1) d.2.1) d.2.2.2.1
def qPw:zV:=⟨[yVx],[(.ret,ySi)],qV6,fun k d=>yWj (Kw k k) d,fun b x _ K=>K .ret (zM b ySi (((),(x.1,()),(),()),((iy x ()),x.2.2.2.2.2,())))⟩
def yTo:zZ:=⟨[],[(2,qPw)],[],false⟩
theorem vJc:zU prog 1000 0 43 (zQ (zS f223) 0) qPw:=lp (A:=yTo) qPw (fun d=>(d.1.2.1.1,(vX d.2.1 d.2.2.1))) yWj Kw Gj (e3 yOs uR mf) zF
def vOl:=zJ 223 [.agg kR,.c (.dat true zG),.c .i] (.tup [(true,mY),(false,[.fro zG]),(false,[.own zG])]) (fun k d=>(ke (Ph k) d)) (fun x=>(nV x ())) (fun d=>(mZ d))
theorem vAp:zD prog vOl:=fA f223 yTo (e3 yOs uR mf) (loops1 vJc)
def yXf:zE:=sp [sP 3 0,sP 6 1,sP 7 2,sO 9 3,sI 10,sI 11] [oB wB,oB wS,oB wS,oA zG]
def ySa:zE:=sp [sP 3 0,sP 6 1,sP 7 2,sO 9 3,sI 10] [oB wB,oB wS,oB wS,oA zG]
def yQ7:zE:=sp [sP 6 0,sP 7 1,(8,.c .bool)] [oB wS,oB wS]
def vAf (f:qNn)(d:yXf.den):=(me (me (vI (f d.1.2.2.2.2.1.1 d.1.2.2.2.2.2.1.1) d.2.1) d.2.2.1) d.2.2.2.1) d.2.2.2.2.1
def qH9:zV:=⟨[yXf],[(.exit 2,ySa),(.ret,yQ7)],qZj,fun k d=>vAf (Ky k k) d,fun b x _ K=>match x with|.inl x=>K (.exit 2) (zM b ySa (((),(),(),(),(x.1,()),()),((iy x ()),(vVs x ()),(vCn x ()),x.2.2.2.2.2.2.2.2.2.2.2.2.2.2.2.2.2.2.2,())))|.inr x=>K .ret (zM b yQ7 (((),(),(x.1,()),()),((qYs x ()),(yO6 x ()),())))⟩
def yUw:zE:=sp [sP 6 0,sP 7 1] [oB wS,oB wS]
def yZ9 (f:qHw)(d:ySa.den):=(me (me (vI (f d.1.2.2.2.2.1.1) d.2.1) d.2.2.1) d.2.2.2.1) d.2.2.2.2.1
def qMv:zV:=⟨[ySa],[(.exit 0,yUw),(.ret,yQ7)],qZm,fun k d=>yZ9 (Kz k k) d,fun b x _ K=>match x with|.inl x=>K (.exit 0) (zM b yUw (((),(),()),((j6 x ()),(yJh x ()),())))|.inr x=>K .ret (zM b yQ7 (((),(),(x.1,()),()),((qYs x ()),(yO6 x ()),())))⟩
def qSm:zZ:=⟨[],[(6,qH9),(3,qMv)],[],false⟩
theorem vNm:zU prog 1000 0 71 (zQ (zQ (zS f258) 0) 0) qH9:=lp (A:=qSm) qH9 (fun d=>match d with|.inl d=>.inl (d.1.2.2.2.2.1.1,(vX d.2.1 (j6 d.2.2.1 (j6 d.2.2.2.1 d.2.2.2.2.1))))|.inr d=>.inr (d.1.2.2.1.1,(j6 d.2.1 (wM d.2.2.1)))) vAf Ky Gk (e2 Lj uR) zF
theorem vGv:zU prog 1000 0 71 (zQ (zS f258) 0) qMv:=lp (A:=qSm) qMv (fun d=>match d with|.inl d=>.inl (j6 d.2.1 (wM d.2.2.1))|.inr d=>.inr (d.1.2.2.1.1,(j6 d.2.1 (wM d.2.2.1)))) yZ9 Kz Gl (e2 Lj uR) (loops1 vNm)
def vL1:=zJ 258 [.agg kR,.c (.dat true zG),.c .i] (.tup [(true,qa),(true,qa),(false,[.bool])]) (fun k d=>(ke (Pj k) d)) (fun x=>(vBu x ())) (fun d=>(yGd d))
theorem yVl:zD prog vL1:=fA f258 qSm (e2 Lj uR) (loops1 vGv)
def yTk (f:qYc)(d:yVx.den):=(vI (f d.1.1.1 d.1.2.1.1) d.2.1) d.2.2.2.1
def qV9:zV:=⟨[yVx],[(.ret,ySi)],qV6,fun k d=>yTk (KA k k) d,fun b x _ K=>K .ret (zM b ySi (((),(x.1,()),(),()),((iy x ()),x.2.2.2.2.2,())))⟩
def yPr:zZ:=⟨[],[(2,qV9)],[],false⟩
theorem vO1:zU prog 1000 0 55 (zQ (zS f224) 0) qV9:=lp (A:=yPr) qV9 (fun d=>(d.1.2.1.1,(vX d.2.1 d.2.2.1))) yTk KA Gm (e3 yVl uR mf) zF
def aaB:=zJ 224 [.agg kR,.c (.dat true zG),.c .i] (.tup [(true,mY),(false,[.fro zG]),(false,[.own zG])]) (fun k d=>(ke (Pk k) d)) (fun x=>(nV x ())) (fun d=>(mZ d))
theorem yYw:zD prog aaB:=fA f224 yPr (e3 yVl uR mf) (loops1 vO1)
def yEu (f:qYc)(d:yVx.den):=(vI (f d.1.1.1 d.1.2.1.1) d.2.1) d.2.2.2.1
def qJ6:zV:=⟨[yVx],[(.ret,ySi)],qV6,fun k d=>yEu (KD k k) d,fun b x _ K=>K .ret (zM b ySi (((),(x.1,()),(),()),((iy x ()),x.2.2.2.2.2,())))⟩
def yIv:zZ:=⟨[],[(2,qJ6)],[],false⟩
theorem vCm:zU prog 1000 0 45 (zQ (zS f181) 0) qJ6:=lp (A:=yIv) qJ6 (fun d=>(d.1.2.1.1,(vX d.2.1 d.2.2.1))) yEu KD Gw (e2 vAp yYw) zF
def vPk:=zJ 181 [.agg kR,.c (.dat true zG),.c .i] (.tup [(true,mY),(false,[.fro zG]),(false,[.own zG])]) (fun k d=>(ke (KE k) d)) (fun x=>(nV x ())) (fun d=>(mZ d))
theorem vWn:zD prog vPk:=fA f181 yIv (e2 vAp yYw) (loops1 vCm)
def yFs:zE:=⟨[(0,.c (.dat false zG)),(1,.c (.dat false .i)),sO 5 0,sI 6],[oA zG],[(5,none,zG,false)]⟩
def yVg (f:qXr)(d:yFs.den):=f d.1.1.1 d.1.2.1.1 d.1.2.2.2.1.1 d.2.1
def qW9:zV:=⟨[yFs],[(.exit 0,yTu)],Yy,fun k d=>yVg (Gp k k) d,fun b x _ K=>K (.exit 0) (zM b yTu (((),()),(x,())))⟩
def yB8:zZ:=⟨[],[(3,qW9)],[],false⟩
theorem vZb:zU prog 1000 0 60 (zQ (zS f226) 0) qW9:=lp (A:=yB8) qW9 (fun d=>d.2.1) yVg Gp Gq (e1 yk) zF
def vRv:=zJ 226 [.c (.dat false zG),.c (.dat false .i)] (.c (.own zG)) (fun k d=>Gn k d.1 d.2.1) (fun x=>(x,())) (fun d=>d.1)
theorem G8:zD prog vRv:=fA f226 yB8 (e1 yk) (loops1 vZb)
def yJ2:zE:=⟨[sP 3 0,sO 8 1,sO 9 2,sI 10],[oB jV,oA zG,oA .i],[(9,none,.i,false)]⟩
def yOr:zE:=sp [sP 3 0,sO 8 1,sO 9 2] [oB jV,oA zG,oA .i]
def yAp (f:qRf)(d:yJ2.den):=(vI (f d.1.2.2.2.1.1) d.2.1) d.2.2.1 d.2.2.2.1
def QN:zV:=⟨[yJ2],[(.exit 0,yOr)],qOe,fun k d=>yAp (Bz k k) d,fun b x _ K=>K (.exit 0) (zM b yOr (((),(),(),()),((vX x ()),x.2.2.2.2.1,x.2.2.2.2.2,())))⟩
def yKc:zE:=sp [sP 3 0,sO 8 1,sO 9 2,sI 11,sO 12 3,sI 13] [oB jV,oA zG,oA .i,oA .i]
def yTd:zE:=sp [sP 3 0,sO 8 1,sO 9 2,sI 11] [oB jV,oA zG,oA .i]
def yOk (f:qIe)(d:yKc.den):=(vI (f d.1.2.2.2.1.1 d.1.2.2.2.2.2.1.1) d.2.1) d.2.2.1 d.2.2.2.1 d.2.2.2.2.1
def qOf:zV:=⟨[yKc],[(.exit 4,yTd)],qPb,fun k d=>yOk (Gs k k) d,fun b x _ K=>K (.exit 4) (zM b yTd (((),(),(),(x.1,()),()),((iy x ()),x.2.2.2.2.2.1,x.2.2.2.2.2.2,())))⟩
def yZg (f:qPy)(d:yTd.den):=(vI (f d.1.2.2.2.1.1) d.2.1) d.2.2.1 d.2.2.2.1
def QO:zV:=⟨[yTd],[(.ret,yW7)],(Int×AC),fun k d=>yZg (KB k k) d,fun b x _ K=>K .ret (zM b yW7 (((),(x.1,()),()),(x.2,())))⟩
def QP:zZ:=⟨[],[(4,QN),(13,qOf),(9,QO)],[],false⟩
theorem vJb:zU prog 1000 0 58 (zQ (zS f225) 0) QN:=lp (A:=QP) QN (fun d=>(vX d.2.1 (d.2.2.1,d.2.2.2.1))) yAp Bz Gr (e4 BY yk G8 Ll) zF
theorem vCv:zU prog 1000 0 58 (zQ (zQ (zS f225) 1) 0) qOf:=lp (A:=QP) qOf (fun d=>(d.1.2.2.2.1.1,(vX d.2.1 (d.2.2.1,d.2.2.2.1)))) yOk Gs Gt (e4 BY yk G8 Ll) zF
theorem vLn:zU prog 1000 0 58 (zQ (zS f225) 1) QO:=lp (A:=QP) QO (fun d=>(d.1.2.1.1,d.2.1)) yZg KB Gu (e4 BY yk G8 Ll) (loops1 vCv)
def vV5:=zJ 225 [.agg jO,.c (.dat false zG),.c .i] (.tup [(false,[.own .i]),(false,vD)]) (fun k d=>(ke (Pl k) d)) (fun x=>(x.1,x.2,())) (fun d=>(d.1,d.2.1))
theorem yPd:zD prog vV5:=fA f225 QP (e4 BY yk G8 Ll) (oG (n:=2) (by kernel_rfl) fun i hi=>match i,hi with|0,_=>⟨QN,by kernel_rfl,vJb⟩|1,_=>⟨QO,by kernel_rfl,vLn⟩|i+2,hi=>absurd hi (by omega))
def yAv:zE:=sp [(1,.c (.dat true zG)),sP 6 0,sO 11 1,sP 12 2,sI 14] [oB nU,oA zG,oB wB]
def yWl:zE:=sp [(1,.c (.dat true zG)),sP 6 0,sO 11 1,sP 12 2] [oB nU,oA zG,oB wB]
def yG5 (f:qXa)(d:yAv.den):=(vI (f d.1.1.1 d.1.2.2.2.2.1.1 d.2.2.1) d.2.2.2.1)
def qK3:zV:=⟨[yAv],[(.exit 0,yWl)],qTq,fun k d=>yG5 (BA k k) d,fun b x _ K=>K (.exit 0) (zM b yWl (((x.1,()),(),(),(),()),((),x.2.1,(Bt x ()),())))⟩
def yZd:zZ:=⟨[],[(7,qK3)],[],false⟩
theorem vJ9:zU prog 1000 0 57 (zQ (zS f182) 0) qK3:=lp (A:=yZd) qK3 (fun d=>(d.1.1.1,d.2.2.1,(fL d.2.2.2.1))) yG5 BA Gv (e5 yPd BY G8 qI7 mf) zF
def vO7:=zJ 182 [.agg kR,.c (.dat true zG),.c .i] (.tup [(true,mY),(false,[.fro zG]),(false,[.own zG])]) (fun k d=>(ke (KC k) d)) (fun x=>(nV x ())) (fun d=>(mZ d))
theorem vMl:zD prog vO7:=fA f182 yZd (e5 yPd BY G8 qI7 mf) (loops1 vJ9)
def vKd:=zJ 115 [.agg kR,.c (.dat true zG),.c .i,.c .bool] (.tup [(true,mY),(false,[.fro zG]),(false,[.own zG])]) (fun k d=>(me (Pm k) d)) (fun x=>(nV x ())) (fun d=>(mZ d))
theorem vQy:zD prog vKd:=fA f115 ⟨[],[],[],false⟩ (e2 vWn vMl) zF
def yHt:zE:=⟨[(0,.c (.dat false zG)),sO 3 0,sI 4],[oA yR],[(3,none,yR,false)]⟩
def yR5 (f:qZe)(d:yHt.den):=f d.1.1.1 d.1.2.2.1.1 d.2.1
def qO7:zV:=⟨[yHt],[(.exit 0,yT0)],qHv,fun k d=>yR5 (J0 k k) d,fun b x _ K=>K (.exit 0) (zM b yT0 (((),()),(x,())))⟩
def yEb:zZ:=⟨[],[(3,qO7)],[],false⟩
theorem vUl:zU prog 1000 0 39 (zQ (zS f116) 0) qO7:=lp (A:=yEb) qO7 (fun d=>d.2.1) yR5 J0 FB (e1 uQ) zF
def vW7:=zJ 116 [.c (.dat false zG)] (.c (.own yR)) (fun k d=>Oz k d.1) (fun x=>(x,())) (fun d=>d.1)
theorem vFv:zD prog vW7:=fA f116 yEb (e1 uQ) (loops1 vUl)
def vF9:=zJ 55 [.agg ya,.c .bool] (.tup [(true,yc),(false,[.own yR])]) (fun k d=>(Lf (nR k) d)) (fun x=>(G5 x ())) (fun d=>(G6 d))
theorem Lm:zD prog vF9:=fA f55 ⟨[],[],[],false⟩ (e2 vQy vFv) zF
def yE8:zE:=⟨[sP 3 0,sP 4 1,sO 6 2,(7,.c (.dat true zG)),sI 8],[oB gu,oB fw,oA yR],[(6,none,yR,false)]⟩
def yIg:zE:=sp [sP 3 0,sP 4 1,sO 6 2] [oB gu,oB fw,oA yR]
def vBg (f:qQ7)(d:yE8.den):=f d.1.2.2.2.1.1 d.1.2.2.2.2.1.1 (qQ d.2.1) (d.2.2.1.1,d.2.2.1.2.1,d.2.2.1.2.2.1) d.2.2.2.1
def QQ:zV:=⟨[yE8],[(.exit 0,yIg)],qUd,fun k d=>vBg (xP k k) d,fun b x _ K=>K (.exit 0) (zM b yIg (((),(),(),()),((wP x.1 ()),(x.2.1.1,x.2.1.2.1,x.2.1.2.2,()),x.2.2,())))⟩
def yEk:zE:=sp [sP 3 0,sP 4 1,sO 6 2,sI 9] [oB gu,oB fw,oA yR]
def yQ2 (f:qOz)(d:yEk.den):=f d.1.2.2.2.1.1 (qQ d.2.1) (d.2.2.1.1,d.2.2.1.2.1,d.2.2.1.2.2.1) d.2.2.2.1
def QR:zV:=⟨[yEk],[(.exit 2,yIg)],qUd,fun k d=>yQ2 (xQ k k) d,fun b x _ K=>K (.exit 2) (zM b yIg (((),(),(),()),((wP x.1 ()),(x.2.1.1,x.2.1.2.1,x.2.1.2.2,()),x.2.2,())))⟩
def vAw:zE:=⟨[sP 2 0,sP 3 1,sP 4 2,sO 6 3,(7,.c (.dat true zG)),sI 10],[oB Qv,oB gu,oB fw,oA yR],[(6,none,yR,false)]⟩
def yXt:zE:=sp [sP 2 0,sP 3 1,sP 4 2,sO 6 3] [oB Qv,oB gu,oB fw,oA yR]
def yEv (f:qLv)(d:vAw.den):=f d.1.2.2.2.2.1.1 d.1.2.2.2.2.2.1.1 (yZ d.2.1) (qQ d.2.2.1) (d.2.2.2.1.1,d.2.2.2.1.2.1,d.2.2.2.1.2.2.1) d.2.2.2.2.1
def QS:zV:=⟨[vAw],[(.exit 4,yXt)],qZp,fun k d=>yEv (uJ k k) d,fun b x _ K=>K (.exit 4) (zM b yXt (((),(),(),(),()),((jE x.1 ()),(wP x.2.1 ()),(x.2.2.1.1,x.2.2.1.2.1,x.2.2.1.2.2,()),x.2.2.2,())))⟩
def QT:zZ:=⟨[],[(8,QQ),(12,QR),(18,QS)],[],true⟩
theorem vFw:zU prog 1000 0 129 (zQ (zS f53) 0) QQ:=lp (A:=QT) QQ (fun d=>((qQ d.2.1),(d.2.2.1.1,d.2.2.1.2.1,d.2.2.1.2.2.1),d.2.2.2.1)) vBg xP Gx (e6 QH uQ QI mf QK Lm) zF
theorem vK2:zU prog 1000 0 129 (zQ (zS f53) 1) QR:=lp (A:=QT) QR (fun d=>((qQ d.2.1),(d.2.2.1.1,d.2.2.1.2.1,d.2.2.1.2.2.1),d.2.2.2.1)) yQ2 xQ Gy (e6 QH uQ QI mf QK Lm) zF
theorem aaC:zU prog 1000 0 129 (zQ (zS f53) 2) QS:=lp (A:=QT) QS (fun d=>((yZ d.2.1),(qQ d.2.2.1),(d.2.2.2.1.1,d.2.2.2.1.2.1,d.2.2.2.1.2.2.1),d.2.2.2.2.1)) yEv uJ Gz (e6 QH uQ QI mf QK Lm) zF
def vCo:=zJ 53 [.agg Qq,.agg ya] (.tup [(true,yc),(false,[.own yR])]) (fun k d=>GA k (yZ d) (pX d)) (fun x=>(wP x.1 (x.2,()))) (fun d=>((qQ d),d.2.2.2.2.2.2.2.2.2.2.2.1))
theorem aaD:zD prog vCo:=fA f53 QT (e6 QH uQ QI mf QK Lm) (oG (n:=3) (by kernel_rfl) fun i hi=>match i,hi with|0,_=>⟨QQ,by kernel_rfl,vFw⟩|1,_=>⟨QR,by kernel_rfl,vK2⟩|2,_=>⟨QS,by kernel_rfl,aaC⟩|i+3,hi=>absurd hi (by omega))
def vOu:=zJ 168 [.ptr yCy,.c .i] (.c .i) (fun k d=>uF k (Qk d) d.2.2.2.2.2.2.2.2.2.2.2.2.2.2.2.2.2.2.2.1) (fun x=>(x,())) (fun d=>d.1)
theorem qM5:zD prog vOu:=fA f168 n0 e0 zF
def vI4:=zJ 175 [.agg ka,.c .i,.c .i] (.c .i) (fun k d=>Gd k (yZ d) d.2.2.2.2.2.1 d.2.2.2.2.2.2.1) (fun x=>(x,())) (fun d=>d.1)
theorem yIp:zD prog vI4:=fA f175 n0 e0 zF
def vLf:=zJ 169 [.agg ka,.c .i,.agg vM] (.c .i) (fun k d=>Bv k (yZ d) d.2.2.2.2.2.1 (YB d)) (fun x=>(x,())) (fun d=>d.1)
theorem vFc:zD prog vLf:=fA f169 n0 (e1 yIp) zF
def yS3:zE:=sp [(0,.c (.dat false .i)),sI 1,sI 5] []
def yC8 (f:Yt)(d:yS3.den):=f d.1.1.1 d.1.2.1.1 d.1.2.2.1.1
def qOc:zV:=⟨[yS3],[(.exit 0,ySw),(.ret,yO7)],(Unit⊕Bool),fun k d=>yC8 (F2 k k) d,fun b x _ K=>match x with|.inl x=>K (.exit 0) (zM b ySw ((),()))|.inr x=>K .ret (zM b yO7 (((x,()),()),()))⟩
def yO2:zZ:=⟨[],[(2,qOc)],[],true⟩
theorem vEj:zU prog 1000 0 18 (zQ (zS f215) 0) qOc:=lp (A:=yO2) qOc (fun d=>match d with|.inl d=>.inl ()|.inr d=>.inr d.1.1.1) yC8 F2 F3 e0 zF
def aaE:=zJ 215 [.c (.dat false .i),.c .i] (.c .bool) (fun k d=>O5 k d.1 d.2.1) (fun x=>(x,())) (fun d=>d.1)
theorem yLn:zD prog aaE:=fA f215 yO2 e0 (loops1 vEj)
def yOx:zE:=sp [(0,.c (.dat true .i)),sI 1,sI 6] []
def yT3 (f:qNz)(d:yOx.den):=f d.1.1.1 d.1.2.1.1 d.1.2.2.1.1
def qLd:zV:=⟨[yOx],[(.exit 0,yOx)],(AC×Int×Int),fun k d=>yT3 (Kp k k) d,fun b x _ K=>K (.exit 0) (zM b yOx (((x.1,()),(x.2.1,()),(x.2.2,()),()),()))⟩
def yWe:zZ:=⟨[],[(6,qLd)],[],true⟩
theorem vB9:zU prog 1000 0 41 (zQ (zS f170) 0) qLd:=lp (A:=yWe) qLd (fun d=>(d.1.1.1,d.1.2.1.1,d.1.2.2.1.1)) yT3 Kp F4 (e1 yLn) zF
def vJa:=zJ 170 [.c (.dat true .i),.c .i] (.tup [(false,[.fro .i]),(false,vD)]) (fun k d=>Bp k d.1 d.2.1) (fun x=>(x.1,x.2,())) (fun d=>(d.1,d.2.1))
theorem vTz:zD prog vJa:=fA f170 yWe (e1 yLn) (loops1 vB9)
def vYk:=zJ 218 [.agg vM,.agg vM] (.c .bool) (fun k d=>(G0 (Ki k) d)) (fun x=>(x,())) (fun d=>d.1)
theorem QU:zD prog vYk:=fA f218 ⟨[],[],[],false⟩ e0 zF
def yAl:zE:=sp [(0,.c (.dat false zG)),sP 3 0,sI 5] [oB wS]
def yK6 (f:qKi)(d:yAl.den):=(me (f d.1.1.1 d.1.2.2.1.1) d.2.1)
def qU9:zV:=⟨[yAl],[(.exit 0,yLu)],Int,fun k d=>yK6 (FZ k k) d,fun b x _ K=>K (.exit 0) (zM b yLu (((x,()),()),()))⟩
def ySs:zZ:=⟨[],[(2,qU9)],[],false⟩
theorem vEn:zU prog 1000 0 21 (zQ (zS f217) 0) qU9:=lp (A:=ySs) qU9 (fun d=>d.1.1.1) yK6 FZ F0 (e1 QU) zF
def vLp:=zJ 217 [.c (.dat false zG),.agg vM] (.c .i) (fun k d=>(mc (FY k) d)) (fun x=>(x,())) (fun d=>d.1)
theorem qY8:zD prog vLp:=fA f217 ySs (e1 QU) (loops1 vEn)
def aaF:=zJ 216 [.c (.dat false zG),.c .i,.agg vM] (.c (.own zG)) (fun k d=>(Qg (Bn k) d)) (fun x=>(x,())) (fun d=>d.1)
theorem Ln:zD prog aaF:=fA f216 ⟨[],[],[],false⟩ e0 zF
def vIn:=zJ 171 [.c (.dat true zG),.agg vM] (.tup [(false,[.fro zG]),(false,vD)]) (fun k d=>(mc (Bo k) d)) (fun x=>(x.1,x.2,())) (fun d=>(d.1,d.2.1))
theorem vH4:zD prog vIn:=fA f171 ⟨[],[],[],false⟩ (e3 QJ qY8 Ln) zF
def aaG:=yM 109 [.ptr true BZ,.agg La] (.c .i) [B1] 0 (fun k d=>Pc k (yE d d.2.2.2.2.2.2.2.2.2.2.2.2.2.2.2.2.2.2.1) (vIu d)) (fun x=>(x.1,(yj x.2 ()))) (fun d=>(d.1,(B2 d)))
theorem vEy:zD prog aaG:=fX f109 n0 1 (e4 qM5 vFc vTz vH4) zF
def vKy:=zJ 172 [.ptr yCy,.c .i] (.tup [(true,qa),(false,[.bool])]) (fun k d=>yNu k (Qk d) d.2.2.2.2.2.2.2.2.2.2.2.2.2.2.2.2.2.2.2.1) (fun x=>(iw x.1 (x.2,()))) (fun d=>((wM d),d.2.2.2.2.2.2.2.1))
theorem vCt:zD prog vKy:=fA f172 n0 (e1 QJ) zF
def yCg:zE:=sp [(6,.c (.dat true zG)),sP 7 0,sI 9] [oB wS]
def yWq (f:YR)(d:yCg.den):=f d.1.1.1 d.1.2.2.1.1 (wM d.2.1)
def qUk:zV:=⟨[yCg],[(.exit 0,yCg)],YT,fun k d=>yWq (Ko k k) d,fun b x _ K=>K (.exit 0) (zM b yCg (((x.1,()),(),(x.2.1,()),()),((iw x.2.2 ()),())))⟩
def yCs:zZ:=⟨[],[(5,qUk)],[],true⟩
theorem vHn:zU prog 1000 0 40 (zQ (zS f173) 0) qUk:=lp (A:=yCs) qUk (fun d=>(d.1.1.1,d.1.2.2.1.1,(wM d.2.1))) yWq Ko F1 (e3 mf QU Ln) zF
def vH5:=zJ 173 [.c (.dat true zG),.c .i] (.tup [(false,[.fro zG]),(false,vD)]) (fun k d=>Kn k d.1 d.2.1) (fun x=>(x.1,x.2,())) (fun d=>(d.1,d.2.1))
theorem vYe:zD prog vH5:=fA f173 yCs (e3 mf QU Ln) (loops1 vHn)
def aaH:=zJ 174 [.c (.dat true zG),.c .i] (.tup [(false,[.fro zG]),(false,vD)]) (fun k d=>Km k d.1 d.2.1) (fun x=>(x.1,x.2,())) (fun d=>(d.1,d.2.1))
theorem vTh:zD prog aaH:=fA f174 n0 (e3 mf qY8 Ln) zF
def vGt:=zJ 176 [.c (.dat true zG),.c .i,.c .i] (.tup [(false,[.fro zG]),(false,vD)]) (fun k d=>Kl k d.1 d.2.1 d.2.2.1) (fun x=>(x.1,x.2,())) (fun d=>(d.1,d.2.1))
theorem vWy:zD prog vGt:=fA f176 n0 (e3 mf qY8 Ln) zF
def vDk:=yM 110 [.ptr true BZ,.c (.p .i),.agg La] (.c .i) [B1] 0 (fun k d=>Bx k (yE d d.2.2.2.2.2.2.2.2.2.2.2.2.2.2.2.2.2.2.1) d.2.2.2.2.2.2.2.2.2.2.2.2.2.2.2.2.2.2.2.1 (yYk d)) (fun x=>(x.1,(yj x.2 ()))) (fun d=>(d.1,(B2 d)))
theorem vHv:zD prog vDk:=fX f110 n0 1 (e7 vCt mf uQ vYe vTh yIp vWy) zF
def vXj:=yM 111 [.ptr true BZ,.c (.p .i),.agg La] (.c .i) [B1] 0 (fun k d=>By k (yE d d.2.2.2.2.2.2.2.2.2.2.2.2.2.2.2.2.2.2.1) d.2.2.2.2.2.2.2.2.2.2.2.2.2.2.2.2.2.2.2.1 (yYk d)) (fun x=>(x.1,(yj x.2 ()))) (fun d=>(d.1,(B2 d)))
theorem vNv:zD prog vXj:=fX f111 n0 1 (e2 yl qM5) zF
def vOq:=zJ 178 [.c (.dat false .i),.c .i,.c .i] (.c (.own .i)) (fun k d=>uG k d.1 d.2.1 d.2.2.1) (fun x=>(x,())) (fun d=>d.1)
theorem qXq:zD prog vOq:=fA f178 n0 e0 zF
def vCe:=zJ 283 [.c .i] (.c (.own .i)) (fun k d=>OX k d.1) (fun x=>(x,())) (fun d=>d.1)
theorem qJb:zD prog vCe:=fA f283 n0 e0 zF
def ySo:zE:=sp [sO 0 0,sI 3] [oA .i]
def vAy:zE:=sp [sO 0 0] [oA .i]
def yQ4 (f:Int→AC→Option AC)(d:ySo.den):=f d.1.2.1.1 d.2.1
def qUu:zV:=⟨[ySo],[(.exit 0,vAy)],AC,fun k d=>yQ4 (qKd k k) d,fun b x _ K=>K (.exit 0) (zM b vAy (((),()),(x,())))⟩
def yXx:zZ:=⟨[],[(2,qUu)],[],true⟩
theorem vSi:zU prog 1000 0 35 (zQ (zS f284) 0) qUu:=lp (A:=yXx) qUu (fun d=>d.2.1) yQ4 qKd yH1 e0 zF
def aaI:=yM 284 [.c (.own .i)] (.c (.own .i)) [] 0 (fun k d=>FR k d.1) (fun x=>(x,())) (fun d=>d.1)
theorem Lp:zD prog aaI:=fX f284 yXx 0 e0 (loops1 vSi)
def yY5:zE:=sp [sI 1,sO 5 0,sO 6 1,sI 7,sI 8] [oA .i,oA .i]
def yNe:zE:=sp [sI 1,sO 5 0,sO 6 1,sI 7] [oA .i,oA .i]
def yVp (f:qJ9)(d:yY5.den):=f d.1.1.1 d.1.2.2.2.1.1 d.1.2.2.2.2.1.1 d.2.1 d.2.2.1
def qKl:zV:=⟨[yY5],[(.exit 2,yNe)],qMr,fun k d=>yVp (qM3 k k) d,fun b x _ K=>K (.exit 2) (zM b yNe (((x.1,()),(),(),(x.2.1,()),()),(x.2.2.1,x.2.2.2,())))⟩
def yRl (f:qQw)(d:yNe.den):=f d.1.1.1 d.1.2.2.2.1.1 d.2.1 d.2.2.1
def qR5:zV:=⟨[yNe],[(.exit 0,yCu)],AC,fun k d=>yRl (OV k k) d,fun b x _ K=>K (.exit 0) (zM b yCu (((),()),(x,())))⟩
def qWc:zZ:=⟨[],[(7,qKl),(4,qR5)],[],true⟩
theorem vNa:zU prog 1000 0 47 (zQ (zQ (zS f253) 0) 0) qKl:=lp (A:=qWc) qKl (fun d=>(d.1.1.1,d.1.2.2.2.1.1,d.2.1,d.2.2.1)) yVp qM3 yQ1 (e2 qJb Lp) zF
theorem vDh:zU prog 1000 0 47 (zQ (zS f253) 0) qR5:=lp (A:=qWc) qR5 (fun d=>d.2.1) yRl OV yDf (e2 qJb Lp) (loops1 vNa)
def vDr:=zJ 253 [.c .i,.c .i] (.c (.own .i)) (fun k d=>OW k d.1 d.2.1) (fun x=>(x,())) (fun d=>d.1)
theorem vFg:zD prog vDr:=fA f253 qWc (e2 qJb Lp) (loops1 vDh)
def yG7:zE:=sp [sO 0 0,sI 1,sI 5] [oA .i]
def yMj (f:Int→Int→AC→Option AC)(d:yG7.den):=f d.1.2.1.1 d.1.2.2.1.1 d.2.1
def qJm:zV:=⟨[yG7],[(.exit 0,vAy)],AC,fun k d=>yMj (OT k k) d,fun b x _ K=>K (.exit 0) (zM b vAy (((),()),(x,())))⟩
def yZ6:zZ:=⟨[],[(2,qJm)],[],true⟩
theorem vC4:zU prog 1000 0 23 (zQ (zS f254) 0) qJm:=lp (A:=yZ6) qJm (fun d=>d.2.1) yMj OT yJj (e1 Lp) zF
def vMu:=yM 254 [.c (.own .i),.c (.p .i)] (.c (.own .i)) [] 0 (fun k d=>OR k d.1 d.2.1) (fun x=>(x,())) (fun d=>d.1)
theorem vV9:zD prog vMu:=fX f254 yZ6 0 (e1 Lp) (loops1 vC4)
def yFr:zE:=sp [sO 0 0,sI 1,sI 6,sI 7] [oA .i]
def yUc (f:XH)(d:yFr.den):=f d.1.2.1.1 d.1.2.2.1.1 d.1.2.2.2.1.1 d.2.1
def QV:zV:=⟨[yFr],[(.exit 0,vAy)],AC,fun k d=>yUc (Ke k k) d,fun b x _ K=>K (.exit 0) (zM b vAy (((),()),(x,())))⟩
def yDt:zE:=sp [sO 0 0,sI 9] [oA .i]
def yV8:zE:=sp [sI 4,(5,.c .bool)] []
def yW0 (f:qTr)(d:yDt.den):=f d.1.2.1.1 d.2.1
def QW:zV:=⟨[yDt],[(.exit 2,vAy),(.ret,yV8)],(AC⊕eY),fun k d=>yW0 (FT k k) d,fun b x _ K=>match x with|.inl x=>K (.exit 2) (zM b vAy (((),()),(x,())))|.inr x=>K .ret (zM b yV8 (((x.1,()),(x.2,()),()),()))⟩
def qN0:zZ:=⟨[],[(3,QV),(9,QW)],[],true⟩
theorem aaJ:zU prog 1000 0 66 (zQ (zS f255) 0) QV:=lp (A:=qN0) QV (fun d=>d.2.1) yUc Ke vBq e0 zF
theorem vVy:zU prog 1000 0 66 (zQ (zS f255) 1) QW:=lp (A:=qN0) QW (fun d=>match d with|.inl d=>.inl d.2.1|.inr d=>.inr (d.1.1.1,d.1.2.1.1)) yW0 FT yL5 e0 zF
def vIr:=yM 255 [.c (.own .i),.c (.p .i)] (.tup [(false,vD),(false,[.bool])]) [] 0 (fun k d=>OU k d.1 d.2.1) (fun x=>(x.1,x.2,())) (fun d=>(d.1,d.2.1))
theorem vGx:zD prog vIr:=fX f255 qN0 0 e0 (oG (n:=2) (by kernel_rfl) fun i hi=>match i,hi with|0,_=>⟨QV,by kernel_rfl,aaJ⟩|1,_=>⟨QW,by kernel_rfl,vVy⟩|i+2,hi=>absurd hi (by omega))
def vHl:=zJ 220 [.c .i,.c .i,.c .i] (.tup [(false,vD),(false,[.bool])]) (fun k d=>O3 k d.1 d.2.1 d.2.2.1) (fun x=>(x.1,x.2,())) (fun d=>(d.1,d.2.1))
theorem yE3:zD prog vHl:=fA f220 n0 (e3 vFg vV9 vGx) zF
def vTn:=zJ 221 [.c .i,.c .i] (.tup [(false,vD),(false,[.bool])]) (fun k d=>FV k d.1 d.2.1) (fun x=>(x.1,x.2,())) (fun d=>(d.1,d.2.1))
theorem qOk:zD prog vTn:=fA f221 n0 e0 zF
def yE0:zE:=sp [(0,.c (.dat false wX)),(1,.c (.dat false .i)),(2,.c (.dat false .i)),sI 8,sI 9] []
def yZo:zE:=sp [sI 8] []
def yUe (f:qYw)(d:yE0.den):=f d.1.1.1 d.1.2.1.1 d.1.2.2.1.1 d.1.2.2.2.1.1 d.1.2.2.2.2.1.1
def qNr:zV:=⟨[yE0],[(.exit 0,yZo),(.ret,yIj)],(Int⊕eY),fun k d=>yUe (Kj k k) d,fun b x _ K=>match x with|.inl x=>K (.exit 0) (zM b yZo (((x,()),()),()))|.inr x=>K .ret (zM b yIj (((x.1,()),(x.2,()),()),()))⟩
def yId:zZ:=⟨[],[(5,qNr)],[],true⟩
theorem vWl:zU prog 1000 0 63 (zQ (zS f179) 0) qNr:=lp (A:=yId) qNr (fun d=>match d with|.inl d=>.inl d.1.1.1|.inr d=>.inr (d.1.1.1,d.1.2.1.1)) yUe Kj FW (e2 yE3 qOk) zF
def vMk:=zJ 179 [.c (.dat false wX),.c (.dat false .i),.c (.dat false .i)] (.tup [(false,vD),(false,[.bool])]) (fun k d=>Bm k d.1 d.2.1 d.2.2.1) (fun x=>(x.1,x.2,())) (fun d=>(d.1,d.2.1))
theorem qIu:zD prog vMk:=fA f179 yId (e2 yE3 qOk) (loops1 vWl)
def vUe:=yM 112 [.ptr true BZ,.c (.p .i),.c (.p .i)] (.c .i) [B1] 0 (fun k d=>Pd k (yE d d.2.2.2.2.2.2.2.2.2.2.2.2.2.2.2.2.2.2.1) d.2.2.2.2.2.2.2.2.2.2.2.2.2.2.2.2.2.2.2.1 d.2.2.2.2.2.2.2.2.2.2.2.2.2.2.2.2.2.2.2.2.1) (fun x=>(x.1,(yj x.2 ()))) (fun d=>(d.1,(B2 d)))
theorem vQh:zD prog vUe:=fX f112 n0 1 (e3 qXq qIu yl) zF
def vWp:=zJ 180 [.agg nT,.c .i] (.tup [(true,[.i,.i,.i]),(false,vD)]) (fun k d=>Ge k (d.1,d.2.1,d.2.2.1) d.2.2.2.1) (fun x=>(x.1.1,x.1.2.1,x.1.2.2,x.2,())) (fun d=>((d.1,d.2.1,d.2.2.1),d.2.2.2.1))
theorem vHs:zD prog vWp:=fA f180 n0 (e2 qOk QM) zF
def vJj:=yM 113 [.ptr true BZ,.c (.p .bool),.c (.p .i),.c (.p .i)] (.c .i) [B1] 0 (fun k d=>Gf k (yE d d.2.2.2.2.2.2.2.2.2.2.2.2.2.2.2.2.2.2.1) d.2.2.2.2.2.2.2.2.2.2.2.2.2.2.2.2.2.2.2.1 d.2.2.2.2.2.2.2.2.2.2.2.2.2.2.2.2.2.2.2.2.1 d.2.2.2.2.2.2.2.2.2.2.2.2.2.2.2.2.2.2.2.2.2.1) (fun x=>(x.1,(yj x.2 ()))) (fun d=>(d.1,(B2 d)))
theorem vXu:zD prog vJj:=fX f113 n0 1 (e3 qM5 yl vHs) zF
def yJc:zE:=sp [sP 0 0,sO 7 1,sP 8 2,sI 9] [oB qX3,oA .i,oB sK,oA qW,.mat,oA .i,.mat]
def yQz:zE:=sp [sP 0 0,sO 7 1,sP 8 2] [oB qX3,oA .i,oB sK,oA qW,.mat,oA .i,.mat]
def yPh:zE:=sp [sP 0 0,sI 6] [oB qX3]
def yJr (f:qKx)(d:yJc.den):=f d.1.2.2.2.1.1 (eX d.2.1) d.2.2.1 d.2.2.2.2.1 d.2.2.2.2.2.1 d.2.2.2.2.2.2.1 d.2.2.2.2.2.2.2.1
def qWb:zV:=⟨[yJc],[(.exit 0,yQz),(.ret,yPh)],qSl,fun k d=>yJr (uH k k) d,fun b x _ K=>match x with|.inl x=>K (.exit 0) (zM b yQz (((),(),(),()),((jI x.1 ()),x.2.1,(),x.2.2.1,x.2.2.2.1,x.2.2.2.2.1,x.2.2.2.2.2,())))|.inr x=>K .ret (zM b yPh (((),(x.1,()),()),((jI x.2 ()),())))⟩
def yXd:zZ:=⟨[],[(6,qWb)],[],true⟩
theorem vDj:zU prog 1000 1 93 (zQ (zS f114) 0) qWb:=lp (A:=yXd) qWb (fun d=>match d with|.inl d=>.inl ((eX d.2.1),d.2.2.1,d.2.2.2.2.1,d.2.2.2.2.2.1,d.2.2.2.2.2.2.1,d.2.2.2.2.2.2.2.1)|.inr d=>.inr (d.1.2.1.1,(eX d.2.1))) yJr uH Gg (e3 qXq yl qIu) zF
def vF1:=yM 114 [.ptr true BZ,.c (.p .i),.c (.p .i)] (.c .i) [B1] 0 (fun k d=>Pe k (yE d d.2.2.2.2.2.2.2.2.2.2.2.2.2.2.2.2.2.2.1) d.2.2.2.2.2.2.2.2.2.2.2.2.2.2.2.2.2.2.2.1 d.2.2.2.2.2.2.2.2.2.2.2.2.2.2.2.2.2.2.2.2.1) (fun x=>(x.1,(yj x.2 ()))) (fun d=>(d.1,(B2 d)))
theorem aaK:zD prog vF1:=fX f114 yXd 1 (e3 qXq yl qIu) (loops1 vDj)
def vNw:=yM 54 [.ptr true BZ,.agg vM] (.c .i) [B1] 0 (fun k d=>xR k (yE d d.2.2.2.2.2.2.2.2.2.2.2.2.2.2.2.2.2.2.1) (vLu d)) (fun x=>(x.1,(yj x.2 ()))) (fun d=>(d.1,(B2 d)))
theorem vCl:zD prog vNw:=fX f54 n0 1 (e6 vEy vHv vNv vQh vXu aaK) zF
def qWv:=zJ 15 [.agg Qq,.agg ya,.agg K7] (.tup [(true,yc),(false,[.own yR]),(false,vD)]) (fun k d=>GG k (yZ d) (pX d) (Yv d)) (fun x=>(wP x.1 (x.2.1,x.2.2,()))) (fun d=>((qQ d),d.2.2.2.2.2.2.2.2.2.2.2.1,d.2.2.2.2.2.2.2.2.2.2.2.2.1))
theorem vZk:zD prog qWv:=fA f15 n0 (e7 vZw yk uQ aaD vCl Lm QJ) zF
def qQm:=yM 18 [.chn [QA,QB,lh]] (.agg yc) [QC,QD,iP] 0 (fun k d=>xZ k (kb d) (QE d) (QF d)) (fun x=>(wP x.1 ((),(jI x.2.1 ((),(gP x.2.2.1 (iu x.2.2.2 ()))))))) (fun d=>((qQ d),(vW1 d),(vO5 d),(aaL d)))
theorem yA1:zD prog qQm:=fX f18 n0 0 e0 zF
def yC1:zE:=sp [(0,.c (.dat false .i)),(1,.c (.dat false .i)),sI 5] []
def yZ7 (f:qMl)(d:yC1.den):=f d.1.1.1 d.1.2.1.1 d.1.2.2.1.1
def qYb:zV:=⟨[yC1],[(.exit 0,ySw),(.ret,yO7)],(Unit⊕Bool),fun k d=>yZ7 (I4 k k) d,fun b x _ K=>match x with|.inl x=>K (.exit 0) (zM b ySw ((),()))|.inr x=>K .ret (zM b yO7 (((x,()),()),()))⟩
def yHg:zZ:=⟨[],[(4,qYb)],[],false⟩
theorem vX3:zU prog 1000 0 26 (zQ (zS f58) 0) qYb:=lp (A:=yHg) qYb (fun d=>match d with|.inl d=>.inl ()|.inr d=>.inr d.1.1.1) yZ7 I4 D4 e0 zF
def qMf:=zJ 58 [.c (.dat false .i),.c (.dat false .i)] (.c .bool) (fun k d=>nI k d.1 d.2.1) (fun x=>(x,())) (fun d=>d.1)
theorem QX:zD prog qMf:=fA f58 yHg e0 (loops1 vX3)
def yA9:zE:=sp [(0,.c (.dat false (.sl .i))),(1,.c (.dat false (.sl .i))),sI 5] []
def vBe (f:qNh)(d:yA9.den):=f d.1.1.1 d.1.2.1.1 d.1.2.2.1.1
def qQf:zV:=⟨[yA9],[(.exit 0,ySw),(.ret,yO7)],(Unit⊕Bool),fun k d=>vBe (I5 k k) d,fun b x _ K=>match x with|.inl x=>K (.exit 0) (zM b ySw ((),()))|.inr x=>K .ret (zM b yO7 (((x,()),()),()))⟩
def yRi:zZ:=⟨[],[(4,qQf)],[],false⟩
theorem vIl:zU prog 1000 0 27 (zQ (zS f59) 0) qQf:=lp (A:=yRi) qQf (fun d=>match d with|.inl d=>.inl ()|.inr d=>.inr d.1.1.1) vBe I5 D5 (e1 QX) zF
def qK1:=zJ 59 [.c (.dat false (.sl .i)),.c (.dat false (.sl .i))] (.c .bool) (fun k d=>ua k d.1 d.2.1) (fun x=>(x,())) (fun d=>d.1)
theorem yY7:zD prog qK1:=fA f59 yRi (e1 QX) (loops1 vIl)
def yJ3:zE:=sp [sP 2 0,sP 3 1,sI 5] [oB jV,oB jV]
def vBj (f:qN2)(d:yJ3.den):=(vI (vI (f d.1.2.2.1.1) d.2.1) d.2.2.1)
def qJo:zV:=⟨[yJ3],[(.exit 0,ySw),(.ret,yO7)],(Unit⊕Bool),fun k d=>vBj (I6 k k) d,fun b x _ K=>match x with|.inl x=>K (.exit 0) (zM b ySw ((),()))|.inr x=>K .ret (zM b yO7 (((x,()),()),()))⟩
def vX0:Env:=⟨prog,fun t=>[119].any (Nat.beq t),fj [qK1,qMf]⟩
theorem yFj:jL vX0:=MW (l:=[qK1,qMf]) (eqT:=fun t=>[119].any (Nat.beq t)) (Sa (fun t h=>TC (p:=fun t=>prog.keyTypeAt 8 t&& !prog.eqGuardType prog.depth t) (l:=[119]) (List.forall_mem_cons.2 ⟨by kernel_rfl,List.forall_mem_nil _⟩) t h)) gO ⟨yY7,QX,trivial⟩
def yVk:zZ:=⟨[],[(4,qJo)],[],false⟩
theorem vP0:zU prog 1000 0 55 (zQ (zS f57) 0) qJo:=lp (A:=yVk) qJo (fun d=>match d with|.inl d=>.inl ()|.inr d=>.inr d.1.1.1) vBj I6 D7 yFj zF
def aaM:=zJ 57 [.agg jO,.agg jO] (.c .bool) (fun k d=>(mc (D6 k) d)) (fun x=>(x,())) (fun d=>d.1)
theorem vWm:zD prog aaM:=fA f57 yVk yFj (loops1 vP0)
def yD4:zE:=sp [(0,.c (.dat false zG)),(1,.c (.dat false zG)),sI 5] []
def yPm (f:qYx)(d:yD4.den):=f d.1.1.1 d.1.2.1.1 d.1.2.2.1.1
def qVn:zV:=⟨[yD4],[(.exit 0,ySw),(.ret,yO7)],(Unit⊕Bool),fun k d=>yPm (KS k k) d,fun b x _ K=>match x with|.inl x=>K (.exit 0) (zM b ySw ((),()))|.inr x=>K .ret (zM b yO7 (((x,()),()),()))⟩
def vZu:Env:=⟨prog,fun t=>[142].any (Nat.beq t),fj []⟩
theorem yM6:jL vZu:=MW (l:=[]) (eqT:=fun t=>[142].any (Nat.beq t)) (Sa (fun t h=>TC (p:=fun t=>prog.keyTypeAt 8 t&& !prog.eqGuardType prog.depth t) (l:=[142]) (List.forall_mem_cons.2 ⟨by kernel_rfl,List.forall_mem_nil _⟩) t h)) gO trivial
def yMm:zZ:=⟨[],[(4,qVn)],[],false⟩
theorem vTi:zU prog 1000 0 26 (zQ (zS f60) 0) qVn:=lp (A:=yMm) qVn (fun d=>match d with|.inl d=>.inl ()|.inr d=>.inr d.1.1.1) yPm KS GR yM6 zF
def vL4:=zJ 60 [.c (.dat false zG),.c (.dat false zG)] (.c .bool) (fun k d=>BM k d.1 d.2.1) (fun x=>(x,())) (fun d=>d.1)
theorem aaN:zD prog vL4:=fA f60 yMm yM6 (loops1 vTi)
def qYd:=zJ 17 [.agg sH,.agg sH] (.c .bool) (fun k d=>BN k (qQ d) (vFh d)) (fun x=>(x,())) (fun d=>d.1)
theorem vWr:zD prog qYd:=fA f17 n0 (e4 vWm QX yY7 aaN) zF
def qJ7:=yM 19 [.ptr true lh] (.tup []) [iP] 0 (fun k d=>KZ k (fu d)) (fun x=>(iu x ())) (fun d=>(fu d))
theorem vXt:zD prog qJ7:=fX f19 ⟨[],[],[(2,3)],true⟩ 1 e0 (H9 (n:=1) (by kernel_rfl) fun i hi=>match i,hi with|0,_=>.inr ⟨by kernel_rfl,zF⟩|i+1,hi=>absurd hi (by omega))
def yAz:zE:=sp [(0,.c (.dat false .i)),sO 3 0,sI 4,sI 5] [oA (.int .u8)]
def yBq:zE:=sp [(0,.c (.dat false .i)),sO 3 0,sI 4] [oA (.int .u8)]
def yA3 (f:qK2)(d:yAz.den):=f d.1.1.1 d.1.2.2.1.1 d.1.2.2.2.1.1 d.2.1
def qP1:zV:=⟨[yAz],[(.exit 2,yBq)],XA,fun k d=>yA3 (Kb k k) d,fun b x _ K=>K (.exit 2) (zM b yBq (((x.1,()),(),(x.2.1,()),()),(x.2.2,())))⟩
def yBs (f:qY1)(d:yBq.den):=f d.1.1.1 d.1.2.2.1.1 d.2.1
def qT4:zV:=⟨[yBq],[(.exit 0,yF6)],AC,fun k d=>yBs (Bl k k) d,fun b x _ K=>K (.exit 0) (zM b yF6 (((),()),(x,())))⟩
def qJu:zZ:=⟨[],[(6,qP1),(3,qT4)],[],true⟩
theorem vWo:zU prog 1000 0 30 (zQ (zQ (zS f28) 0) 0) qP1:=lp (A:=qJu) qP1 (fun d=>(d.1.1.1,d.1.2.2.1.1,d.2.1)) yA3 Kb OP e0 zF
theorem vLy:zU prog 1000 0 30 (zQ (zS f28) 0) qT4:=lp (A:=qJu) qT4 (fun d=>d.2.1) yBs Bl FQ e0 (loops1 vWo)
def vLa:=zJ 28 [.c (.dat false .i)] (.c (.own (.int .u8))) (fun k d=>OQ k d.1) (fun x=>(x,())) (fun d=>d.1)
theorem vKn:zD prog vLa:=fA f28 qJu e0 (loops1 vLy)
def qXc:=MY 23 [.agg vM] (.c (.nil)) [] 0 (.c (.own (.int .u8))) [] 0 (fun k d=>BG k (wM d)) (fun x=>((),())) (fun x=>(x,())) (fun d=>()) (fun d=>d.1)
theorem yGl:zD prog qXc:=fN f23 ⟨[1],[],[],true⟩ 0 (e3 yIe qVl vKn) zF
def vGf:=zJ 16 [.c (.nilp)] (.c .bool) (fun k d=>sL k) (fun x=>(x,())) (fun d=>d.1)
theorem yQx:zD prog vGf:=fA f16 n0 e0 zF
def vI0:=zJ 13 [.c (.nilp),.c .i,.c (.dat false (.int .u8))] (.c (.own yR)) (fun k d=>qLn k d.2.1 d.2.2.1) (fun x=>(x,())) (fun d=>d.1)
theorem vWt:zD prog vI0:=fA f13 n0 (e3 yQx Yq yN7) zF
def vQj:=zJ 18 [.c (.nilp)] (.agg XV) (fun k d=>Lq k) (fun x=>(wP x ())) (fun d=>(qQ d))
theorem aaO:zD prog vQj:=fA f18 n0 e0 zF
def qOw:=zJ 22 [.c .i] (.agg [.i,.own wX,.i,.i,.i]) (fun k d=>j8 k d.1) (fun x=>(jE x ())) (fun d=>(yZ d))
theorem yR7:zD prog qOw:=fA f22 n0 e0 zF
def qVb:=zJ 26 [] (.c .bool) (fun k d=>PM k) (fun x=>(x,())) (fun d=>d.1)
theorem vQe:zD prog qVb:=fA f26 n0 (e11 F2q yR7 qZ3 uQ yGl yNb yA1 qNd aaO vWt yQx) zF
def yHj:zE:=⟨[sI 1,(2,.c (.dat false yR)),sP 9 0,sP 10 2,sP 11 5,sP 13 7,sP 14 8,sI 15],[oB [.i,.lit (.osl 1001001 none),.i,.i,.i],.arr false wX,oB yUg,oA (.int .u8),oA (.int .u8),oB [.lit (.ptr 1001006 0),.i,.dat true wX,.i,.i,.i,.i,.dat true qW,.dat true (.sl .i),.dat true .i,.dat true (.sl .i),.dat true .i,.dat true (.sl .i),.dat true zG,.dat true .i,.i,.bool,.i,.bool],oB [.lit (.ptr 1001002 0),.i,.i,.i,.bool],oB gu,oB gu],[(13,some 1,.bool,true),(13,some 2,.bool,true),(13,some 3,.bool,true),(13,some 4,.bool,true),(13,some 5,.bool,true),(13,some 6,.bool,true),(13,some 7,.bool,true),(13,some 8,.bool,true),(14,some 1,.bool,true),(14,some 2,.bool,true),(14,some 3,.bool,true),(14,some 4,.bool,true),(14,some 5,.bool,true),(14,some 6,.bool,true),(14,some 7,.bool,true),(14,some 8,.bool,true)]⟩
def yIo:zE:=sp [sI 1,sP 9 0,sP 10 2,sP 13 5,sP 14 6] [oB [.i,.lit (.osl 1001001 none),.i,.i,.i],.arr false wX,oB yUg,oA (.int .u8),oA (.int .u8),oB gu,oB gu]
def yW8 (f:qUy)(d:yHj.den):=f d.1.1.1 d.1.2.1.1 d.1.2.2.2.2.2.2.2.1.1 (fL d.2.1) d.2.2.1 (qb d.2.2.2.1) d.2.2.2.2.1 d.2.2.2.2.2.1 (eX d.2.2.2.2.2.2.1) (fL d.2.2.2.2.2.2.2.1) (qQ d.2.2.2.2.2.2.2.2.1) (qQ d.2.2.2.2.2.2.2.2.2.1)
def qM9:zV:=⟨[yHj],[(.exit 0,yIo)],qVs,fun k d=>yW8 (sF k k) d,fun b x _ K=>K (.exit 0) (zM b yIo (((x.1,()),(),(),(),(),()),((gP x.2.1 ()),x.2.2.1,(GZ x.2.2.2.1 ()),x.2.2.2.2.1,x.2.2.2.2.2.1,(wP x.2.2.2.2.2.2.1 ()),(wP x.2.2.2.2.2.2.2 ()),())))⟩
def yEd:Env:=⟨prog,fun _=>false,fj [qOw,R2q,qMd,qSf,qO3,qXb,qXc,qQ3,qWv,qJ7,qQm,qYd,qVb]⟩
theorem Xp:jL yEd:=nH gO ⟨yR7,F2q,qZ3,aar,aaq,qNd,yGl,yNb,vZk,vXt,yA1,vWr,vQe,trivial⟩
def yXq:zZ:=⟨[],[(12,qM9)],[],true⟩
theorem vSu:zU prog 1000 0 135 (zQ (zS f6) 0) qM9:=lp (A:=yXq) qM9 (fun d=>(d.1.1.1,(fL d.2.1),d.2.2.1,(qb d.2.2.2.1),d.2.2.2.2.1,d.2.2.2.2.2.1,(qQ d.2.2.2.2.2.2.1),(qQ d.2.2.2.2.2.2.2.1))) yW8 sF uO Xp zF
def Xn:List AS:=[.c .i,.c .i,.c (.dat false yR),.agg [.i,.i]]
theorem Xq:TZ yEd yXq 0 f6 Xn (.c .bool) (fun d=>d.1) (fun k d=>PK k d.1 d.2.1 d.2.2.1 (d.2.2.2.1,d.2.2.2.2.1)):=by intro k d;kernel_rfl
end
end Go.Ab.Gi
