/- part 80 -/
import Derived.Test.YtbejmoaalcabdaaGreatGiXS
import Derived.Test.YtbejmoaalcabdaaGreatGiAbE
import Derived.Test.YtbejmoaalcabdaaGreatProg
set_option linter.unusedVariables false
set_option maxRecDepth 100000
set_option maxHeartbeats 4000000
namespace Go.Ab.Gi
open Go.RowKit Go.Lib Go.Proofs Go.Proofs.Tryz
noncomputable section
theorem fW:prog.follows .mixedOrders=true:=by kernel_rfl
abbrev n0:zW:=⟨[],[],[],true⟩
theorem e0:wZ ⟨prog,fun _=>false,jV []⟩:=mM (l:=[]) fW trivial
theorem e1 {a0}(h0:zD prog a0):wZ ⟨prog,fun _=>false,jV [a0]⟩:=mM (l:=[a0]) fW ⟨h0,trivial⟩
theorem e2 {a0 a1}(h0:zD prog a0)(h1:zD prog a1):wZ ⟨prog,fun _=>false,jV [a0,a1]⟩:=mM (l:=[a0,a1]) fW ⟨h0,h1,trivial⟩
theorem e3 {a0 a1 a2}(h0:zD prog a0)(h1:zD prog a1)(h2:zD prog a2):wZ ⟨prog,fun _=>false,jV [a0,a1,a2]⟩:=mM (l:=[a0,a1,a2]) fW ⟨h0,h1,h2,trivial⟩
theorem e4 {a0 a1 a2 a3}(h0:zD prog a0)(h1:zD prog a1)(h2:zD prog a2)(h3:zD prog a3):wZ ⟨prog,fun _=>false,jV [a0,a1,a2,a3]⟩:=mM (l:=[a0,a1,a2,a3]) fW ⟨h0,h1,h2,h3,trivial⟩
theorem e5 {a0 a1 a2 a3 a4}(h0:zD prog a0)(h1:zD prog a1)(h2:zD prog a2)(h3:zD prog a3)(h4:zD prog a4):wZ ⟨prog,fun _=>false,jV [a0,a1,a2,a3,a4]⟩:=mM (l:=[a0,a1,a2,a3,a4]) fW ⟨h0,h1,h2,h3,h4,trivial⟩
theorem e6 {a0 a1 a2 a3 a4 a5}(h0:zD prog a0)(h1:zD prog a1)(h2:zD prog a2)(h3:zD prog a3)(h4:zD prog a4)(h5:zD prog a5):wZ ⟨prog,fun _=>false,jV [a0,a1,a2,a3,a4,a5]⟩:=mM (l:=[a0,a1,a2,a3,a4,a5]) fW ⟨h0,h1,h2,h3,h4,h5,trivial⟩
theorem e7 {a0 a1 a2 a3 a4 a5 a6}(h0:zD prog a0)(h1:zD prog a1)(h2:zD prog a2)(h3:zD prog a3)(h4:zD prog a4)(h5:zD prog a5)(h6:zD prog a6):wZ ⟨prog,fun _=>false,jV [a0,a1,a2,a3,a4,a5,a6]⟩:=mM (l:=[a0,a1,a2,a3,a4,a5,a6]) fW ⟨h0,h1,h2,h3,h4,h5,h6,trivial⟩
theorem e8 {a0 a1 a2 a3 a4 a5 a6 a7}(h0:zD prog a0)(h1:zD prog a1)(h2:zD prog a2)(h3:zD prog a3)(h4:zD prog a4)(h5:zD prog a5)(h6:zD prog a6)(h7:zD prog a7):wZ ⟨prog,fun _=>false,jV [a0,a1,a2,a3,a4,a5,a6,a7]⟩:=mM (l:=[a0,a1,a2,a3,a4,a5,a6,a7]) fW ⟨h0,h1,h2,h3,h4,h5,h6,h7,trivial⟩
theorem e9 {a0 a1 a2 a3 a4 a5 a6 a7 a8}(h0:zD prog a0)(h1:zD prog a1)(h2:zD prog a2)(h3:zD prog a3)(h4:zD prog a4)(h5:zD prog a5)(h6:zD prog a6)(h7:zD prog a7)(h8:zD prog a8):wZ ⟨prog,fun _=>false,jV [a0,a1,a2,a3,a4,a5,a6,a7,a8]⟩:=mM (l:=[a0,a1,a2,a3,a4,a5,a6,a7,a8]) fW ⟨h0,h1,h2,h3,h4,h5,h6,h7,h8,trivial⟩
theorem Ov {a0 a1 a2 a3 a4 a5 a6 a7 a8 a9}(h0:zD prog a0)(h1:zD prog a1)(h2:zD prog a2)(h3:zD prog a3)(h4:zD prog a4)(h5:zD prog a5)(h6:zD prog a6)(h7:zD prog a7)(h8:zD prog a8)(h9:zD prog a9):wZ ⟨prog,fun _=>false,jV [a0,a1,a2,a3,a4,a5,a6,a7,a8,a9]⟩:=mM (l:=[a0,a1,a2,a3,a4,a5,a6,a7,a8,a9]) fW ⟨h0,h1,h2,h3,h4,h5,h6,h7,h8,h9,trivial⟩
theorem e13 {a0 a1 a2 a3 a4 a5 a6 a7 a8 a9 Hs Ht XG}(h0:zD prog a0)(h1:zD prog a1)(h2:zD prog a2)(h3:zD prog a3)(h4:zD prog a4)(h5:zD prog a5)(h6:zD prog a6)(h7:zD prog a7)(h8:zD prog a8)(h9:zD prog a9)(TC:zD prog Hs)(TD:zD prog Ht)(TE:zD prog XG):wZ ⟨prog,fun _=>false,jV [a0,a1,a2,a3,a4,a5,a6,a7,a8,a9,Hs,Ht,XG]⟩:=mM (l:=[a0,a1,a2,a3,a4,a5,a6,a7,a8,a9,Hs,Ht,XG]) fW ⟨h0,h1,h2,h3,h4,h5,h6,h7,h8,h9,TC,TD,TE,trivial⟩
def yKr:zE:=⟨[(0,.c (.dat false nO)),(3,.c .i),(4,.c .i)],[],[]⟩
def yU8:zE:=⟨[(0,.c (.dat false nO)),(3,.c .i)],[],[]⟩
def yLd (f:XH)(d:yKr.den):=f d.1.1.1 d.1.2.1.1 d.1.2.2.1.1
def XI:zU:=⟨[yKr],[(.exit 0,yU8)],XJ,fun k d=>yLd (FM k k) d,fun b x _ K=>K (.exit 0) (zN b yU8 (((x.1,()),(x.2,()),()),()))⟩
def A0q:zW:=⟨[],[(3,XI)],[],true⟩
theorem vYx:zT prog 1000 0 30 (zQ (zS f7) 0) XI:=lp (A:=A0q) XI (fun d=>(d.1.1.1,d.1.2.1.1)) yLd FM FN e0 zG
def R0q:=zJ 7 [.c (.dat false nO)] (.c .bool) (fun k d=>Og k d.1) (fun x=>(x,()))
theorem F0q:zD prog R0q:=fA (rs:=.c .bool) f7 A0q (fun d=>d.1) e0 (qB vYx)
def R1q:=zJ 8 [.c .i] (.agg [.i,.own wE,.i,.i,.i]) (fun k d=>JP k d.1) (fun x=>(wS x ()))
theorem F1q:zD prog R1q:=fA (rs:=.agg [.i,.own wE,.i,.i,.i]) f8 n0 (fun d=>(yG d)) e0 zG
def R2q:=LH 26 [.c (.p .i)] (.c (.link 0)) [vR] 1 (.c (.nilp)) [] 0 (fun k d=>We k d.1) (fun x=>((),(gM x ()))) (fun x=>((),()))
theorem F2q:zD prog R2q:=fN (rs:=.c (.link 0)) (os:=[vR]) (ns:=1) (rs2:=.c (.nilp)) (os2:=[]) (ns2:=0) f26 n0 0 (fun d=>(FQ d)) (fun d=>()) e0 zG
def R3q:=zJ 97 [.c .i,.c .i,.c .i] (.c .bool) (fun k d=>ru k d.1 d.2.1 d.2.2.1) (fun x=>(x,()))
theorem F3q:zD prog R3q:=fA (rs:=.c .bool) f97 n0 (fun d=>d.1) e0 zG
def R4q:=zJ 96 [.agg [.i,.i]] (.c .bool) (fun k d=>yE3 k (d.1,d.2.1)) (fun x=>(x,()))
theorem F4q:zD prog R4q:=fA (rs:=.c .bool) f96 n0 (fun d=>d.1) (e1 F3q) zG
def yFr:zE:=⟨[(0,.c (.dat false wE)),(1,.c (.lit (.fn 96 []))),(7,.c .i),(8,.c .i)],[],[]⟩
def yXv:zE:=⟨[],[],[]⟩
def yUg:zE:=⟨[(4,.c .i)],[],[]⟩
def yG4 (f:XK)(d:yFr.den):=f d.1.1.1 d.1.2.2.1.1 d.1.2.2.2.1.1
def XM:zU:=⟨[yFr],[(.exit 0,yXv),(.ret,yUg)],(Unit⊕Int),fun k d=>yG4 (XN k k) d,fun b x _ K=>match x with|.inl x=>K (.exit 0) (zN b yXv ((),()))|.inr x=>K .ret (zN b yUg (((x,()),()),()))⟩
def A5q:zW:=⟨[],[(2,XM)],[],true⟩
theorem vLt:zT prog 1000 0 19 (zQ (zS f150) 0) XM:=lp (A:=A5q) XM (fun d=>match d with|.inl d=>.inl ()|.inr d=>.inr d.1.1.1) yG4 XN yFn (e1 F4q) zG
def R5q:=zJ 150 [.c (.dat false wE),.c (.fn 96)] (.c .i) (fun k d=>vBh k d.1) (fun x=>(x,()))
theorem F5q:zD prog R5q:=fA (rs:=.c .i) f150 A5q (fun d=>d.1) (e1 F4q) (qB vLt)
def R6q:=zJ 98 [.c (.dat false wE),.c (.fn 96)] (.c .bool) (fun k d=>yE6 k d.1) (fun x=>(x,()))
theorem F6q:zD prog R6q:=fA (rs:=.c .bool) f98 n0 (fun d=>d.1) (e1 F5q) zG
def R7q:=zJ 54 [.agg iU] (.c .bool) (fun k d=>AY k (yG d)) (fun x=>(x,()))
theorem Ow:zD prog R7q:=fA (rs:=.c .bool) f54 n0 (fun d=>d.1) (e2 F3q F6q) zG
def R8q:=zJ 214 [.c .i] (.c .bool) (fun k d=>Ox k d.1) (fun x=>(x,()))
theorem XO:zD prog R8q:=fA (rs:=.c .bool) f214 n0 (fun d=>d.1) e0 zG
def R9q:=uM 215 false (.int .u8) (.own (.int .u8)) XP
theorem F9q:zD prog R9q:=fC f215 n0 e0 zG
def vP2:=zJ 152 [.ptr JZ,.c .i] (.c (.own (.int .u8))) (fun k d=>yB3 k (fa d) d.2.2.2.2.2.2.2.2.2.2.1) (fun x=>(x,()))
theorem XQ:zD prog vP2:=fA (rs:=.c (.own (.int .u8))) f152 n0 (fun d=>d.1) (e2 XO F9q) zG
def vC9:zE:=⟨[(0,.c (.dat false (.int .u8))),(2,.c (.lit (.osl 1001000 none)))],[.arr true (.sl (.int .u8))],[(2,none,(.sl (.int .u8)),false)]⟩
def yVz:zE:=⟨[(0,.c (.dat false (.int .u8))),(2,.c (.lit (.osl 1001000 none)))],[.arr true (.sl (.int .u8))],[]⟩
def yVb (f:XR)(d:vC9.den):=f d.1.1.1 d.2.1
def XS:zU:=⟨[vC9],[(.exit 0,yVz)],XT,fun k d=>yVb (XU k k) d,fun b x _ K=>K (.exit 0) (zN b yVz (((x.1,()),(),()),(x.2,())))⟩
def yWv:zW:=⟨[],[(1,XS)],[],true⟩
theorem vRm:zT prog 1000 0 43 (zQ (zS f151) 0) XS:=lp (A:=yWv) XS (fun d=>(d.1.1.1,d.2.1)) yVb XU yLt e0 zG
def vPc:=zJ 151 [.c (.dat false (.int .u8))] (.tup [(false,[.own (.sl (.int .u8))]),(false,qF)]) (fun k d=>XV k d.1) (fun x=>(x.1,x.2,()))
theorem yFy:zD prog vPc:=fA (rs:=.tup [(false,[.own (.sl (.int .u8))]),(false,qF)]) f151 yWv (fun d=>(d.1,d.2.1)) e0 (qB vRm)
def yAf:zE:=⟨[(0,.c (.dat false (.int .u8))),(4,.c (.lit (.osl 1001000 none))),(5,.c (.int .u64)),(16,.c (.dat false (.int .u8))),(17,.c .i),(18,.c .i)],[.arr true .i],[]⟩
def vB3:zE:=⟨[(0,.c (.dat false (.int .u8))),(4,.c (.lit (.osl 1001000 none))),(5,.c (.int .u64))],[.arr true .i],[]⟩
def vBb (f:XW)(d:yAf.den):=f d.1.1.1 d.1.2.2.1.1 d.1.2.2.2.1.1 d.1.2.2.2.2.1.1 d.1.2.2.2.2.2.1.1 d.2.1
def XX:zU:=⟨[yAf],[(.exit 2,vB3)],XY,fun k d=>vBb (Fx k k) d,fun b x _ K=>K (.exit 2) (zN b vB3 (((x.1,()),(),(x.2.1,()),()),(x.2.2,())))⟩
def yKl:zE:=⟨[(0,.c (.dat false (.int .u8))),(4,.c (.lit (.osl 1001000 none)))],[.arr true .i],[(4,none,.i,false)]⟩
def yIq:zE:=⟨[(4,.c (.lit (.osl 1001000 none)))],[.arr true .i],[]⟩
def vBm (f:AC→AC→Option AC)(d:yKl.den):=f d.1.1.1 d.2.1
def XZ:zU:=⟨[yKl],[(.exit 0,yIq)],AC,fun k d=>vBm (Fy k k) d,fun b x _ K=>K (.exit 0) (zN b yIq (((),()),(x,())))⟩
def X0:zW:=⟨[],[(7,XX),(4,XZ)],[],true⟩
theorem vUx:zT prog 1000 0 36 (zQ (zQ (zS f66) 0) 0) XX:=lp (A:=X0) XX (fun d=>(d.1.1.1,d.1.2.2.1.1,d.2.1)) vBb Fx NV e0 zG
theorem vVm:zT prog 1000 0 36 (zQ (zS f66) 0) XZ:=lp (A:=X0) XZ (fun d=>d.2.1) vBm Fy Fz e0 (qB vUx)
def vDe:=zJ 66 [.c (.dat false (.int .u8))] (.tup [(false,mm),(false,qF)]) (fun k d=>tC k d.1) (fun x=>(x.1,x.2,()))
theorem J0:zD prog vDe:=fA (rs:=.tup [(false,mm),(false,qF)]) f66 X0 (fun d=>(d.1,d.2.1)) e0 (qB vVm)
def vH5:=zJ 99 [.ptr JZ,.c .i] (.tup [(false,qF),(false,nP),(false,rz)]) (fun k d=>Oy k (fa d) d.2.2.2.2.2.2.2.2.2.2.1) (fun x=>(x.1,x.2.1,x.2.2,()))
theorem vVi:zD prog vH5:=fA (rs:=.tup [(false,qF),(false,nP),(false,rz)]) f99 n0 (fun d=>(d.1,d.2.1,d.2.2.1)) (e3 XQ yFy J0) zG
def X1:=zJ 55 [.ptr JZ] (.tup [(false,qF),(false,qF),(false,nP),(false,rz),(false,[.bool])]) (fun k d=>X2 k (fa d)) (fun x=>(wS x ()))
theorem X3:zD prog X1:=fA (rs:=.tup [(false,qF),(false,qF),(false,nP),(false,rz),(false,[.bool])]) f55 ⟨[],[],[(2,3)],true⟩ (fun d=>(d.1,d.2.1,d.2.2.1,d.2.2.2.1,d.2.2.2.2.1)) (e1 vVi) (Cc (n:=1) (by kernel_rfl) fun i hi=>match i,hi with|0,_=>.inr ⟨by kernel_rfl,zG⟩|i+1,hi=>absurd hi (by omega))
def vIh:=zJ 87 [.c .i] (.c .bool) (fun k d=>H8 k d.1) (fun x=>(x,()))
theorem Oz:zD prog vIh:=fA (rs:=.c .bool) f87 ⟨[],[],[],false⟩ (fun d=>d.1) e0 zG
def yH7:zE:=⟨[(1,.c .i),(5,.c (.lit (.osl 1001000 none))),(13,.c .i),(14,.c .i)],[.arr true .i],[]⟩
def vCs:zE:=⟨[(5,.c (.lit (.osl 1001000 none)))],[.arr true .i],[]⟩
def yD3 (f:X4)(d:yH7.den):=f d.1.1.1 d.1.2.2.1.1 d.1.2.2.2.1.1 d.2.1
def X5:zU:=⟨[yH7],[(.exit 0,vCs)],AC,fun k d=>yD3 (H9 k k) d,fun b x _ K=>K (.exit 0) (zN b vCs (((),()),(x,())))⟩
def yNb:zW:=⟨[],[(5,X5)],[],false⟩
theorem vDy:zT prog 1000 0 23 (zQ (zS f51) 0) X5:=lp (A:=yNb) X5 (fun d=>d.2.1) yD3 H9 Dc (e1 Oz) zG
def vLc:=zJ 51 [.c .i,.c .i] (.c (.own .i)) (fun k d=>yx k d.1 d.2.1) (fun x=>(x,()))
theorem A8:zD prog vLc:=fA (rs:=.c (.own .i)) f51 yNb (fun d=>d.1) (e1 Oz) (qB vDy)
def yAt:zE:=⟨[(0,.c .i),(1,.c .i),(5,.c (.lit (.osl 1001000 none))),(13,.c .i),(14,.c .i)],[.mat],[]⟩
def yNl:zE:=⟨[(5,.c (.lit (.osl 1001000 none)))],[.mat],[]⟩
def yF2 (f:X6)(d:yAt.den):=f d.1.1.1 d.1.2.1.1 d.1.2.2.2.1.1 d.1.2.2.2.2.1.1 d.2.1
def X7:zU:=⟨[yAt],[(.exit 0,yNl)],EQ,fun k d=>yF2 (Ia k k) d,fun b x _ K=>K (.exit 0) (zN b yNl (((),()),(x,())))⟩
def yQh:zW:=⟨[11],[(5,X7)],[],false⟩
theorem vSu:zT prog 1000 0 25 (zQ (zS f50) 0) X7:=lp (A:=yQh) X7 (fun d=>d.2.1) yF2 Ia De (e2 Oz A8) zG
def vV2:=zJ 50 [.c .i,.c .i] (.c (.mat)) (fun k d=>Dd k d.1 d.2.1) (fun x=>(x,()))
theorem J1:zD prog vV2:=fA (rs:=.c (.mat)) f50 yQh (fun d=>d.1) (e2 Oz A8) (qB vSu)
def yM2:zE:=⟨[(1,.c (.lit (.ptr 1001000 0))),(2,.c (.lit (.ptr 1001001 0))),(3,.c .i),(4,.c (.lit (.ptr 1001002 0))),(20,.c (.dat false wE)),(21,.c .i),(22,.c .i)],[.box true oZ,.box true fb,.box true OA,.arr true qY,.mat,.arr true .i,.mat,.arr true .i],[(4,some 5,.i,false)]⟩
def yUi:zE:=⟨[(1,.c (.lit (.ptr 1001000 0))),(2,.c (.lit (.ptr 1001001 0))),(3,.c .i),(4,.c (.lit (.ptr 1001002 0)))],[.box true oZ,.box true fb,.box true OA,.arr true qY,.mat,.arr true .i,.mat,.arr true .i],[]⟩
def yGo (f:X8)(d:yM2.den):=f d.1.2.2.1.1 d.1.2.2.2.2.1.1 d.1.2.2.2.2.2.1.1 d.1.2.2.2.2.2.2.1.1 (yG d.2.1) (d.2.2.1.1,d.2.2.1.2.1,d.2.2.1.2.2.1) (d.2.2.2.1.1,d.2.2.2.1.2.1,d.2.2.2.1.2.2.1) d.2.2.2.2.1 d.2.2.2.2.2.1 d.2.2.2.2.2.2.1 d.2.2.2.2.2.2.2.1 d.2.2.2.2.2.2.2.2.1
def OB:zU:=⟨[yM2],[(.exit 0,yUi)],X9,fun k d=>yGo (Ya k k) d,fun b x _ K=>K (.exit 0) (zN b yUi (((),(),(x.1,()),(),()),((wS x.2.1 ()),(x.2.2.1.1,x.2.2.1.2.1,x.2.2.1.2.2,()),(x.2.2.2.1.1,x.2.2.2.1.2.1,x.2.2.2.1.2.2,()),x.2.2.2.2.1,x.2.2.2.2.2.1,x.2.2.2.2.2.2.1,x.2.2.2.2.2.2.2.1,x.2.2.2.2.2.2.2.2,())))⟩
def yM7:zE:=⟨[(1,.c (.lit (.ptr 1001000 0))),(2,.c (.lit (.ptr 1001001 0))),(4,.c (.lit (.ptr 1001002 0))),(34,.c .i),(35,.c .i)],[.box true oZ,.box true fb,.box true yJg,.arr true qY,.mat,.arr true .i,.mat,.arr true .i,.mat],[(4,some 6,(.sl .i),true)]⟩
def yK8:zE:=⟨[(2,.c (.lit (.ptr 1001000 0))),(4,.c (.lit (.ptr 1001001 0)))],[.box true fb,.box true yLb,.arr true qY,.mat,.arr true .i,.mat,.arr true .i,.mat],[]⟩
def yJd (f:Yb)(d:yM7.den):=f d.1.2.2.2.1.1 d.1.2.2.2.2.1.1 (yG d.2.1) (d.2.2.1.1,d.2.2.1.2.1,d.2.2.1.2.2.1) (d.2.2.2.1.1,d.2.2.2.1.2.1,d.2.2.2.1.2.2.1) d.2.2.2.2.1 d.2.2.2.2.2.1 d.2.2.2.2.2.2.1 d.2.2.2.2.2.2.2.1 d.2.2.2.2.2.2.2.2.1 d.2.2.2.2.2.2.2.2.2.1
def OC:zU:=⟨[yM7],[(.exit 2,yK8)],Yc,fun k d=>yJd (Yd k k) d,fun b x _ K=>K (.exit 2) (zN b yK8 (((),(),()),((x.1.1,x.1.2.1,x.1.2.2,()),(x.2.1.1,x.2.1.2.1,x.2.1.2.2,()),x.2.2.1,x.2.2.2.1,x.2.2.2.2.1,x.2.2.2.2.2.1,x.2.2.2.2.2.2.1,x.2.2.2.2.2.2.2,())))⟩
def Ye:zW:=⟨[43,44],[(4,OB),(9,OC)],[],true⟩
theorem vEr:zT prog 1000 0 48 (zQ (zS f20) 0) OB:=lp (A:=Ye) OB (fun d=>(d.1.2.2.1.1,(yG d.2.1),(d.2.2.1.1,d.2.2.1.2.1,d.2.2.1.2.2.1),(d.2.2.2.1.1,d.2.2.2.1.2.1,d.2.2.2.1.2.2.1),d.2.2.2.2.1,d.2.2.2.2.2.1,d.2.2.2.2.2.2.1,d.2.2.2.2.2.2.2.1,d.2.2.2.2.2.2.2.2.1)) yGo Ya yRj (e2 J1 A8) zG
theorem vUe:zT prog 1000 0 48 (zQ (zS f20) 1) OC:=lp (A:=Ye) OC (fun d=>((d.2.1.1,d.2.1.2.1,d.2.1.2.2.1),(d.2.2.1.1,d.2.2.1.2.1,d.2.2.1.2.2.1),d.2.2.2.1,d.2.2.2.2.1,d.2.2.2.2.2.1,d.2.2.2.2.2.2.1,d.2.2.2.2.2.2.2.1,d.2.2.2.2.2.2.2.2.1)) yJd Yd vAd (e2 J1 A8) zG
def vDc:=zJ 20 [.agg iU] (.agg FR) (fun k d=>oV k (yG d)) (fun x=>(wA x ()))
theorem OD:zD prog vDc:=fA (rs:=.agg FR) f20 Ye (fun d=>(qZ d)) (e2 J1 A8) (loopsOK_of (n:=2) (by kernel_rfl) fun i hi=>match i,hi with|0,_=>⟨OB,by kernel_rfl,vEr⟩|1,_=>⟨OC,by kernel_rfl,vUe⟩|i+2,hi=>absurd hi (by omega))
def Yf:=zJ 101 [.c .bool] (.c .i) (fun k d=>N6 k d.1) (fun x=>(x,()))
theorem Yg:zD prog Yf:=fA (rs:=.c .i) f101 n0 (fun d=>d.1) e0 zG
def yIu:zE:=⟨[(3,.c (.lit (.osl 1001000 none))),(5,.c .i),(6,.c .i),(11,.c (.dat false .i)),(12,.c .i),(13,.c .i)],[.arr true (.int .u8)],[]⟩
def yAo:zE:=⟨[(3,.c (.lit (.osl 1001000 none))),(11,.c (.dat false .i)),(12,.c .i),(13,.c .i)],[.arr true (.int .u8)],[]⟩
def qZ0 (f:Yh)(d:yIu.den):=f d.1.2.1.1 d.1.2.2.1.1 d.1.2.2.2.1.1 d.1.2.2.2.2.1.1 d.1.2.2.2.2.2.1.1 d.2.1
def Yi:zU:=⟨[yIu],[(.exit 2,yAo)],Yj,fun k d=>qZ0 (wj k k) d,fun b x _ K=>K (.exit 2) (zN b yAo (((),(x.1,()),(x.2.1,()),(x.2.2.1,()),()),(x.2.2.2,())))⟩
def yP2:zE:=⟨[(3,.c (.lit (.osl 1001000 none))),(11,.c (.dat false .i)),(12,.c .i),(13,.c .i)],[.arr true (.int .u8)],[]⟩
def yVw:zE:=⟨[(3,.c (.lit (.osl 1001000 none)))],[.arr true (.int .u8)],[]⟩
def vDb (f:Yk)(d:yP2.den):=f d.1.2.1.1 d.1.2.2.1.1 d.1.2.2.2.1.1 d.2.1
def Yl:zU:=⟨[yP2],[(.exit 0,yVw)],AC,fun k d=>vDb (AN k k) d,fun b x _ K=>K (.exit 0) (zN b yVw (((),()),(x,())))⟩
def Ym:zW:=⟨[],[(6,Yi),(3,Yl)],[],true⟩
theorem vGr:zT prog 1000 0 31 (zQ (zQ (zS f115) 0) 0) Yi:=lp (A:=Ym) Yi (fun d=>(d.1.2.1.1,d.1.2.2.1.1,d.1.2.2.2.1.1,d.2.1)) qZ0 wj N4 e0 zG
theorem Yn:zT prog 1000 0 31 (zQ (zS f115) 0) Yl:=lp (A:=Ym) Yl (fun d=>d.2.1) vDb AN FC e0 (qB vGr)
def vQt:=zJ 115 [.c (.dat false .i)] (.c (.own (.int .u8))) (fun k d=>wk k d.1) (fun x=>(x,()))
theorem OE:zD prog vQt:=fA (rs:=.c (.own (.int .u8))) f115 Ym (fun d=>d.1) e0 (qB Yn)
def vEw:=zJ 158 [.c (.dat false .i)] (.c (.own (.int .u8))) (fun k d=>N5 k d.1) (fun x=>(x,()))
theorem yD5:zD prog vEw:=fA (rs:=.c (.own (.int .u8))) f158 n0 (fun d=>d.1) (e1 OE) zG
def yB4:zE:=⟨[(3,.c (.lit (.osl 1001000 none))),(6,.c (.dat false (.sl .i))),(7,.c .i),(8,.c .i)],[.arr true (.int .u8)],[(3,none,(.int .u8),false)]⟩
def yGi:zE:=⟨[(3,.c (.lit (.osl 1001000 none)))],[.arr true (.int .u8)],[]⟩
def yI7 (f:Yo)(d:yB4.den):=f d.1.2.1.1 d.1.2.2.1.1 d.1.2.2.2.1.1 d.2.1
def Yp:zU:=⟨[yB4],[(.exit 0,yGi)],AC,fun k d=>yI7 (FD k k) d,fun b x _ K=>K (.exit 0) (zN b yGi (((),()),(x,())))⟩
def yIv:zW:=⟨[],[(3,Yp)],[],true⟩
theorem Yq:zT prog 1000 0 18 (zQ (zS f102) 0) Yp:=lp (A:=yIv) Yp (fun d=>d.2.1) yI7 FD FE (e1 yD5) zG
def vNz:=zJ 102 [.c (.dat false (.sl .i))] (.c (.own (.int .u8))) (fun k d=>JL k d.1) (fun x=>(x,()))
theorem Yr:zD prog vNz:=fA (rs:=.c (.own (.int .u8))) f102 yIv (fun d=>d.1) (e1 yD5) (qB Yq)
def yN4:zE:=⟨[(1,.c (.lit (.ptr 1001000 0))),(3,.c (.lit (.ptr 1001001 0))),(4,.c (.lit (.osl 1001002 none))),(39,.c (.dat true qY)),(40,.c .i),(41,.c .i)],[.box true fY,.box true vZ,.arr true (.sl .i)],[]⟩
def yJh:zE:=⟨[(1,.c (.lit (.ptr 1001000 0))),(3,.c (.lit (.ptr 1001001 0))),(4,.c (.lit (.osl 1001002 none)))],[.box true fY,.box true vZ,.arr true (.sl .i)],[]⟩
def vAv (f:Ys)(d:yN4.den):=f d.1.2.2.2.1.1 d.1.2.2.2.2.1.1 d.1.2.2.2.2.2.1.1 (qZ d.2.1) (wM d.2.2.1) d.2.2.2.1
def OF:zU:=⟨[yN4],[(.exit 0,yJh)],Yt,fun k d=>vAv (AQ k k) d,fun b x _ K=>K (.exit 0) (zN b yJh (((),(),(),()),((wA x.1 ()),(jR x.2.1 ()),x.2.2,())))⟩
def yPm:zE:=⟨[(1,.c (.lit (.ptr 1001000 0))),(4,.c (.lit (.osl 1001001 none))),(79,.c (.dat true zH)),(80,.c .i),(81,.c .i)],[.box true fY,.arr true (.sl .i)],[]⟩
def yP9:zE:=⟨[(1,.c (.lit (.ptr 1001000 0))),(4,.c (.lit (.osl 1001001 none)))],[.box true fY,.arr true (.sl .i)],[]⟩
def yNs (f:Yu)(d:yPm.den):=f d.1.2.2.1.1 d.1.2.2.2.1.1 d.1.2.2.2.2.1.1 (qZ d.2.1) d.2.2.1
def OG:zU:=⟨[yPm],[(.exit 2,yP9)],Yv,fun k d=>yNs (AR k k) d,fun b x _ K=>K (.exit 2) (zN b yP9 (((),(),()),((wA x.1 ()),x.2,())))⟩
def Yw:zW:=⟨[],[(4,OF),(14,OG)],[],true⟩
theorem vVv:zT prog 1000 0 110 (zQ (zS f57) 0) OF:=lp (A:=Yw) OF (fun d=>((qZ d.2.1),(wM d.2.2.1),d.2.2.2.1)) vAv AQ FH (e2 Yg Yr) zG
theorem vZd:zT prog 1000 0 110 (zQ (zS f57) 1) OG:=lp (A:=Yw) OG (fun d=>((qZ d.2.1),d.2.2.1)) yNs AR FI (e2 Yg Yr) zG
def vJ9:=zJ 57 [.agg w4] (.c (.own (.int .u8))) (fun k d=>kB k (qZ d)) (fun x=>(x,()))
theorem tI:zD prog vJ9:=fA (rs:=.c (.own (.int .u8))) f57 Yw (fun d=>d.1) (e2 Yg Yr) (loopsOK_of (n:=2) (by kernel_rfl) fun i hi=>match i,hi with|0,_=>⟨OF,by kernel_rfl,vVv⟩|1,_=>⟨OG,by kernel_rfl,vZd⟩|i+2,hi=>absurd hi (by omega))
def vFa:=zJ 153 [.c (.dat false (.int .u8))] (.tup [(false,[.own (.int .u8)]),(false,[.bool])]) (fun k d=>JJ k d.1) (fun x=>(x.1,x.2,()))
theorem yOr:zD prog vFa:=fA (rs:=.tup [(false,[.own (.int .u8)]),(false,[.bool])]) f153 n0 (fun d=>(d.1,d.2.1)) e0 zG
def vVk:=zJ 154 [.ptr JZ] (.c .i) (fun k d=>V3 k (fa d)) (fun x=>(x,()))
theorem Yx:zD prog vVk:=fA (rs:=.c .i) f154 n0 (fun d=>d.1) e0 zG
def Yy:=zJ 216 [.ptr JZ] (.c .bool) (fun k d=>OH k (fa d)) (fun x=>(x,()))
theorem Yz:zD prog Yy:=fA (rs:=.c .bool) f216 n0 (fun d=>d.1) e0 zG
def vHj:=yK 217 [.ptr true kD] (.c .bool) [vR] 0 (fun k d=>J2 k (fa d)) (fun x=>(x.1,(gM x.2 ())))
theorem YA:zD prog vHj:=fX (rs:=.c .bool) (os:=[vR]) (ns:=0) f217 ⟨[],[],[(6,3)],true⟩ 1 (fun d=>(d.1,(FQ d))) e0 (Cc (n:=1) (by kernel_rfl) fun i hi=>match i,hi with|0,_=>.inr ⟨by kernel_rfl,zG⟩|i+1,hi=>absurd hi (by omega))
def vY9:=yK 155 [.ptr true kD,.c (.p .i)] (.c .i) [vR] 0 (fun k d=>N3 k (fa d) d.2.2.2.2.2.2.2.2.2.2.1) (fun x=>(x.1,(gM x.2 ())))
theorem vG4:zD prog vY9:=fX (rs:=.c .i) (os:=[vR]) (ns:=0) f155 n0 1 (fun d=>(d.1,(FQ d))) (e3 Yz XO YA) zG
def vVt:=yK 156 [.ptr true kD,.c (.p .i),.c (.p (.dat false (.int .u8)))] (.c .i) [vR] 0 (fun k d=>tF k (fa d) d.2.2.2.2.2.2.2.2.2.2.1 d.2.2.2.2.2.2.2.2.2.2.2.1) (fun x=>(x.1,(gM x.2 ())))
theorem yTj:zD prog vVt:=fX (rs:=.c .i) (os:=[vR]) (ns:=0) f156 n0 1 (fun d=>(d.1,(FQ d))) (e3 Yz XO YA) zG
def vD8:=yK 157 [.ptr true kD] (.c .i) [vR] 0 (fun k d=>JH k (fa d)) (fun x=>(x.1,(gM x.2 ())))
theorem yF4:zD prog vD8:=fX (rs:=.c .i) (os:=[vR]) (ns:=0) f157 ⟨[],[],[(4,3)],true⟩ 1 (fun d=>(d.1,(FQ d))) (e2 Yz YA) (Cc (n:=1) (by kernel_rfl) fun i hi=>match i,hi with|0,_=>.inr ⟨by kernel_rfl,zG⟩|i+1,hi=>absurd hi (by omega))
def vOj:=yK 100 [.ptr true kD,.c (.p .i),.c (.p .i),.c (.p (.dat false (.int .u8)))] (.c .i) [vR] 0 (fun k d=>N8 k (fa d) d.2.2.2.2.2.2.2.2.2.2.1 d.2.2.2.2.2.2.2.2.2.2.2.1 d.2.2.2.2.2.2.2.2.2.2.2.2.1) (fun x=>(x.1,(gM x.2 ())))
theorem yVq:zD prog vOj:=fX (rs:=.c .i) (os:=[vR]) (ns:=0) f100 n0 1 (fun d=>(d.1,(FQ d))) (e6 OE yOr Yx vG4 yTj yF4) zG
def vW4:=LH 56 [.ptr true kD,.c (.p (.dat false (.int .u8)))] (.tup [(false,[.link 1]),(false,nP),(false,rz),(false,qF)]) [vR,OI] 1 (.tup [(false,[.nilp]),(false,[.own (.int .u8)]),(false,[.own (.sl (.int .u8))]),(false,qF)]) [vR] 0 (fun k d=>yS3 k (fa d) d.2.2.2.2.2.2.2.2.2.2.1) (fun x=>((),x.1,x.2.1,x.2.2.1,(gM x.2.2.2.1 ((),(jR x.2.2.2.2 ()))))) (fun x=>((),x.1,x.2.1,x.2.2.1,(gM x.2.2.2 ())))
theorem yLg:zD prog vW4:=fN (rs:=.tup [(false,[.link 1]),(false,nP),(false,rz),(false,qF)]) (os:=[vR,OI]) (ns:=1) (rs2:=.tup [(false,[.nilp]),(false,[.own (.int .u8)]),(false,[.own (.sl (.int .u8))]),(false,qF)]) (os2:=[vR]) (ns2:=0) f56 n0 1 (fun d=>(d.2.1,d.2.2.1,d.2.2.2.1,(yVa d),(vQs d))) (fun d=>(d.2.1,d.2.2.1,d.2.2.2.1,(yVa d))) (e2 X3 yVq) zG
def vZe:=zJ 159 [.c (.dat true (.int .u8))] (.tup [(false,mm),(false,nP),(false,[.bool])]) (fun k d=>vBz k d.1) (fun x=>(x.1,x.2.1,x.2.2,()))
theorem vJz:zD prog vZe:=fA (rs:=.tup [(false,mm),(false,nP),(false,[.bool])]) f159 n0 (fun d=>(d.1,d.2.1,d.2.2.1)) (e1 J0) zG
def vGv:=yK 105 [.ptr true [.p (.dat true (.int .u8)),.p .bool]] (.c (.own .i)) [[.fro (.int .u8),.bool]] 0 (fun k d=>FT k (d.1,d.2.1)) (fun x=>(x.1,x.2.1,x.2.2,()))
theorem FU:zD prog vGv:=fX (rs:=.c (.own .i)) (os:=[[.fro (.int .u8),.bool]]) (ns:=0) f105 n0 1 (fun d=>(d.1,(d.2.1,d.2.2.1))) (e1 vJz) zG
def vQw:=yK 103 [.ptr true [.p (.dat true (.int .u8)),.p .bool],.c (.p .i)] (.c (.own .i)) [[.fro (.int .u8),.bool]] 0 (fun k d=>OJ k (d.1,d.2.1) d.2.2.1) (fun x=>(x.1,x.2.1,x.2.2,()))
theorem YB:zD prog vQw:=fX (rs:=.c (.own .i)) (os:=[[.fro (.int .u8),.bool]]) (ns:=0) f103 n0 1 (fun d=>(d.1,(d.2.1,d.2.2.1))) (e1 FU) zG
def yPu:zE:=⟨[(0,.c (.lit (.ptr 1001000 0))),(1,.c .i),(5,.c (.lit (.osl 1001001 none)))],[.box true FV,.arr true (.sl .i)],[(5,none,(.sl .i),false)]⟩
def qZv:zE:=⟨[(0,.c (.lit (.ptr 1001000 0))),(5,.c (.lit (.osl 1001001 none)))],[.box true FV,.arr true (.sl .i)],[]⟩
def yR3 (f:YC)(d:yPu.den):=f d.1.2.1.1 (d.2.1.1,d.2.1.2.1) d.2.2.1
def YD:zU:=⟨[yPu],[(.exit 0,qZv)],YE,fun k d=>yR3 (YF k k) d,fun b x _ K=>K (.exit 0) (zN b qZv (((),(),()),((x.1.1,x.1.2,()),x.2,())))⟩
def yB2:zW:=⟨[],[(2,YD)],[],true⟩
theorem vX7:zT prog 1000 1 23 (zQ (zS f104) 0) YD:=lp (A:=yB2) YD (fun d=>((d.2.1.1,d.2.1.2.1),d.2.2.1)) yR3 YF yHf (e1 FU) zG
def vFr:=yK 104 [.ptr true [.p (.dat true (.int .u8)),.p .bool],.c (.p .i)] (.c (.own (.sl .i))) [[.fro (.int .u8),.bool]] 0 (fun k d=>OK k (d.1,d.2.1) d.2.2.1) (fun x=>(x.1,x.2.1,x.2.2,()))
theorem YG:zD prog vFr:=fX (rs:=.c (.own (.sl .i))) (os:=[[.fro (.int .u8),.bool]]) (ns:=0) f104 yB2 1 (fun d=>(d.1,(d.2.1,d.2.2.1))) (e1 FU) (qB vX7)
def YH:=zJ 106 [.c (.dat false (.int .u8)),.c (.dat false (.int .u8))] (.c .bool) (fun k d=>vB6 k d.1 d.2.1) (fun x=>(x,()))
theorem YI:zD prog YH:=fA (rs:=.c .bool) f106 n0 (fun d=>d.1) e0 zG
def yG0:zE:=⟨[(0,.c (.dat true (.int .u8))),(2,.c (.lit (.ptr 1001000 0))),(4,.c (.lit (.ptr 1001001 0))),(5,.c (.lit (.osl 1001002 none))),(6,.c (.lit (.ptr 1001003 0))),(7,.c .i)],[.box true fb,.box true FV,.arr true .i,.box true yY3,.arr true qY],[(6,some 1,qY,false)]⟩
def yXa:zE:=⟨[(0,.c (.dat true (.int .u8))),(2,.c (.lit (.ptr 1001000 0))),(4,.c (.lit (.ptr 1001001 0))),(5,.c (.lit (.osl 1001002 none))),(6,.c (.lit (.ptr 1001003 0)))],[.box true fb,.box true FV,.arr true .i,.box true yY3,.arr true qY],[]⟩
def yY9 (f:YJ)(d:yG0.den):=f d.1.1.1 d.1.2.2.2.2.2.1.1 (d.2.1.1,d.2.1.2.1,d.2.1.2.2.1) (d.2.2.1.1,d.2.2.1.2.1) d.2.2.2.1 (d.2.2.2.2.1.1,d.2.2.2.2.1.2.1,d.2.2.2.2.1.2.2.1) d.2.2.2.2.2.1
def OM:zU:=⟨[yG0],[(.exit 0,yXa)],YK,fun k d=>yY9 (YL k k) d,fun b x _ K=>K (.exit 0) (zN b yXa (((x.1,()),(),(),(),(),()),((x.2.1.1,x.2.1.2.1,x.2.1.2.2,()),(x.2.2.1.1,x.2.2.1.2,()),x.2.2.2.1,(x.2.2.2.2.1.1,x.2.2.2.2.1.2.1,x.2.2.2.2.1.2.2,()),x.2.2.2.2.2,())))⟩
def yU5:zE:=⟨[(0,.c (.dat true (.int .u8))),(2,.c (.lit (.ptr 1001000 0))),(4,.c (.lit (.ptr 1001001 0))),(6,.c (.lit (.ptr 1001002 0))),(9,.c .i)],[.box true fb,.box true FV,.box true yWj,.arr true qY,.arr true (.sl .i),.arr true .i,.arr true (.sl .i),.arr true .i,.arr true (.sl .i),.arr true zH],[(6,some 7,zH,false)]⟩
def yYs:zE:=⟨[(0,.c (.dat true (.int .u8))),(2,.c (.lit (.ptr 1001000 0))),(4,.c (.lit (.ptr 1001001 0))),(6,.c (.lit (.ptr 1001002 0)))],[.box true fb,.box true FV,.box true yWj,.arr true qY,.arr true (.sl .i),.arr true .i,.arr true (.sl .i),.arr true .i,.arr true (.sl .i),.arr true zH],[]⟩
def yZb (f:YM)(d:yU5.den):=f d.1.1.1 d.1.2.2.2.2.1.1 (d.2.1.1,d.2.1.2.1,d.2.1.2.2.1) (d.2.2.1.1,d.2.2.1.2.1) (d.2.2.2.1.1,d.2.2.2.1.2.1,d.2.2.2.1.2.2.1) d.2.2.2.2.1 d.2.2.2.2.2.1 d.2.2.2.2.2.2.1 d.2.2.2.2.2.2.2.1 d.2.2.2.2.2.2.2.2.1 d.2.2.2.2.2.2.2.2.2.1 d.2.2.2.2.2.2.2.2.2.2.1
def ON:zU:=⟨[yU5],[(.exit 2,yYs)],YN,fun k d=>yZb (YO k k) d,fun b x _ K=>K (.exit 2) (zN b yYs (((x.1,()),(),(),(),()),((x.2.1.1,x.2.1.2.1,x.2.1.2.2,()),(x.2.2.1.1,x.2.2.1.2,()),(x.2.2.2.1.1,x.2.2.2.1.2.1,x.2.2.2.1.2.2,()),x.2.2.2.2.1,x.2.2.2.2.2.1,x.2.2.2.2.2.2.1,x.2.2.2.2.2.2.2.1,x.2.2.2.2.2.2.2.2.1,x.2.2.2.2.2.2.2.2.2.1,x.2.2.2.2.2.2.2.2.2.2,())))⟩
def YP:zW:=⟨[],[(5,OM),(15,ON)],[],true⟩
theorem vNb:zT prog 1000 0 146 (zQ (zS f58) 0) OM:=lp (A:=YP) OM (fun d=>(d.1.1.1,(d.2.1.1,d.2.1.2.1,d.2.1.2.2.1),(d.2.2.1.1,d.2.2.1.2.1),d.2.2.2.1,(d.2.2.2.2.1.1,d.2.2.2.2.1.2.1,d.2.2.2.2.1.2.2.1),d.2.2.2.2.2.1)) yY9 YL yNx (e5 YB YG FU tI YI) zG
theorem YQ:zT prog 1000 0 146 (zQ (zS f58) 1) ON:=lp (A:=YP) ON (fun d=>(d.1.1.1,(d.2.1.1,d.2.1.2.1,d.2.1.2.2.1),(d.2.2.1.1,d.2.2.1.2.1),(d.2.2.2.1.1,d.2.2.2.1.2.1,d.2.2.2.1.2.2.1),d.2.2.2.2.1,d.2.2.2.2.2.1,d.2.2.2.2.2.2.1,d.2.2.2.2.2.2.2.1,d.2.2.2.2.2.2.2.2.1,d.2.2.2.2.2.2.2.2.2.1,d.2.2.2.2.2.2.2.2.2.2.1)) yZb YO yP6 (e5 YB YG FU tI YI) zG
def vVb:=zJ 58 [.c (.dat true (.int .u8))] (.tup [(true,kC),(false,[.bool])]) (fun k d=>OO k d.1) (fun x=>(wA x.1 (x.2,())))
theorem OP:zD prog vVb:=fA (rs:=.tup [(true,kC),(false,[.bool])]) f58 YP (fun d=>((qZ d),d.2.2.2.2.2.2.2.2.2.2.2.1)) (e5 YB YG FU tI YI) (loopsOK_of (n:=2) (by kernel_rfl) fun i hi=>match i,hi with|0,_=>⟨OM,by kernel_rfl,vNb⟩|1,_=>⟨ON,by kernel_rfl,YQ⟩|i+2,hi=>absurd hi (by omega))
def vWb:=zJ 67 [.c .i] (.c .i) (fun k d=>tw k d.1) (fun x=>(x,()))
theorem OQ:zD prog vWb:=fA (rs:=.c .i) f67 n0 (fun d=>d.1) e0 zG
def vPd:=zJ 29 [.c (.dat false (.int .u8))] (.tup [(true,fc),(false,qF)]) (fun k d=>nM k d.1) (fun x=>(eX x.1 (x.2,())))
theorem J3:zD prog vPd:=fA (rs:=.tup [(true,fc),(false,qF)]) f29 n0 (fun d=>((vJ d),d.2.2.2.2.2.2.2.1)) (e2 J0 OQ) zG
def vJh:=zJ 60 [.c (.dat false (.int .u8))] (.tup [(true,FP),(false,qF)]) (fun k d=>YR k d.1) (fun x=>(A6 x.1 (x.2,())))
theorem OR:zD prog vJh:=fA (rs:=.tup [(true,FP),(false,qF)]) f60 n0 (fun d=>((lx d),d.2.2.2.2.2.2.2.2.1)) (e2 J0 J3) zG
def vXu:=zJ 132 [.c .i] (.c .bool) (fun k d=>NM k d.1) (fun x=>(x,()))
theorem YS:zD prog vXu:=fA (rs:=.c .bool) f132 n0 (fun d=>d.1) e0 zG
def vP1:=zJ 133 [.c .i] (.c .bool) (fun k d=>Jx k d.1) (fun x=>(x,()))
theorem YT:zD prog vP1:=fA (rs:=.c .bool) f133 n0 (fun d=>d.1) e0 zG
def yAr:zE:=⟨[(13,.c (.dat true .i)),(14,.c .i),(15,.c .i)],[],[]⟩
def yTn:zE:=⟨[],[],[]⟩
def yD7:zE:=⟨[(2,.c .bool)],[],[]⟩
def yGp (f:YU)(d:yAr.den):=f d.1.1.1 d.1.2.1.1 d.1.2.2.1.1
def YV:zU:=⟨[yAr],[(.exit 0,yTn),(.ret,yD7)],(Unit⊕Bool),fun k d=>yGp (tx k k) d,fun b x _ K=>match x with|.inl x=>K (.exit 0) (zN b yTn ((),()))|.inr x=>K .ret (zN b yD7 (((x,()),()),()))⟩
def yRq:zW:=⟨[],[(5,YV)],[],true⟩
theorem vO9:zT prog 1000 0 22 (zQ (zS f134) 0) YV:=lp (A:=yRq) YV (fun d=>match d with|.inl d=>.inl ()|.inr d=>.inr d.1.1.1) yGp tx wg (e1 OQ) zG
def vNr:=zJ 134 [.agg vE] (.c .bool) (fun k d=>qy k (vJ d)) (fun x=>(x,()))
theorem yP4:zD prog vNr:=fA (rs:=.c .bool) f134 yRq (fun d=>d.1) (e1 OQ) (qB vO9)
def vXt:=zJ 88 [.agg iU,.agg rr,.agg A5] (.c .i) (fun k d=>tz k (yG d) (rf d) (W3 d)) (fun x=>(x,()))
theorem vOl:zD prog vXt:=fA (rs:=.c .i) f88 n0 (fun d=>d.1) (e3 YS YT yP4) zG
def vRf:=zJ 194 [.agg vE,.ptr [.i]] (.c .bool) (fun k d=>(lv (UL k) d)) (fun x=>(x,()))
theorem yOq:zD prog vRf:=fA (rs:=.c .bool) f194 ⟨[],[],[],false⟩ (fun d=>d.1) e0 zG
def yU1:zE:=⟨[(1,.c (.lit (.fn 194 [1001000]))),(5,.c (.lit (.osl 1001001 none))),(8,.c (.dat false zH)),(9,.c .i),(10,.c .i)],[.robox [.i],.arr true zH],[(5,none,zH,false)]⟩
def yRt:zE:=⟨[(5,.c (.lit (.osl 1001000 none)))],[.arr true zH],[]⟩
def yYy (f:YW)(d:yU1.den):=f d.1.2.2.1.1 d.1.2.2.2.1.1 d.1.2.2.2.2.1.1 d.2.1.1 d.2.2.1
def YX:zU:=⟨[yU1],[(.exit 0,yRt)],YY,fun k d=>yYy (IS k k) d,fun b x _ K=>K (.exit 0) (zN b yRt (((),()),(x,())))⟩
def yT9:zW:=⟨[],[(3,YX)],[],false⟩
theorem vFp:zT prog 1000 0 23 (zQ (zS f193) 0) YX:=lp (A:=yT9) YX (fun d=>d.2.1) yYy IS Ej (e1 yOq) zG
def vJ1:=zJ 193 [.c (.dat false zH),.fn 194 [[.i]]] (.c (.own zH)) (fun k d=>UK k d.1 d.2.1) (fun x=>(x,()))
theorem YZ:zD prog vJ1:=fA (rs:=.c (.own zH)) f193 yT9 (fun d=>d.1) (e1 yOq) (qB vFp)
def vGl:=zJ 135 [.c (.dat false zH),.c .i] (.c (.own zH)) (fun k d=>IQ k d.1 d.2.1) (fun x=>(x,()))
theorem J4:zD prog vGl:=fA (rs:=.c (.own zH)) f135 ⟨[],[],[],false⟩ (fun d=>d.1) (e1 YZ) zG
def vMl:=yK 90 [.ptr true [.p .i,.p (.nil),.p .i,.p .i,.p .i,.p .i,.p (.nil),.p (.nil),.p (.nil),.p (.nil),.p (.nil),.p (.nil),.p (.nil),.p (.nil),.p .i,.p .bool,.p .i,.p (.nil)],.c (.p .i),.c (.p (.dat false .i))] (.tup []) [yNz] 0 (fun k d=>yJb k (d.1,(OT d (d.2.2.2.2.2.2.2.2.2.2.2.2.2.2.1,d.2.2.2.2.2.2.2.2.2.2.2.2.2.2.2.1,d.2.2.2.2.2.2.2.2.2.2.2.2.2.2.2.2.1))) d.2.2.2.2.2.2.2.2.2.2.2.2.2.2.2.2.2.2.1 d.2.2.2.2.2.2.2.2.2.2.2.2.2.2.2.2.2.2.2.1) (fun x=>(wY x ()))
theorem vUb:zD prog vMl:=fX (rs:=.tup []) (os:=[yNz]) (ns:=0) f90 n0 1 (fun d=>(jQ d)) e0 zG
def vX2:=zJ 89 [.agg rr,.c .i] (.c (.own qN)) (fun k d=>Jz k (qZ d) d.2.2.2.2.2.2.2.2.2.2.2.1) (fun x=>(x,()))
theorem vSt:zD prog vX2:=fA (rs:=.c (.own qN)) f89 n0 (fun d=>d.1) (e2 J4 vUb) zG
def vWw:=yK 90 [.ptr true w7,.c (.p .i),.c (.p (.dat false .i))] (.tup []) [wP] 0 (fun k d=>NS k (kE d) d.2.2.2.2.2.2.2.2.2.2.2.2.2.2.2.2.2.2.1 d.2.2.2.2.2.2.2.2.2.2.2.2.2.2.2.2.2.2.2.1) (fun x=>(wY x ()))
theorem yPj:zD prog vWw:=fX (rs:=.tup []) (os:=[wP]) (ns:=0) f90 n0 1 (fun d=>(jQ d)) e0 zG
def vWn:=zJ 107 [.c .i,.c .i,.c .i] (.c .bool) (fun k d=>vF k d.1 d.2.1 d.2.2.1) (fun x=>(x,()))
theorem gO:zD prog vWn:=fA (rs:=.c .bool) f107 n0 (fun d=>d.1) e0 zG
def Y0:=zJ 271 [.agg iU,.c .i] (.c .bool) (fun k d=>I2 k (yG d) d.2.2.2.2.2.1) (fun x=>(x,()))
theorem vQy:zD prog Y0:=fA (rs:=.c .bool) f271 n0 (fun d=>d.1) e0 zG
def vKn:=zJ 238 [.agg iU,.c .i,.agg vE] (.c .bool) (fun k d=>Nc k (yG d) d.2.2.2.2.2.1 (Y1 d)) (fun x=>(x,()))
theorem vS5:zD prog vKn:=fA (rs:=.c .bool) f238 n0 (fun d=>d.1) (e1 vQy) zG
def vPn:=zJ 200 [.agg iU,.c .i,.c .i] (.c .i) (fun k d=>zt k (yG d) d.2.2.2.2.2.1 d.2.2.2.2.2.2.1) (fun x=>(x,()))
theorem Y2:zD prog vPn:=fA (rs:=.c .i) f200 n0 (fun d=>d.1) e0 zG
def vUn:=zJ 195 [.agg iU,.c .i,.agg vE] (.c .i) (fun k d=>EE k (yG d) d.2.2.2.2.2.1 (Y1 d)) (fun x=>(x,()))
theorem yZp:zD prog vUn:=fA (rs:=.c .i) f195 n0 (fun d=>d.1) (e2 vS5 Y2) zG
def vPw:=zJ 285 [.c .i] (.c .bool) (fun k d=>MK k d.1) (fun x=>(x,()))
theorem vVn:zD prog vPw:=fA (rs:=.c .bool) f285 n0 (fun d=>d.1) e0 zG
def vM5:=zJ 257 [.c .i,.c .i] (.c .bool) (fun k d=>MJ k d.1 d.2.1) (fun x=>(x,()))
theorem yNr:zD prog vM5:=fA (rs:=.c .bool) f257 n0 (fun d=>d.1) (e1 vVn) zG
def vUv:=zJ 258 [.c .i] (.c .bool) (fun k d=>MM k d.1) (fun x=>(x,()))
theorem yC7:zD prog vUv:=fA (rs:=.c .bool) f258 n0 (fun d=>d.1) e0 zG
def yV9:zE:=⟨[(0,.c (.dat false .i)),(1,.c .i),(6,.c .i),(7,.c .i),(8,.c .i)],[],[]⟩
def yF7:zE:=⟨[(0,.c (.dat false .i)),(1,.c .i),(6,.c .i),(7,.c .i)],[],[]⟩
def yCq (f:Y3)(d:yV9.den):=f d.1.1.1 d.1.2.1.1 d.1.2.2.1.1 d.1.2.2.2.1.1 d.1.2.2.2.2.1.1
def Y4:zU:=⟨[yV9],[(.exit 0,yF7)],Y5,fun k d=>yCq (IB k k) d,fun b x _ K=>K (.exit 0) (zN b yF7 (((x.1,()),(x.2.1,()),(x.2.2.1,()),(x.2.2.2,()),()),()))⟩
def yKt:zW:=⟨[],[(3,Y4)],[],true⟩
theorem Y6:zT prog 1000 0 54 (zQ (zS f222) 0) Y4:=lp (A:=yKt) Y4 (fun d=>(d.1.1.1,d.1.2.1.1,d.1.2.2.1.1,d.1.2.2.2.1.1)) yCq IB ML (e2 yNr yC7) zG
def vUz:=zJ 222 [.c (.dat false .i),.c .i] (.tup [(false,qF),(false,[.bool])]) (fun k d=>DU k d.1 d.2.1) (fun x=>(x.1,x.2,()))
theorem yE1:zD prog vUz:=fA (rs:=.tup [(false,qF),(false,[.bool])]) f222 yKt (fun d=>(d.1,d.2.1)) (e2 yNr yC7) (qB Y6)
def vY2:=uM 240 false .i (.own .i) oL
theorem J5:zD prog vY2:=fC f240 ⟨[],[],[],false⟩ e0 zG
theorem vVa (A X:Option Addr)(n c vc:Nat)(w w':World)(rv:Value)(hr:(Builtin.append_ #[37,37] 37 #[.slice A n c,.slice X 1 vc]).run prog w=.ok rv w'):
    Calls prog 239 #[.slice A n c,.int .i64 n,.slice X 1 vc] w fun e nC=>e=.returned rv∧nC=w':=by
  have t0:prog.underlying 37=some (.slice 2):=by kernel_rfl
  have t3:prog.underlying 3=some (.int .i64):=by kernel_rfl
  have z0:∀w,(Go.sizeOf 2).run prog w=.ok 1 w:=fun w=>by kernel_rfl
  have u0:=run_underlying t0;have u3:=run_underlying t3
  go_enter Proofs.Tryz.func239,Proofs.Tryz.ntmps239
  go_wp2_with (at_builtin;refine Lib.wpList_append_run _ rfl _ _ _ _ rfl _ _ rfl rfl _ _ hr ?_)
  all_goals (go_ret;exact⟨rfl,rfl⟩)
theorem vLf:LI prog 239 37 3 1 where
  ends:=vVa
  grow B off n c i X vo vc N G w w1 w2 w3 hi hnc aU I5 hG hz hA hB:=by
    simp only[Nat.mul_one] at hA hB
    have t0:prog.underlying 37=some (.slice 2):=by kernel_rfl
    have t3:prog.underlying 3=some (.int .i64):=by kernel_rfl
    have z0:∀w,(Go.sizeOf 2).run prog w=.ok 1 w:=fun w=>by kernel_rfl
    have u0:=run_underlying t0;have u3:=run_underlying t3
    have mixed:prog.follows .mixedOrders=true:=fW
    have Y7:¬((i:Int)=(n:Int)):=by omega
    have pX:IntKind.i64.wrap ((i:Int)+1)=(i:Int)+1:=by rw[IntKind.wrap_i64];omega
    have gC:(0:Int)≤(i:Int)+1:=by omega
    have fk:i≤n:=by omega
    have gj:((i:Int)+1).toNat=i+1:=by omega
    have Y8:¬(c=i):=by omega
    have hz3:(c:Int)<(n:Int)+1:=by omega
    have Y9:(i:Int)≤(n:Int):=by omega
    have hGi:¬(G=i):=by omega
    have Za:¬(G=i+1):=by omega
    go_enter Proofs.Tryz.func239,Proofs.Tryz.ntmps239
    go_wp2_with (first
      |(at_builtin;refine Lib.wpList_append_run _ rfl _ _ _ _ rfl _ _ rfl rfl _ _ hz ?_)
      |(at_builtin;refine LM _ rfl _ _ 37 37 rfl _ _ rfl rfl (hA _) ?_))
    go_region_law_o (refine LN rfl _ _ 37 37 rfl (.slice (some ⟨N,(i+1),none⟩) (n+1-(i+1)) (G-(i+1))) (.slice (some ⟨B,off+i,none⟩) (n-i) (c-i)) (by simp[Act.eval,Act.put]) (by simp[Act.eval,Act.put]) (hB (G-(i+1)) (c-i)) ?_)
    go_wp2
    go_ret
    exact⟨rfl,rfl⟩
  shift B off n c i X vo vc w w1 w2 hi aU I5 pR hA hB:=by
    simp only[Nat.mul_one] at hA hB
    have t0:prog.underlying 37=some (.slice 2):=by kernel_rfl
    have t3:prog.underlying 3=some (.int .i64):=by kernel_rfl
    have z0:∀w,(Go.sizeOf 2).run prog w=.ok 1 w:=fun w=>by kernel_rfl
    have u0:=run_underlying t0;have u3:=run_underlying t3
    have mixed:prog.follows .mixedOrders=true:=fW
    have Y7:¬((i:Int)=(n:Int)):=by omega
    have pX:IntKind.i64.wrap ((i:Int)+1)=(i:Int)+1:=by rw[IntKind.wrap_i64];omega
    have gC:(0:Int)≤(i:Int)+1:=by omega
    have fk:i≤n:=by omega
    have gj:((i:Int)+1).toNat=i+1:=by omega
    have Y8:¬(c=i):=by omega
    have AI:=fun lb cb=>yH4 (P:=prog) (fo:=272) (tb:=4) (e:=2) (size:=1) Proofs.Tryz.func272 (by kernel_rfl) (by kernel_rfl) (by kernel_rfl) (by kernel_rfl) t0 z0 pR vo (off+(i+1)) vc lb cb
    have Wp:¬(c=i+1):=by omega
    have Y9:(i:Int)≤(n:Int)+1:=by omega
    go_enter Proofs.Tryz.func239,Proofs.Tryz.ntmps239
    go_wp2_with (simp only[AI])
    go_region_law_o (refine LN rfl _ _ 37 37 rfl (.slice (some ⟨B,off+(i+1),none⟩) (n-i) (c-(i+1))) (.slice (some ⟨B,off+i,none⟩) (n+1-i) (c-i)) (by simp[Act.eval,Act.put]) (by simp[Act.eval,Act.put]) (hA _ _) ?_)
    go_wp2_with (at_builtin;refine LM _ rfl _ _ 37 37 rfl _ _ rfl rfl (hB _) ?_)
    go_ret
    exact⟨rfl,rfl⟩
def vQn:Nat×mI:=(239,S6 .i 8)
theorem vLq:zD prog vQn:=vB8 (e:=2) (fn:=f239) vLf
def vHa:=zJ 196 [.c (.dat true .i),.c .i] (.tup [(false,[.fro .i]),(false,qF)]) (fun k d=>DV k d.1 d.2.1) (fun x=>(x.1,x.2,()))
theorem yIe:zD prog vHa:=fA (rs:=.tup [(false,[.fro .i]),(false,qF)]) f196 n0 (fun d=>(d.1,d.2.1)) (e3 yE1 J5 vLq) zG
def Zb:=zJ 149 [.agg vE,.ptr [.i]] (.c .bool) (fun k d=>(lv (Ui k) d)) (fun x=>(x,()))
theorem yKx:zD prog Zb:=fA (rs:=.c .bool) f149 ⟨[],[],[],false⟩ (fun d=>d.1) e0 zG
def yU6:zE:=⟨[(0,.c (.dat false zH)),(1,.c (.lit (.fn 149 [1001000]))),(7,.c .i),(8,.c .i)],[.robox [.i]],[]⟩
def yC5:zE:=⟨[],[],[]⟩
def yDh:zE:=⟨[(4,.c .i)],[],[]⟩
def yIh (f:Zc)(d:yU6.den):=f d.1.1.1 d.1.2.2.1.1 d.1.2.2.2.1.1 d.2.1.1
def Zd:zU:=⟨[yU6],[(.exit 0,yC5),(.ret,yDh)],(Unit⊕Int),fun k d=>yIh (DG k k) d,fun b x _ K=>match x with|.inl x=>K (.exit 0) (zN b yC5 ((),()))|.inr x=>K .ret (zN b yDh (((x,()),()),()))⟩
def yGh:zW:=⟨[],[(2,Zd)],[],false⟩
theorem vJc:zT prog 1000 0 19 (zQ (zS f148) 0) Zd:=lp (A:=yGh) Zd (fun d=>match d with|.inl d=>.inl ()|.inr d=>.inr d.1.1.1) yIh DG DH (e1 yKx) zG
def vLu:=zJ 148 [.c (.dat false zH),.fn 149 [[.i]]] (.c .i) (fun k d=>Uj k d.1 d.2.1) (fun x=>(x,()))
theorem vUm:zD prog vLu:=fA (rs:=.c .i) f148 yGh (fun d=>d.1) (e1 yKx) (qB vJc)
def vJu:=zJ 94 [.c (.dat false zH),.c .i] (.c .i) (fun k d=>nE k d.1 d.2.1) (fun x=>(x,()))
theorem w8:zD prog vJu:=fA (rs:=.c .i) f94 ⟨[],[],[],false⟩ (fun d=>d.1) (e1 vUm) zG
def vQl:=zJ 286 [.c .i] (.c .bool) (fun k d=>MH k d.1) (fun x=>(x,()))
theorem vS6:zD prog vQl:=fA (rs:=.c .bool) f286 ⟨[],[],[],false⟩ (fun d=>d.1) e0 zG
def vKj:=zJ 260 [.c .i,.c .i] (.c .i) (fun k d=>Iw k d.1 d.2.1) (fun x=>(x,()))
theorem vZ5:zD prog vKj:=fA (rs:=.c .i) f260 ⟨[],[],[],false⟩ (fun d=>d.1) (e1 vS6) zG
def ySg:zE:=⟨[(3,.c .i),(6,.c (.dat false .i)),(7,.c .i),(8,.c .i)],[],[]⟩
def qZr:zE:=⟨[(3,.c .i)],[],[]⟩
def yX9:zE:=⟨[(2,.c .i)],[],[]⟩
def yQr (f:Ze)(d:ySg.den):=f d.1.1.1 d.1.2.1.1 d.1.2.2.1.1 d.1.2.2.2.1.1
def Zf:zU:=⟨[ySg],[(.exit 0,qZr),(.ret,yX9)],(Int⊕Int),fun k d=>yQr (DI k k) d,fun b x _ K=>match x with|.inl x=>K (.exit 0) (zN b qZr (((x,()),()),()))|.inr x=>K .ret (zN b yX9 (((x,()),()),()))⟩
def vCh:zW:=⟨[],[(3,Zf)],[],false⟩
theorem vLm:zT prog 1000 0 18 (zQ (zS f259) 0) Zf:=lp (A:=vCh) Zf (fun d=>match d with|.inl d=>.inl d.1.1.1|.inr d=>.inr d.1.1.1) yQr DI yR9 e0 zG
def Zg:=zJ 259 [.c (.dat false .i)] (.c .i) (fun k d=>MG k d.1) (fun x=>(x,()))
theorem vD3:zD prog Zg:=fA (rs:=.c .i) f259 vCh (fun d=>d.1) e0 (qB vLm)
def vSh:=zJ 224 [.agg vE,.agg vE] (.c .i) (fun k d=>(FW (DJ k) d)) (fun x=>(x,()))
theorem FX:zD prog vSh:=fA (rs:=.c .i) f224 ⟨[],[],[],false⟩ (fun d=>d.1) (e2 vZ5 vD3) zG
def vFi:=uM 242 false zH (.own zH) uX
theorem OU:zD prog vFi:=fC f242 ⟨[],[],[],false⟩ e0 zG
theorem vT6 (A X:Option Addr)(n c vc:Nat)(w w':World)(rv:Value)(hr:(Builtin.append_ #[40,40] 40 #[.slice A n c,.slice X 1 vc]).run prog w=.ok rv w'):
    Calls prog 241 #[.slice A n c,.int .i64 n,.slice X 1 vc] w fun e nC=>e=.returned rv∧nC=w':=by
  have t0:prog.underlying 40=some (.slice 142):=by kernel_rfl
  have t3:prog.underlying 3=some (.int .i64):=by kernel_rfl
  have z0:∀w,(Go.sizeOf 142).run prog w=.ok 7 w:=fun w=>by kernel_rfl
  have u0:=run_underlying t0;have u3:=run_underlying t3
  go_enter Proofs.Tryz.func241,Proofs.Tryz.ntmps241
  go_wp2_with (at_builtin;refine Lib.wpList_append_run _ rfl _ _ _ _ rfl _ _ rfl rfl _ _ hr ?_)
  all_goals (go_ret;exact⟨rfl,rfl⟩)
theorem vPi:LI prog 241 40 3 7 where
  ends:=vT6
  grow B off n c i X vo vc N G w w1 w2 w3 hi hnc aU I5 hG hz hA hB:=by
    have t0:prog.underlying 40=some (.slice 142):=by kernel_rfl
    have t3:prog.underlying 3=some (.int .i64):=by kernel_rfl
    have z0:∀w,(Go.sizeOf 142).run prog w=.ok 7 w:=fun w=>by kernel_rfl
    have u0:=run_underlying t0;have u3:=run_underlying t3
    have mixed:prog.follows .mixedOrders=true:=fW
    have Y7:¬((i:Int)=(n:Int)):=by omega
    have pX:IntKind.i64.wrap ((i:Int)+1)=(i:Int)+1:=by rw[IntKind.wrap_i64];omega
    have gC:(0:Int)≤(i:Int)+1:=by omega
    have fk:i≤n:=by omega
    have gj:((i:Int)+1).toNat=i+1:=by omega
    have Y8:¬(c=i):=by omega
    have hz3:(c:Int)<(n:Int)+1:=by omega
    have Y9:(i:Int)≤(n:Int):=by omega
    have hGi:¬(G=i):=by omega
    have Za:¬(G=i+1):=by omega
    go_enter Proofs.Tryz.func241,Proofs.Tryz.ntmps241
    go_wp2_with (first
      |(at_builtin;refine Lib.wpList_append_run _ rfl _ _ _ _ rfl _ _ rfl rfl _ _ hz ?_)
      |(at_builtin;refine LM _ rfl _ _ 40 40 rfl _ _ rfl rfl (hA _) ?_))
    go_region_law_o (refine LN rfl _ _ 40 40 rfl (.slice (some ⟨N,(i+1)*7,none⟩) (n+1-(i+1)) (G-(i+1))) (.slice (some ⟨B,off+i*7,none⟩) (n-i) (c-i)) (by simp[Act.eval,Act.put]) (by simp[Act.eval,Act.put]) (hB (G-(i+1)) (c-i)) ?_)
    go_wp2
    go_ret
    exact⟨rfl,rfl⟩
  shift B off n c i X vo vc w w1 w2 hi aU I5 pR hA hB:=by
    have t0:prog.underlying 40=some (.slice 142):=by kernel_rfl
    have t3:prog.underlying 3=some (.int .i64):=by kernel_rfl
    have z0:∀w,(Go.sizeOf 142).run prog w=.ok 7 w:=fun w=>by kernel_rfl
    have u0:=run_underlying t0;have u3:=run_underlying t3
    have mixed:prog.follows .mixedOrders=true:=fW
    have Y7:¬((i:Int)=(n:Int)):=by omega
    have pX:IntKind.i64.wrap ((i:Int)+1)=(i:Int)+1:=by rw[IntKind.wrap_i64];omega
    have gC:(0:Int)≤(i:Int)+1:=by omega
    have fk:i≤n:=by omega
    have gj:((i:Int)+1).toNat=i+1:=by omega
    have Y8:¬(c=i):=by omega
    have AI:=fun lb cb=>yH4 (P:=prog) (fo:=274) (tb:=4) (e:=142) (size:=7) Proofs.Tryz.func274 (by kernel_rfl) (by kernel_rfl) (by kernel_rfl) (by kernel_rfl) t0 z0 pR vo (off+(i+1)*7) vc lb cb
    have Wp:¬(c=i+1):=by omega
    have Y9:(i:Int)≤(n:Int)+1:=by omega
    go_enter Proofs.Tryz.func241,Proofs.Tryz.ntmps241
    go_wp2_with (simp only[AI])
    go_region_law_o (refine LN rfl _ _ 40 40 rfl (.slice (some ⟨B,off+(i+1)*7,none⟩) (n-i) (c-(i+1))) (.slice (some ⟨B,off+i*7,none⟩) (n+1-i) (c-i)) (by simp[Act.eval,Act.put]) (by simp[Act.eval,Act.put]) (hA _ _) ?_)
    go_wp2_with (at_builtin;refine LM _ rfl _ _ 40 40 rfl _ _ rfl rfl (hB _) ?_)
    go_ret
    exact⟨rfl,rfl⟩
def vLp:Nat×mI:=(241,S6 zH 56)
theorem OV:zD prog vLp:=vB8 (e:=142) (fn:=f241) vPi
def yB0:zE:=⟨[(0,.c (.dat true zH)),(3,.c (.lit (.ptr 1001000 0))),(6,.c .i)],[.box true vU],[]⟩
def yKn:zE:=⟨[(0,.c (.dat true zH)),(3,.c (.lit (.ptr 1001000 0))),(6,.c .i)],[.box true vU],[]⟩
def yLu (f:Zh)(d:yB0.den):=f d.1.1.1 d.1.2.2.1.1 (vJ d.2.1)
def Zi:zU:=⟨[yB0],[(.exit 1,yKn)],Zj,fun k d=>yLu (DM k k) d,fun b x _ K=>K (.exit 1) (zN b yKn (((x.1,()),(),(x.2.1,()),()),((eX x.2.2 ()),())))⟩
def vAc:zW:=⟨[],[(6,Zi)],[],true⟩
theorem Zk:zT prog 1000 0 40 (zQ (zS f197) 0) Zi:=lp (A:=vAc) Zi (fun d=>(d.1.1.1,d.1.2.2.1.1,(vJ d.2.1))) yLu DM DN (e4 w8 FX OU OV) zG
def vNt:=zJ 197 [.c (.dat true zH),.agg vE] (.tup [(false,vL),(false,qF)]) (fun k d=>uY k d.1 (DQ d)) (fun x=>(x.1,x.2,()))
theorem OW:zD prog vNt:=fA (rs:=.tup [(false,vL),(false,qF)]) f197 vAc (fun d=>(d.1,d.2.1)) (e4 w8 FX OU OV) (qB Zk)
def vDo:=yK 136 [.ptr true w9,.agg JT] (.c .i) [wP] 0 (fun k d=>Nd k (jQ d) (yUp d)) (fun x=>(x.1,(wY x.2 ())))
theorem vLj:zD prog vDo:=fX (rs:=.c .i) (os:=[wP]) (ns:=0) f136 n0 1 (fun d=>(d.1,(iV d))) (e4 gO yZp yIe OW) zG
def vGb:=zJ 198 [.ptr Zl,.c .i] (.tup [(true,fc),(false,qF)]) (fun k d=>Zm k (jQ d) d.2.2.2.2.2.2.2.2.2.2.2.2.2.2.2.2.2.2.1) (fun x=>(eX x.1 (x.2,())))
theorem yY1:zD prog vGb:=fA (rs:=.tup [(true,fc),(false,qF)]) f198 n0 (fun d=>((vJ d),d.2.2.2.2.2.2.2.1)) (e1 w8) zG
def Zn:=yK 243 [.c (.own zH),.c (.p .i),.c (.p .i)] (.c (.own zH)) [] 0 (fun k d=>Iv k d.1 d.2.1 d.2.2.1) (fun x=>(x,()))
theorem vA8:zD prog Zn:=fX (rs:=.c (.own zH)) (os:=[]) (ns:=0) f243 ⟨[],[],[],false⟩ 0 (fun d=>d.1) e0 zG
def Zo:=zJ 199 [.c (.dat true zH),.c .i] (.tup [(false,vL),(true,fc),(false,qF)]) (fun k d=>oO k d.1 d.2.1) (fun x=>(OX x ()))
theorem o0:zD prog Zo:=fA (rs:=.tup [(false,vL),(true,fc),(false,qF)]) f199 ⟨[],[],[],false⟩ (fun d=>(OY d)) (e3 w8 OU vA8) zG
def vTo:=yK 90 [.ptr true w9,.c (.p .i),.c (.p (.dat false .i))] (.tup []) [wP] 0 (fun k d=>vt k (jQ d) d.2.2.2.2.2.2.2.2.2.2.2.2.2.2.2.2.2.2.1 d.2.2.2.2.2.2.2.2.2.2.2.2.2.2.2.2.2.2.2.1) (fun x=>(wY x ()))
theorem yQ3:zD prog vTo:=fX (rs:=.tup []) (os:=[wP]) (ns:=0) f90 n0 1 (fun d=>(jQ d)) e0 zG
def vMm:=zJ 201 [.c (.dat true zH),.c .i,.c .i] (.tup [(false,vL),(false,qF)]) (fun k d=>DO k d.1 d.2.1 d.2.2.1) (fun x=>(x.1,x.2,()))
theorem yR8:zD prog vMm:=fA (rs:=.tup [(false,vL),(false,qF)]) f201 n0 (fun d=>(d.1,d.2.1)) (e2 o0 OW) zG
def vG5:=zJ 199 [.c (.dat false zH),.c .i] (.tup [(false,[.own zH]),(true,fc),(false,qF)]) (fun k d=>Uq k d.1 d.2.1) (fun x=>(OX x ()))
theorem vAo:zD prog vG5:=fA (rs:=.tup [(false,[.own zH]),(true,fc),(false,qF)]) f199 ⟨[],[],[],false⟩ (fun d=>(OY d)) (e3 w8 OU vA8) zG
def yI3:zE:=⟨[(6,.c (.lit (.osl 1001000 none))),(7,.c (.lit (.ptr 1001001 0))),(9,.c .i)],[.arr true zH,.box true vU],[]⟩
def yVh:zE:=⟨[(6,.c (.lit (.osl 1001000 none))),(7,.c (.lit (.ptr 1001001 0))),(9,.c .i)],[.arr true zH,.box true vU],[]⟩
def yAa (f:Zp)(d:yI3.den):=f d.1.2.2.1.1 d.2.1 (vJ d.2.2.1)
def Zq:zU:=⟨[yI3],[(.exit 0,yVh)],Zr,fun k d=>yAa (DR k k) d,fun b x _ K=>K (.exit 0) (zN b yVh (((),(),(x.1,()),()),(x.2.1,(eX x.2.2 ()),())))⟩
def yKg:zW:=⟨[],[(5,Zq)],[],true⟩
theorem vOd:zT prog 1000 0 41 (zQ (zS f202) 0) Zq:=lp (A:=yKg) Zq (fun d=>(d.1.2.2.1.1,d.2.1,(vJ d.2.2.1))) yAa DR DS (e3 vAo FX OV) zG
def vGq:=zJ 202 [.c (.dat true zH),.c .i] (.tup [(false,vL),(false,qF)]) (fun k d=>DT k d.1 d.2.1) (fun x=>(x.1,x.2,()))
theorem yRl:zD prog vGq:=fA (rs:=.tup [(false,vL),(false,qF)]) f202 yKg (fun d=>(d.1,d.2.1)) (e3 vAo FX OV) (qB vOd)
def vQ8:=zJ 203 [.c (.dat true zH),.c .i] (.tup [(false,vL),(false,qF)]) (fun k d=>DP k d.1 d.2.1) (fun x=>(x.1,x.2,()))
theorem vBy:zD prog vQ8:=fA (rs:=.tup [(false,vL),(false,qF)]) f203 n0 (fun d=>(d.1,d.2.1)) (e2 o0 OW) zG
def vUs:=yK 137 [.ptr true w9,.agg vE] (.c .i) [wP] 0 (fun k d=>zu k (jQ d) (FY d)) (fun x=>(x.1,(wY x.2 ())))
theorem vZr:zD prog vUs:=fX (rs:=.c .i) (os:=[wP]) (ns:=0) f137 n0 1 (fun d=>(d.1,(iV d))) (e8 yY1 o0 yQ3 gO Y2 yR8 yRl vBy) zG
def vZw:=uM 244 false qY (.own qY) TF
theorem vFe:zD prog vZw:=fC f244 ⟨[],[],[],false⟩ e0 zG
def Zs:=uM 207 true (.sl .i) (.jun) TA
theorem qZ6:zD prog Zs:=fC f207 ⟨[],[],[],false⟩ e0 zG
def yVl:zE:=⟨[(3,.c (.lit (.osl 1001000 none))),(8,.c (.dat true (.sl .i))),(9,.c .i),(10,.c .i)],[.pmat],[]⟩
def yBh:zE:=⟨[(3,.c (.lit (.osl 1001000 none)))],[.pmat],[]⟩
def yVc (f:Zt)(d:yVl.den):=f d.1.2.1.1 d.1.2.2.1.1 d.1.2.2.2.1.1 d.2.1.1 d.2.1.2
def Zu:zU:=⟨[yVl],[(.exit 0,yBh)],(EQ×Nat),fun k d=>yVc (HQ k k) d,fun b x _ K=>K (.exit 0) (zN b yBh (((),()),((x.1,x.2),())))⟩
def yEt:zW:=⟨[],[(3,Zu)],[],false⟩
theorem vKh:zT prog 1000 0 22 (zQ (zS f245) 0) Zu:=lp (A:=yEt) Zu (fun d=>d.2.1) yVc HQ CL (e2 qZ6 J5) zG
def vWs:=zJ 245 [.c (.dat true (.sl .i))] (.c (.mat)) (fun k d=>HR k d.1) (fun x=>(x,()))
theorem vVw:zD prog vWs:=fA (rs:=.c (.mat)) f245 yEt (fun d=>d.1) (e2 qZ6 J5) (qB vKh)
def Zv:=zJ 204 [.agg [.dat false qY,.dat true (.sl .i),.dat false .i,.dat true (.sl .i)]] (.agg OZ) (fun k d=>(vB (fU k) d)) (fun x=>(jR x ()))
theorem nQ:zD prog Zv:=fA (rs:=.agg OZ) f204 ⟨[],[],[],false⟩ (fun d=>(wM d)) (e3 vFe vVw J5) zG
def vTt:=zJ 205 [.ptr Zl,.c .i] (.c .bool) (fun k d=>Zw k (jQ d) d.2.2.2.2.2.2.2.2.2.2.2.2.2.2.2.2.2.2.1) (fun x=>(x,()))
theorem yOh:zD prog vTt:=fA (rs:=.c .bool) f205 n0 (fun d=>d.1) (e1 gO) zG
def vDt:=yK 138 [.ptr true w9,.agg vE] (.c .i) [wP] 0 (fun k d=>zv k (jQ d) (FY d)) (fun x=>(x.1,(wY x.2 ())))
theorem Zx:zD prog vDt:=fX (rs:=.c .i) (os:=[wP]) (ns:=0) f138 n0 1 (fun d=>(d.1,(iV d))) (e3 nQ yOh gO) zG
def vOw:=zJ 206 [.ptr Zl,.c .i] (.c .bool) (fun k d=>J6 k (jQ d) d.2.2.2.2.2.2.2.2.2.2.2.2.2.2.2.2.2.2.1) (fun x=>(x,()))
theorem FZ:zD prog vOw:=fA (rs:=.c .bool) f206 n0 (fun d=>d.1) (e1 gO) zG
def vRl:=uM 207 true (.sl .i) (.own (.sl .i)) EG
theorem yT6:zD prog vRl:=fC f207 ⟨[],[],[],false⟩ e0 zG
def Zy:=zJ 208 [.c (.dat false .i),.c .i,.c .i] (.c (.own .i)) (fun k d=>oR k d.1 d.2.1 d.2.2.1) (fun x=>(x,()))
theorem F0:zD prog Zy:=fA (rs:=.c (.own .i)) f208 n0 (fun d=>d.1) (e1 J5) zG
def Zz:=zJ 254 [.c .i] (.c .bool) (fun k d=>Uw k d.1) (fun x=>(x,()))
theorem vZu:zD prog Zz:=fA (rs:=.c .bool) f254 n0 (fun d=>d.1) e0 zG
def vUt:=zJ 255 [.c (.int .u64),.c (.int .u64)] (.tup [(false,[.int .u64]),(false,[.int .u64])]) (fun k d=>ID k d.1 d.2.1) (fun x=>(x.1,x.2,()))
theorem vKd:zD prog vUt:=fA (rs:=.tup [(false,[.int .u64]),(false,[.int .u64])]) f255 n0 (fun d=>(d.1,d.2.1)) e0 zG
def ZA:=zJ 295 [.c (.int .u64)] (.c .i) (fun k d=>yRn k d.1) (fun x=>(x,()))
theorem vRa:zD prog ZA:=fA (rs:=.c .i) f295 n0 (fun d=>d.1) e0 zG
def vQ1:=zJ 284 [.c (.int .u64)] (.c .i) (fun k d=>yFd k d.1) (fun x=>(x,()))
theorem ZB:zD prog vQ1:=fA (rs:=.c .i) f284 n0 (fun d=>d.1) (e1 vRa) zG
def yQn:zE:=⟨[(2,.c (.int .u64)),(8,.c (.int .u64)),(9,.c (.int .u64)),(10,.c (.int .u64)),(11,.c (.int .u64)),(13,.c (.int .u64)),(14,.c (.int .u64)),(15,.c (.int .u64)),(16,.c (.int .u64))],[],[]⟩
def yIa:zE:=⟨[(2,.c (.int .u64)),(8,.c (.int .u64)),(9,.c (.int .u64)),(10,.c (.int .u64)),(11,.c (.int .u64)),(13,.c (.int .u64)),(14,.c (.int .u64)),(15,.c (.int .u64))],[],[]⟩
def yL5 (f:ZC)(d:yQn.den):=f d.1.1.1 d.1.2.1.1 d.1.2.2.1.1 d.1.2.2.2.1.1 d.1.2.2.2.2.1.1 d.1.2.2.2.2.2.1.1 d.1.2.2.2.2.2.2.1.1 d.1.2.2.2.2.2.2.2.1.1 d.1.2.2.2.2.2.2.2.2.1.1
def O0:zU:=⟨[yQn],[(.exit 0,yIa)],ZD,fun k d=>yL5 (ZE k k) d,fun b x _ K=>K (.exit 0) (zN b yIa (((x.1,()),(x.2.1,()),(x.2.2.1,()),(x.2.2.2.1,()),(x.2.2.2.2.1,()),(x.2.2.2.2.2.1,()),(x.2.2.2.2.2.2.1,()),(x.2.2.2.2.2.2.2,()),()),()))⟩
def yDp:zE:=⟨[(2,.c (.int .u64)),(8,.c (.int .u64)),(9,.c (.int .u64)),(10,.c (.int .u64)),(14,.c (.int .u64)),(15,.c (.int .u64)),(16,.c (.int .u64)),(17,.c (.int .u64)),(18,.c (.int .u64))],[],[]⟩
def yEy:zE:=⟨[(2,.c (.int .u64)),(8,.c (.int .u64)),(14,.c (.int .u64)),(15,.c (.int .u64)),(17,.c (.int .u64)),(18,.c (.int .u64))],[],[]⟩
def yUk (f:ZF)(d:yDp.den):=f d.1.1.1 d.1.2.1.1 d.1.2.2.1.1 d.1.2.2.2.1.1 d.1.2.2.2.2.1.1 d.1.2.2.2.2.2.1.1 d.1.2.2.2.2.2.2.1.1 d.1.2.2.2.2.2.2.2.1.1 d.1.2.2.2.2.2.2.2.2.1.1
def O1:zU:=⟨[yDp],[(.exit 2,yEy)],ZG,fun k d=>yUk (ZH k k) d,fun b x _ K=>K (.exit 2) (zN b yEy (((x.1,()),(x.2.1,()),(x.2.2.1,()),(x.2.2.2.1,()),(x.2.2.2.2.1,()),(x.2.2.2.2.2,()),()),()))⟩
def ZI:zW:=⟨[],[(17,O0),(24,O1)],[],true⟩
theorem vD1:zT prog 1000 0 135 (zQ (zS f256) 0) O0:=lp (A:=ZI) O0 (fun d=>(d.1.1.1,d.1.2.1.1,d.1.2.2.1.1,d.1.2.2.2.1.1,d.1.2.2.2.2.1.1,d.1.2.2.2.2.2.1.1,d.1.2.2.2.2.2.2.1.1,d.1.2.2.2.2.2.2.2.1.1)) yL5 ZE vBt (e1 ZB) zG
theorem vVc:zT prog 1000 0 135 (zQ (zS f256) 1) O1:=lp (A:=ZI) O1 (fun d=>(d.1.1.1,d.1.2.1.1,d.1.2.2.1.1,d.1.2.2.2.1.1,d.1.2.2.2.2.1.1,d.1.2.2.2.2.2.1.1)) yUk ZH yAp (e1 ZB) zG
def vR6:=zJ 256 [.c (.int .u64),.c (.int .u64),.c (.int .u64)] (.tup [(false,[.int .u64]),(false,[.int .u64])]) (fun k d=>MO k d.1 d.2.1 d.2.2.1) (fun x=>(x.1,x.2,()))
theorem ZJ:zD prog vR6:=fA (rs:=.tup [(false,[.int .u64]),(false,[.int .u64])]) f256 ZI (fun d=>(d.1,d.2.1)) (e1 ZB) (loopsOK_of (n:=2) (by kernel_rfl) fun i hi=>match i,hi with|0,_=>⟨O0,by kernel_rfl,vD1⟩|1,_=>⟨O1,by kernel_rfl,vVc⟩|i+2,hi=>absurd hi (by omega))
def vQo:=(178,LG)
theorem ZK:zD prog vQo:=vMk (fn:=f178)
def vIo:=zJ 221 [.c .i,.c .i,.c .i] (.tup [(false,qF),(false,[.bool])]) (fun k d=>MP k d.1 d.2.1 d.2.2.1) (fun x=>(x.1,x.2,()))
theorem yXs:zD prog vIo:=fA (rs:=.tup [(false,qF),(false,[.bool])]) f221 n0 (fun d=>(d.1,d.2.1)) (e4 vZu vKd ZJ ZK) zG
def yK9:zE:=⟨[(4,.c .i),(5,.c (.int .u64)),(9,.c (.dat false .i)),(10,.c .i),(11,.c .i)],[],[]⟩
def yEg:zE:=⟨[(4,.c .i),(5,.c (.int .u64))],[],[]⟩
def yUh (f:ZL)(d:yK9.den):=f d.1.1.1 d.1.2.1.1 d.1.2.2.1.1 d.1.2.2.2.1.1 d.1.2.2.2.2.1.1
def ZM:zU:=⟨[yK9],[(.exit 0,yEg)],vI,fun k d=>yUh (DX k k) d,fun b x _ K=>K (.exit 0) (zN b yEg (((x.1,()),(x.2,()),()),()))⟩
def ySw:zW:=⟨[],[(4,ZM)],[],false⟩
theorem vI2:zT prog 1000 0 37 (zQ (zS f111) 0) ZM:=lp (A:=ySw) ZM (fun d=>(d.1.1.1,d.1.2.1.1)) yUh DX DY (e1 ZK) zG
def ZN:=zJ 111 [.c (.dat false .i)] (.tup [(false,qF),(false,[.bool])]) (fun k d=>IC k d.1) (fun x=>(x.1,x.2,()))
theorem O2:zD prog ZN:=fA (rs:=.tup [(false,qF),(false,[.bool])]) f111 ySw (fun d=>(d.1,d.2.1)) (e1 ZK) (qB vI2)
def yZv:zE:=⟨[(1,.c (.dat false .i)),(2,.c (.dat false .i)),(8,.c (.lit (.osl 1001000 none))),(25,.c (.dat false wE)),(26,.c .i),(27,.c .i)],[.arr true .i],[(8,none,.i,false)]⟩
def vAj:zE:=⟨[(8,.c (.lit (.osl 1001000 none)))],[.arr true .i],[]⟩
def vAt:zE:=⟨[(6,.c .i),(7,.c .bool)],[],[]⟩
def yV1 (f:ZO)(d:yZv.den):=f d.1.1.1 d.1.2.1.1 d.1.2.2.2.1.1 d.1.2.2.2.2.1.1 d.1.2.2.2.2.2.1.1 d.2.1
def ZP:zU:=⟨[yZv],[(.exit 0,vAj),(.ret,vAt)],(AC⊕jX),fun k d=>yV1 (DZ k k) d,fun b x _ K=>match x with|.inl x=>K (.exit 0) (zN b vAj (((),()),(x,())))|.inr x=>K .ret (zN b vAt (((x.1,()),(x.2,()),()),()))⟩
def yUv:zW:=⟨[],[(5,ZP)],[],true⟩
theorem vJ5:zT prog 1000 0 57 (zQ (zS f170) 0) ZP:=lp (A:=yUv) ZP (fun d=>match d with|.inl d=>.inl d.2.1|.inr d=>.inr (d.1.1.1,d.1.2.1.1)) yV1 DZ D3 (e2 yXs O2) zG
def ZQ:=zJ 170 [.c (.dat false wE),.c (.dat false .i),.c (.dat false .i)] (.tup [(false,qF),(false,[.bool])]) (fun k d=>qn k d.1 d.2.1 d.2.2.1) (fun x=>(x.1,x.2,()))
theorem xa:zD prog ZQ:=fA (rs:=.tup [(false,qF),(false,[.bool])]) f170 yUv (fun d=>(d.1,d.2.1)) (e2 yXs O2) (qB vJ5)
def vZt:=yK 139 [.ptr true w9,.c (.p .i),.c (.p .i)] (.c .i) [wP] 0 (fun k d=>Nf k (jQ d) d.2.2.2.2.2.2.2.2.2.2.2.2.2.2.2.2.2.2.1 d.2.2.2.2.2.2.2.2.2.2.2.2.2.2.2.2.2.2.2.1) (fun x=>(x.1,(wY x.2 ())))
theorem vGt:zD prog vZt:=fX (rs:=.c .i) (os:=[wP]) (ns:=0) f139 n0 1 (fun d=>(d.1,(iV d))) (e6 FZ gO yT6 F0 xa nQ) zG
def vEk:=zJ 95 [.c .i,.c .i] (.tup [(false,qF),(false,[.bool])]) (fun k d=>Ng k d.1 d.2.1) (fun x=>(x.1,x.2,()))
theorem vVd:zD prog vEk:=fA (rs:=.tup [(false,qF),(false,[.bool])]) f95 ⟨[],[],[],false⟩ (fun d=>(d.1,d.2.1)) e0 zG
def vNn:=zJ 161 [.agg mU] (.c .bool) (fun k d=>LQ k d.1 d.2.1 d.2.2.1) (fun x=>(x,()))
theorem ySx:zD prog vNn:=fA (rs:=.c .bool) f161 ⟨[],[],[],false⟩ (fun d=>d.1) e0 zG
def vOu:=zJ 246 [.agg mU,.c .i] (.tup [(true,wz),(false,qF)]) (fun k d=>I4 k (d.1,d.2.1,d.2.2.1) d.2.2.2.1) (fun x=>(x.1.1,x.1.2.1,x.1.2.2,x.2,()))
theorem yZd:zD prog vOu:=fA (rs:=.tup [(true,wz),(false,qF)]) f246 n0 (fun d=>((d.1,d.2.1,d.2.2.1),d.2.2.2.1)) (e2 vVd ySx) zG
def ZR:=zJ 209 [.agg mU,.c .i] (.tup [(true,wz),(false,qF)]) (fun k d=>EW k (d.1,d.2.1,d.2.2.1) d.2.2.2.1) (fun x=>(x.1.1,x.1.2.1,x.1.2.2,x.2,()))
theorem vDa:zD prog ZR:=fA (rs:=.tup [(true,wz),(false,qF)]) f209 n0 (fun d=>((d.1,d.2.1,d.2.2.1),d.2.2.2.1)) (e1 yZd) zG
def ZS:=zJ 247 [.agg mU,.c .i] (.c .i) (fun k d=>(vB (uS k) d)) (fun x=>(x,()))
theorem O3:zD prog ZS:=fA (rs:=.c .i) f247 ⟨[],[],[],false⟩ (fun d=>d.1) e0 zG
def vT4:=zJ 210 [.agg mU,.c .i,.c .i] (.tup [(true,wz),(false,qF)]) (fun k d=>EX k (d.1,d.2.1,d.2.2.1) d.2.2.2.1 d.2.2.2.2.1) (fun x=>(x.1.1,x.1.2.1,x.1.2.2,x.2,()))
theorem yPr:zD prog vT4:=fA (rs:=.tup [(true,wz),(false,qF)]) f210 n0 (fun d=>((d.1,d.2.1,d.2.2.1),d.2.2.2.1)) (e2 yZd O3) zG
def ZT:=zJ 211 [.agg mU,.c .i] (.c .i) (fun k d=>EY k (d.1,d.2.1,d.2.2.1) d.2.2.2.1) (fun x=>(x,()))
theorem yIl:zD prog ZT:=fA (rs:=.c .i) f211 n0 (fun d=>d.1) e0 zG
def vD4:=yK 140 [.ptr true w9,.c (.p .i),.c (.p .i),.c (.p .i)] (.c .i) [wP] 0 (fun k d=>ZU k (jQ d) d.2.2.2.2.2.2.2.2.2.2.2.2.2.2.2.2.2.2.1 d.2.2.2.2.2.2.2.2.2.2.2.2.2.2.2.2.2.2.2.1 d.2.2.2.2.2.2.2.2.2.2.2.2.2.2.2.2.2.2.2.2.1) (fun x=>(x.1,(wY x.2 ())))
theorem vOg:zD prog vD4:=fX (rs:=.c .i) (os:=[wP]) (ns:=0) f140 n0 1 (fun d=>(d.1,(iV d))) (e5 gO vDa yPr yIl nQ) zG
def yRd:zE:=⟨[(0,.c (.lit (.ptr 1001000 0))),(7,.c (.lit (.osl 1001002 none))),(8,.c (.lit (.ptr 1001003 0))),(40,.c (.dat true (.sl .i))),(41,.c .i),(42,.c .i)],[.box true ZV,.arr true qN,.arr true .i,.box true yCn,.arr true qY,.mat,.arr true .i,.mat],[]⟩
def yDq:zE:=⟨[(0,.c (.lit (.ptr 1001000 0))),(7,.c (.lit (.osl 1001002 none))),(8,.c (.lit (.ptr 1001003 0)))],[.box true ZV,.arr true qN,.arr true .i,.box true yCn,.arr true qY,.mat,.arr true .i,.mat],[]⟩
def yR4:zE:=⟨[(0,.c (.lit (.ptr 1001000 0))),(6,.c .i)],[.box true ZV,.arr true qN],[]⟩
def yNm (f:ZW)(d:yRd.den):=f d.1.2.2.2.1.1 d.1.2.2.2.2.1.1 d.1.2.2.2.2.2.1.1 (kE d.2.1) d.2.2.1 d.2.2.2.1 d.2.2.2.2.2.1 d.2.2.2.2.2.2.1 d.2.2.2.2.2.2.2.1 d.2.2.2.2.2.2.2.2.1
def ZX:zU:=⟨[yRd],[(.exit 0,yDq),(.ret,yR4)],ZY,fun k d=>yNm (ZZ k k) d,fun b x _ K=>match x with|.inl x=>K (.exit 0) (zN b yDq (((),(),(),()),((vM x.1 ()),x.2.1,x.2.2.1,(),x.2.2.2.1,x.2.2.2.2.1,x.2.2.2.2.2.1,x.2.2.2.2.2.2,())))|.inr x=>K .ret (zN b yR4 (((),(x.1,()),()),((vM x.2.1 ()),x.2.2,())))⟩
def yL6:zW:=⟨[],[(6,ZX)],[],true⟩
theorem vLz:zT prog 1000 1 81 (zQ (zS f141) 0) ZX:=lp (A:=yL6) ZX (fun d=>match d with|.inl d=>.inl ((kE d.2.1),d.2.2.1,d.2.2.2.1,d.2.2.2.2.2.1,d.2.2.2.2.2.2.1,d.2.2.2.2.2.2.2.1,d.2.2.2.2.2.2.2.2.1)|.inr d=>.inr (d.1.2.1.1,(kE d.2.1),d.2.2.1)) yNm ZZ ySs (e5 FZ gO F0 nQ xa) zG
def vMj:=yK 141 [.ptr true w9,.c (.p .i),.c (.p .i)] (.c .i) [wP] 0 (fun k d=>yN7 k (jQ d) d.2.2.2.2.2.2.2.2.2.2.2.2.2.2.2.2.2.2.1 d.2.2.2.2.2.2.2.2.2.2.2.2.2.2.2.2.2.2.2.1) (fun x=>(x.1,(wY x.2 ())))
theorem vXd:zD prog vMj:=fX (rs:=.c .i) (os:=[wP]) (ns:=0) f141 yL6 1 (fun d=>(d.1,(iV d))) (e5 FZ gO F0 nQ xa) (qB vLz)
def vYq:=yK 91 [.ptr true w9,.agg vE] (.c .i) [wP] 0 (fun k d=>NP k (jQ d) (FY d)) (fun x=>(x.1,(wY x.2 ())))
theorem vVo:zD prog vYq:=fX (rs:=.c .i) (os:=[wP]) (ns:=0) f91 n0 1 (fun d=>(d.1,(iV d))) (e6 vLj vZr Zx vGt vOg vXd) zG
def vPx:=zJ 112 [.agg iU,.c .i] (.c .bool) (fun k d=>(iW (I1 k) d)) (fun x=>(x,()))
theorem O4:zD prog vPx:=fA (rs:=.c .bool) f112 ⟨[],[],[],false⟩ (fun d=>d.1) e0 zG
def vVp:=zJ 144 [.c .i,.c .i,.c (.dat false .i)] (.agg FP) (fun k d=>oT k d.1 d.2.1 d.2.2.1) (fun x=>(A6 x ()))
theorem xc:zD prog vVp:=fA (rs:=.agg FP) f144 ⟨[],[],[],false⟩ (fun d=>(lx d)) e0 zG
def yRr:zE:=⟨[(1,.c (.lit (.ptr 1001000 0))),(2,.c (.lit (.ptr 1001001 0))),(4,.c (.lit (.osl 1001002 none))),(10,.c (.dat true zH)),(11,.c .i),(12,.c .i)],[.box true fY,.box true fb,.arr true qN],[(4,none,qN,false)]⟩
def yCy:zE:=⟨[(1,.c (.lit (.ptr 1001000 0))),(2,.c (.lit (.ptr 1001001 0))),(4,.c (.lit (.osl 1001002 none)))],[.box true fY,.box true fb,.arr true qN],[]⟩
def yZl (f:Z0)(d:yRr.den):=(rA (f d.1.2.2.2.1.1 d.1.2.2.2.2.1.1 d.1.2.2.2.2.2.1.1) d.2.1) d.2.2.1.1 d.2.2.1.2.1 d.2.2.1.2.2.1 d.2.2.2.1
def O5:zU:=⟨[yRr],[(.exit 0,yCy)],Z1,fun k d=>yZl (Ew k k) d,fun b x _ K=>K (.exit 0) (zN b yCy (((),(),(),()),((xd x ()),(x.2.2.2.2.2.2.2.2.2.2.2.1,x.2.2.2.2.2.2.2.2.2.2.2.2.1,x.2.2.2.2.2.2.2.2.2.2.2.2.2.1,()),x.2.2.2.2.2.2.2.2.2.2.2.2.2.2,())))⟩
def yXn:zE:=⟨[(1,.c (.lit (.ptr 1001000 0))),(2,.c (.lit (.ptr 1001001 0))),(4,.c (.lit (.osl 1001002 none))),(28,.c (.dat true qY)),(29,.c .i),(30,.c .i)],[.box true fY,.box true fb,.arr true qN],[]⟩
def yIy:zE:=⟨[(1,.c (.lit (.ptr 1001000 0))),(2,.c (.lit (.ptr 1001001 0))),(4,.c (.lit (.osl 1001002 none)))],[.box true fY,.box true fb,.arr true qN],[]⟩
def yNc (f:Z2)(d:yXn.den):=(rA (f d.1.2.2.2.1.1 d.1.2.2.2.2.1.1 d.1.2.2.2.2.2.1.1) d.2.1) d.2.2.1.1 d.2.2.1.2.1 d.2.2.1.2.2.1 d.2.2.2.1
def O6:zU:=⟨[yXn],[(.exit 2,yIy)],Z3,fun k d=>yNc (Ez k k) d,fun b x _ K=>K (.exit 2) (zN b yIy (((),(),(),()),((xd x ()),(x.2.2.2.2.2.2.2.2.2.2.2.1,x.2.2.2.2.2.2.2.2.2.2.2.2.1,x.2.2.2.2.2.2.2.2.2.2.2.2.2.1,()),x.2.2.2.2.2.2.2.2.2.2.2.2.2.2,())))⟩
def Z4:zW:=⟨[],[(3,O5),(8,O6)],[],false⟩
theorem vKp:zT prog 1000 0 48 (zQ (zS f142) 0) O5:=lp (A:=Z4) O5 (fun d=>(xd d.2.1 (d.2.2.1.1,d.2.2.1.2.1,d.2.2.1.2.2.1,d.2.2.2.1))) yZl Ew Ey (e1 xc) zG
theorem vPk:zT prog 1000 0 48 (zQ (zS f142) 1) O6:=lp (A:=Z4) O6 (fun d=>(xd d.2.1 (d.2.2.1.1,d.2.2.1.2.1,d.2.2.1.2.2.1,d.2.2.2.1))) yNc Ez EA (e1 xc) zG
def vTs:=zJ 142 [.agg w4] (.tup [(true,vBr),(false,[.own qN])]) (fun k d=>(rA (Nb k) d)) (fun x=>(A7 x ()))
theorem yUf:zD prog vTs:=fA (rs:=.tup [(true,vBr),(false,[.own qN])]) f142 Z4 (fun d=>(w6 d)) (e1 xc) (loopsOK_of (n:=2) (by kernel_rfl) fun i hi=>match i,hi with|0,_=>⟨O5,by kernel_rfl,vKp⟩|1,_=>⟨O6,by kernel_rfl,vPk⟩|i+2,hi=>absurd hi (by omega))
def vFb:=zJ 143 [.agg vE,.c .i] (.c .bool) (fun k d=>(lv (US k) d)) (fun x=>(x,()))
theorem yKq:zD prog vFb:=fA (rs:=.c .bool) f143 ⟨[],[],[],false⟩ (fun d=>d.1) e0 zG
def vEf:=zJ 145 [.agg iU,.c .i] (.c .bool) (fun k d=>(iW (ED k) d)) (fun x=>(x,()))
theorem yMg:zD prog vEf:=fA (rs:=.c .bool) f145 ⟨[],[],[],false⟩ (fun d=>d.1) e0 zG
def vEn:=zJ 282 [.agg vE,.c .i] (.c .bool) (fun k d=>(lv (T8 k) d)) (fun x=>(x,()))
theorem vO0:zD prog vEn:=fA (rs:=.c .bool) f282 ⟨[],[],[],false⟩ (fun d=>d.1) e0 zG
def vQv:=zJ 281 [.agg vE,.ptr [.i]] (.c .bool) (fun k d=>(lv (T7 k) d)) (fun x=>(x,()))
theorem yKu:zD prog vQv:=fA (rs:=.c .bool) f281 ⟨[],[],[],false⟩ (fun d=>d.1) (e1 vO0) zG
def yZa:zE:=⟨[(1,.c (.lit (.fn 281 [1001000]))),(5,.c (.lit (.osl 1001001 none))),(8,.c (.dat false zH)),(9,.c .i),(10,.c .i)],[.robox [.i],.arr true zH],[(5,none,zH,false)]⟩
def qZ2:zE:=⟨[(5,.c (.lit (.osl 1001000 none)))],[.arr true zH],[]⟩
def yQ1 (f:Z5)(d:yZa.den):=f d.1.2.2.1.1 d.1.2.2.2.1.1 d.1.2.2.2.2.1.1 d.2.1.1 d.2.2.1
def Z6:zU:=⟨[yZa],[(.exit 0,qZ2)],Z7,fun k d=>yQ1 (Il k k) d,fun b x _ K=>K (.exit 0) (zN b qZ2 (((),()),(x,())))⟩
def yC8:zW:=⟨[],[(3,Z6)],[],false⟩
theorem vHe:zT prog 1000 0 23 (zQ (zS f193) 0) Z6:=lp (A:=yC8) Z6 (fun d=>d.2.1) yQ1 Il Dt (e1 yKu) zG
def Z8:=zJ 193 [.c (.dat false zH),.fn 281 [[.i]]] (.c (.own zH)) (fun k d=>T6 k d.1 d.2.1) (fun x=>(x,()))
theorem vSy:zD prog Z8:=fA (rs:=.c (.own zH)) f193 yC8 (fun d=>d.1) (e1 yKu) (qB vHe)
def vJy:=zJ 252 [.c (.dat false zH),.c .i] (.c (.own zH)) (fun k d=>Ds k d.1 d.2.1) (fun x=>(x,()))
theorem A9:zD prog vJy:=fA (rs:=.c (.own zH)) f252 ⟨[],[],[],false⟩ (fun d=>d.1) (e1 vSy) zG
def Z9:=zJ 299 [.agg vE,.ptr vE] (.c .bool) (fun k d=>(FW (Uc k) d)) (fun x=>(x,()))
theorem yX7:zD prog Z9:=fA (rs:=.c .bool) f299 ⟨[],[],[],false⟩ (fun d=>d.1) e0 zG
def yN5:zE:=⟨[(0,.c (.dat false zH)),(1,.c (.lit (.fn 299 [1001000]))),(7,.c .i),(8,.c .i)],[.robox vU],[]⟩
def yZf:zE:=⟨[],[],[]⟩
def yOb:zE:=⟨[(4,.c .i)],[],[]⟩
def vBc (f:qTi)(d:yN5.den):=(ly (f d.1.1.1 d.1.2.2.1.1 d.1.2.2.2.1.1) d.2.1)
def qKx:zU:=⟨[yN5],[(.exit 0,yZf),(.ret,yOb)],(Unit⊕Int),fun k d=>vBc (DA k k) d,fun b x _ K=>match x with|.inl x=>K (.exit 0) (zN b yZf ((),()))|.inr x=>K .ret (zN b yOb (((x,()),()),()))⟩
def yIx:zW:=⟨[],[(2,qKx)],[],false⟩
theorem vYa:zT prog 1000 0 19 (zQ (zS f148) 0) qKx:=lp (A:=yIx) qKx (fun d=>match d with|.inl d=>.inl ()|.inr d=>.inr d.1.1.1) vBc DA DB (e1 yX7) zG
def aaa:=zJ 148 [.c (.dat false zH),.fn 299 [vE]] (.c .i) (fun k d=>(lv (Ud k) d)) (fun x=>(x,()))
theorem vHi:zD prog aaa:=fA (rs:=.c .i) f148 yIx (fun d=>d.1) (e1 yX7) (qB vYa)
def aab:=zJ 177 [.c (.dat false zH),.fn 299 [vE]] (.c .bool) (fun k d=>(lv (MC k) d)) (fun x=>(x,()))
theorem vYu:zD prog aab:=fA (rs:=.c .bool) f177 ⟨[],[],[],false⟩ (fun d=>d.1) (e1 vHi) zG
def vHv:=yK 298 [.agg vE,.ptr true [.map],.ptr false [.p (.dat false zH)]] (.c .bool) [[.map]] 0 (fun k d=>(O7 (Uf k) d)) (fun x=>(x.1,x.2,()))
theorem vCx:zD prog vHv:=fX (rs:=.c .bool) (os:=[[.map]]) (ns:=0) f298 ⟨[],[],[],false⟩ 3 (fun d=>(d.1,d.2.1)) (e1 vYu) zG
def yEo:zE:=⟨[(1,.c (.lit (.fn 298 [1001000,1001002]))),(5,.c (.lit (.osl 1001003 none))),(8,.c (.dat false zH)),(9,.c .i),(10,.c .i)],[.box true [.lit (.map 1001001)],.imap,.robox [.dat false zH],.arr true zH],[(5,none,zH,false)]⟩
def yO8:zE:=⟨[(1,.c (.lit (.fn 298 [1001000,1001002]))),(5,.c (.lit (.osl 1001003 none)))],[.box true [.lit (.map 1001001)],.imap,.robox [.dat false zH],.arr true zH],[]⟩
def yCm (f:qI1)(d:yEo.den):=f d.1.2.2.1.1 d.1.2.2.2.1.1 d.1.2.2.2.2.1.1 d.2.2.1 d.2.2.2.1.1 d.2.2.2.2.1
def qUw:zU:=⟨[yEo],[(.exit 0,yO8)],qYx,fun k d=>yCm (DC k k) d,fun b x _ K=>K (.exit 0) (zN b yO8 (((),(),()),((),x.1,(x.2.1,()),x.2.2,())))⟩
def yT5:zW:=⟨[],[(3,qUw)],[],false⟩
theorem vIt:zT prog 1000 2 23 (zQ (zS f193) 0) qUw:=lp (A:=yT5) qUw (fun d=>(d.2.2.1,d.2.2.2.1.1,d.2.2.2.2.1)) yCm DC DD (e1 vCx) zG
def vTh:=yK 193 [.c (.p (.dat false zH)),.fn 298 [(true,[.map]),(false,[.p (.dat false zH)])]] (.c (.own zH)) [[.map]] 0 (fun k d=>Ue k d.1 d.2.1 d.2.2.1) (fun x=>(x.1,x.2,()))
theorem aac:zD prog vTh:=fX (rs:=.c (.own zH)) (os:=[[.map]]) (ns:=0) f193 yT5 2 (fun d=>(d.1,d.2.1)) (e1 vCx) (qB vIt)
def aad:=zJ 290 [.c (.dat false zH),.c .i] (.c (.own zH)) (fun k d=>Is k d.1 d.2.1) (fun x=>(x,()))
theorem J7:zD prog aad:=fA (rs:=.c (.own zH)) f290 ⟨[],[],[],false⟩ (fun d=>d.1) (e2 A9 aac) zG
def vPe:=zJ 173 [.agg jI,.agg vE] (.c .bool) (fun k d=>(rA (CP k) d)) (fun x=>(x,()))
theorem qWh:zD prog vPe:=fA (rs:=.c .bool) f173 ⟨[],[],[],false⟩ (fun d=>d.1) e0 zG
def aae:=zJ 300 [.agg vE,.ptr jI] (.c .bool) (fun k d=>(rA (T3 k) d)) (fun x=>(x,()))
theorem yV6:zD prog aae:=fA (rs:=.c .bool) f300 ⟨[],[],[],false⟩ (fun d=>d.1) (e1 qWh) zG
def yLq:zE:=⟨[(0,.c (.dat false zH)),(1,.c (.lit (.fn 300 [1001000]))),(7,.c .i),(8,.c .i)],[.robox jO],[]⟩
def yR2:zE:=⟨[],[],[]⟩
def yUe:zE:=⟨[(4,.c .i)],[],[]⟩
def yBo (f:qRd)(d:yLq.den):=(vB (f d.1.1.1 d.1.2.2.1.1 d.1.2.2.2.1.1) d.2.1)
def qJc:zU:=⟨[yLq],[(.exit 0,yR2),(.ret,yUe)],(Unit⊕Int),fun k d=>yBo (Ij k k) d,fun b x _ K=>match x with|.inl x=>K (.exit 0) (zN b yR2 ((),()))|.inr x=>K .ret (zN b yUe (((x,()),()),()))⟩
def yPs:zW:=⟨[],[(2,qJc)],[],false⟩
theorem vJ7:zT prog 1000 0 19 (zQ (zS f148) 0) qJc:=lp (A:=yPs) qJc (fun d=>match d with|.inl d=>.inl ()|.inr d=>.inr d.1.1.1) yBo Ij Dr (e1 yV6) zG
def vXq:=zJ 148 [.c (.dat false zH),.fn 300 [jI]] (.c .i) (fun k d=>(kF (T4 k) d)) (fun x=>(x,()))
theorem vLh:zD prog vXq:=fA (rs:=.c .i) f148 yPs (fun d=>d.1) (e1 yV6) (qB vJ7)
def aaf:=zJ 177 [.c (.dat false zH),.fn 300 [jI]] (.c .bool) (fun k d=>(kF (Mx k) d)) (fun x=>(x,()))
theorem aag:zD prog aaf:=fA (rs:=.c .bool) f177 ⟨[],[],[],false⟩ (fun d=>d.1) (e1 vLh) zG
def yGt:zE:=⟨[(4,.c (.lit (.ptr 1001000 0))),(5,.c (.lit (.ptr 1001001 0))),(15,.c (.dat false zH)),(16,.c .i),(17,.c .i)],[.box true [.lit .nsl,.lit .nsl,.lit .nsl],.box true qK5,.arr true .i,.arr true .i,.mat],[]⟩
def yIs:zE:=⟨[(4,.c (.lit (.ptr 1001000 0))),(5,.c (.lit (.ptr 1001001 0)))],[.box true [.lit .nsl,.lit .nsl,.lit .nsl],.box true qK5,.arr true .i,.arr true .i,.mat],[]⟩
def yPo (f:qU5)(d:yGt.den):=f d.1.2.2.1.1 d.1.2.2.2.1.1 d.1.2.2.2.2.1.1 d.2.2.2.1 d.2.2.2.2.1 d.2.2.2.2.2.1
def qNt:zU:=⟨[yGt],[(.exit 0,yIs)],qW7,fun k d=>yPo (Ie k k) d,fun b x _ K=>K (.exit 0) (zN b yIs (((),(),()),((),(),x.1,x.2.1,x.2.2,())))⟩
def yN0:zW:=⟨[],[(3,qNt)],[],false⟩
theorem aah:zT prog 1000 0 84 (zQ (zS f292) 0) qNt:=lp (A:=yN0) qNt (fun d=>(d.2.2.2.1,d.2.2.2.2.1,d.2.2.2.2.2.1)) yPo Ie Df (e2 A8 J1) zG
def vDv:=zJ 292 [.c .i,.c (.dat false zH)] (.agg [.own .i,.own .i,.mat]) (fun k d=>Ms k d.1 d.2.1) (fun x=>(x.1,x.2.1,x.2.2,()))
theorem yPa:zD prog vDv:=fA (rs:=.agg [.own .i,.own .i,.mat]) f292 yN0 (fun d=>(d.1,d.2.1,d.2.2.1)) (e2 A8 J1) (qB aah)
def vHo:=zJ 293 [.agg vE,.ptr [.i]] (.c .bool) (fun k d=>(lv (TV k) d)) (fun x=>(x,()))
theorem yRi:zD prog vHo:=fA (rs:=.c .bool) f293 ⟨[],[],[],false⟩ (fun d=>d.1) e0 zG
def yBy:zE:=⟨[(0,.c (.dat false zH)),(1,.c (.lit (.fn 293 [1001000]))),(7,.c .i),(8,.c .i)],[.robox [.i]],[]⟩
def yOl:zE:=⟨[],[],[]⟩
def yGx:zE:=⟨[(4,.c .i)],[],[]⟩
def yKv (f:qXt)(d:yBy.den):=f d.1.1.1 d.1.2.2.1.1 d.1.2.2.2.1.1 d.2.1.1
def qRs:zU:=⟨[yBy],[(.exit 0,yOl),(.ret,yGx)],(Unit⊕Int),fun k d=>yKv (Ig k k) d,fun b x _ K=>match x with|.inl x=>K (.exit 0) (zN b yOl ((),()))|.inr x=>K .ret (zN b yGx (((x,()),()),()))⟩
def yTr:zW:=⟨[],[(2,qRs)],[],false⟩
theorem vPs:zT prog 1000 0 19 (zQ (zS f148) 0) qRs:=lp (A:=yTr) qRs (fun d=>match d with|.inl d=>.inl ()|.inr d=>.inr d.1.1.1) yKv Ig Dg (e1 yRi) zG
def vPo:=zJ 148 [.c (.dat false zH),.fn 293 [[.i]]] (.c .i) (fun k d=>TW k d.1 d.2.1) (fun x=>(x,()))
theorem vUj:zD prog vPo:=fA (rs:=.c .i) f148 yTr (fun d=>d.1) (e1 yRi) (qB vPs)
def vYm:=zJ 177 [.c (.dat false zH),.fn 293 [[.i]]] (.c .bool) (fun k d=>Mt k d.1 d.2.1) (fun x=>(x,()))
theorem vB1:zD prog vYm:=fA (rs:=.c .bool) f177 ⟨[],[],[],false⟩ (fun d=>d.1) (e1 vUj) zG
def yXw:zE:=⟨[(5,.c .i),(12,.c (.dat false .i)),(13,.c .i),(14,.c .i)],[],[]⟩
def yDw:zE:=⟨[(5,.c .i)],[],[]⟩
def yT0 (f:Int→AC→Int→Int→Option Int)(d:yXw.den):=f d.1.1.1 d.1.2.1.1 d.1.2.2.1.1 d.1.2.2.2.1.1
def qTl:zU:=⟨[yXw],[(.exit 0,yDw)],Int,fun k d=>yT0 (Da k k) d,fun b x _ K=>K (.exit 0) (zN b yDw (((x,()),()),()))⟩
def yPv:zW:=⟨[],[(3,qTl)],[],false⟩
theorem vOh:zT prog 1000 0 23 (zQ (zS f301) 0) qTl:=lp (A:=yPv) qTl (fun d=>d.1.1.1) yT0 Da Db e0 zG
def aai:=zJ 301 [.agg jI,.c .i] (.c .i) (fun k d=>(kF (Mp k) d)) (fun x=>(x,()))
theorem yNg:zD prog aai:=fA (rs:=.c .i) f301 yPv (fun d=>d.1) e0 (qB vOh)
def vD6:=zJ 302 [.c .i,.c .i] (.c .bool) (fun k d=>Dl k d.1 d.2.1) (fun x=>(x,()))
theorem qSy:zD prog vD6:=fA (rs:=.c .bool) f302 ⟨[],[],[],false⟩ (fun d=>d.1) e0 zG
def vEg:=zJ 303 [.agg vE,.ptr [.i],.ptr mU,.ptr O8,.ptr [.i],.ptr jI] (.c .bool) (fun k d=>(aaj (TX k) d)) (fun x=>(x,()))
theorem yI6:zD prog vEg:=fA (rs:=.c .bool) f303 ⟨[],[],[],false⟩ (fun d=>d.1) (e2 O3 qSy) zG
def yUu:zE:=⟨[(0,.c (.dat false zH)),(1,.c (.lit (.fn 303 [1001000,1001001,1001002,1001003,1001004]))),(7,.c .i),(8,.c .i)],[.robox [.i],.robox [.i,.i,.i],.robox qMu,.robox [.i],.robox jO],[]⟩
def yKc:zE:=⟨[],[],[]⟩
def yGe:zE:=⟨[(4,.c .i)],[],[]⟩
def yYx (f:qI8)(d:yUu.den):=(vB (f d.1.1.1 d.1.2.2.1.1 d.1.2.2.2.1.1 d.2.1.1 d.2.2.1.1 d.2.2.1.2.1 d.2.2.1.2.2.1 d.2.2.2.1.1 d.2.2.2.1.2.1 d.2.2.2.1.2.2.1 d.2.2.2.2.1.1) d.2.2.2.2.2.1)
def qLm:zU:=⟨[yUu],[(.exit 0,yKc),(.ret,yGe)],(Unit⊕Int),fun k d=>yYx (Ii k k) d,fun b x _ K=>match x with|.inl x=>K (.exit 0) (zN b yKc ((),()))|.inr x=>K .ret (zN b yGe (((x,()),()),()))⟩
def yU4:zW:=⟨[],[(2,qLm)],[],false⟩
theorem vSi:zT prog 1000 0 19 (zQ (zS f148) 0) qLm:=lp (A:=yU4) qLm (fun d=>match d with|.inl d=>.inl ()|.inr d=>.inr d.1.1.1) yYx Ii Dm (e1 yI6) zG
def vHc:=zJ 148 [.c (.dat false zH),.fn 303 [[.i],mU,O8,[.i],jI]] (.c .i) (fun k d=>(qP4 (TY k) d)) (fun x=>(x,()))
theorem vGx:zD prog vHc:=fA (rs:=.c .i) f148 yU4 (fun d=>d.1) (e1 yI6) (qB vSi)
def vGc:=zJ 177 [.c (.dat false zH),.fn 303 [[.i],mU,O8,[.i],jI]] (.c .bool) (fun k d=>(qP4 (Mu k) d)) (fun x=>(x,()))
theorem ySf:zD prog vGc:=fA (rs:=.c .bool) f177 ⟨[],[],[],false⟩ (fun d=>d.1) (e1 vGx) zG
def yMd:zE:=⟨[(3,.c (.dat false zH)),(4,.c (.lit (.ptr 1001000 0))),(5,.c (.lit (.ptr 1001001 0))),(6,.c (.lit (.ptr 1001002 0))),(9,.c (.lit (.ptr 1001003 0))),(10,.c (.lit (.ptr 1001004 0))),(11,.c .i),(39,.c (.dat false .i)),(40,.c .i),(41,.c .i)],[.box true qMu,.box true jO,.box true [.i],.box true [.i,.i,.i],.box true [.i]],[]⟩
def vBk:zE:=⟨[(3,.c (.dat false zH)),(4,.c (.lit (.ptr 1001000 0))),(5,.c (.lit (.ptr 1001001 0))),(6,.c (.lit (.ptr 1001002 0))),(9,.c (.lit (.ptr 1001003 0))),(10,.c (.lit (.ptr 1001004 0))),(11,.c .i)],[.box true qMu,.box true jO,.box true [.i],.box true [.i,.i,.i],.box true [.i]],[]⟩
def yRw (f:qT2)(d:yMd.den):=(vB (f d.1.1.1 d.1.2.2.2.2.2.2.1.1 d.1.2.2.2.2.2.2.2.1.1 d.1.2.2.2.2.2.2.2.2.1.1 d.1.2.2.2.2.2.2.2.2.2.1.1 d.2.1.1 d.2.1.2.1 d.2.1.2.2.1) d.2.2.1) d.2.2.2.1.1 d.2.2.2.2.1.1 d.2.2.2.2.1.2.1 d.2.2.2.2.1.2.2.1 d.2.2.2.2.2.1.1
def qJi:zU:=⟨[yMd],[(.exit 0,vBk)],qKj,fun k d=>yRw (yz k k) d,fun b x _ K=>K (.exit 0) (zN b vBk (((x.1,()),(),(),(),(),(),(x.2.1,()),()),((x.2.2.1,x.2.2.2.1,x.2.2.2.2.1,()),(vMf x ()),(x.2.2.2.2.2.2.2.2.2.1,()),(x.2.2.2.2.2.2.2.2.2.2.1,x.2.2.2.2.2.2.2.2.2.2.2.1,x.2.2.2.2.2.2.2.2.2.2.2.2.1,()),(x.2.2.2.2.2.2.2.2.2.2.2.2.2,()),())))⟩
def yW7:zW:=⟨[],[(7,qJi)],[],false⟩
theorem vRv:zT prog 1000 0 59 (zQ (zS f294) 0) qJi:=lp (A:=yW7) qJi (fun d=>(d.1.1.1,d.1.2.2.2.2.2.2.1.1,d.2.1.1,d.2.1.2.1,d.2.1.2.2.1,(vO d.2.2.1 (d.2.2.2.1.1,d.2.2.2.2.1.1,d.2.2.2.2.1.2.1,d.2.2.2.2.1.2.2.1,d.2.2.2.2.2.1.1)))) yRw yz Dn (e3 yNg qSy ySf) zG
def aak:=zJ 294 [.agg O8,.agg jI,.c .i,.c (.dat false zH)] (.c .bool) (fun k d=>(O7 (Mw k) d)) (fun x=>(x,()))
theorem qZp:zD prog aak:=fA (rs:=.c .bool) f294 yW7 (fun d=>d.1) (e3 yNg qSy ySf) (qB vRv)
def yC6:zE:=⟨[(1,.c (.dat false zH)),(2,.c (.lit (.ptr 1001000 0))),(5,.c (.lit (.ptr 1001001 0))),(6,.c (.lit (.osl 1001005 none))),(16,.c .i),(17,.c .i)],[.box true jO,.box true qK5,.arr true .i,.arr true .i,.mat,.arr true .i],[(6,none,.i,false)]⟩
def yEp:zE:=⟨[(6,.c (.lit (.osl 1001000 none)))],[.arr true .i],[]⟩
def yPp (f:qN8)(d:yC6.den):=(vB (f d.1.1.1 d.1.2.2.2.2.1.1 d.1.2.2.2.2.2.1.1) d.2.1) d.2.2.2.1 d.2.2.2.2.1 d.2.2.2.2.2.1 d.2.2.2.2.2.2.1
def qM2:zU:=⟨[yC6],[(.exit 0,yEp)],AC,fun k d=>yPp (Dp k k) d,fun b x _ K=>K (.exit 0) (zN b yEp (((),()),(x,())))⟩
def yAi:zW:=⟨[],[(4,qM2)],[],false⟩
theorem vQ0:zT prog 1000 0 37 (zQ (zS f278) 0) qM2:=lp (A:=yAi) qM2 (fun d=>d.2.1) yPp Dp Dq (e3 yPa vB1 qZp) zG
def vQz:=zJ 278 [.agg jI,.c (.dat false zH)] (.c (.own .i)) (fun k d=>(kF (za k) d)) (fun x=>(x,()))
theorem J8:zD prog vQz:=fA (rs:=.c (.own .i)) f278 yAi (fun d=>d.1) (e3 yPa vB1 qZp) (qB vQ0)
def aal:=zJ 291 [.agg jI,.c (.dat false zH)] (.c .bool) (fun k d=>(kF (zb k) d)) (fun x=>(x,()))
theorem J9:zD prog aal:=fA (rs:=.c .bool) f291 ⟨[],[],[],false⟩ (fun d=>d.1) (e2 aag J8) zG
def vJv:=zJ 283 [.agg vE,.ptr jI] (.c .bool) (fun k d=>(rA (TJ k) d)) (fun x=>(x,()))
theorem yG9:zD prog vJv:=fA (rs:=.c .bool) f283 ⟨[],[],[],false⟩ (fun d=>d.1) (e1 qWh) zG
def yQ9:zE:=⟨[(0,.c (.dat false zH)),(1,.c (.lit (.fn 283 [1001000]))),(7,.c .i),(8,.c .i)],[.robox jO],[]⟩
def yBz:zE:=⟨[],[],[]⟩
def yR6:zE:=⟨[(4,.c .i)],[],[]⟩
def yHm (f:qHk)(d:yQ9.den):=(vB (f d.1.1.1 d.1.2.2.1.1 d.1.2.2.2.1.1) d.2.1)
def qOs:zU:=⟨[yQ9],[(.exit 0,yBz),(.ret,yR6)],(Unit⊕Int),fun k d=>yHm (HZ k k) d,fun b x _ K=>match x with|.inl x=>K (.exit 0) (zN b yBz ((),()))|.inr x=>K .ret (zN b yR6 (((x,()),()),()))⟩
def yW4:zW:=⟨[],[(2,qOs)],[],false⟩
theorem vSc:zT prog 1000 0 19 (zQ (zS f148) 0) qOs:=lp (A:=yW4) qOs (fun d=>match d with|.inl d=>.inl ()|.inr d=>.inr d.1.1.1) yHm HZ CQ (e1 yG9) zG
def vXi:=zJ 148 [.c (.dat false zH),.fn 283 [jI]] (.c .i) (fun k d=>(kF (TK k) d)) (fun x=>(x,()))
theorem vRy:zD prog vXi:=fA (rs:=.c .i) f148 yW4 (fun d=>d.1) (e1 yG9) (qB vSc)
def vDq:=zJ 177 [.c (.dat false zH),.fn 283 [jI]] (.c .bool) (fun k d=>(kF (L4 k) d)) (fun x=>(x,()))
theorem yUy:zD prog vDq:=fA (rs:=.c .bool) f177 ⟨[],[],[],false⟩ (fun d=>d.1) (e1 vRy) zG
def vWm:=zJ 160 [.agg mU] (.c .bool) (fun k d=>Tp k d.1 d.2.1 d.2.2.1) (fun x=>(x,()))
theorem yGs:zD prog vWm:=fA (rs:=.c .bool) f160 ⟨[],[],[],false⟩ (fun d=>d.1) (e1 ySx) zG
def yZc:zE:=⟨[(0,.c (.dat false qY)),(1,.c (.lit (.fn 160 []))),(7,.c .i),(8,.c .i)],[],[]⟩
def yAw:zE:=⟨[],[],[]⟩
def yP3:zE:=⟨[(4,.c .i)],[],[]⟩
def yM8 (f:qXa)(d:yZc.den):=f d.1.1.1 d.1.2.2.1.1 d.1.2.2.2.1.1
def qLj:zU:=⟨[yZc],[(.exit 0,yAw),(.ret,yP3)],(Unit⊕Int),fun k d=>yM8 (HG k k) d,fun b x _ K=>match x with|.inl x=>K (.exit 0) (zN b yAw ((),()))|.inr x=>K .ret (zN b yP3 (((x,()),()),()))⟩
def yEn:zW:=⟨[],[(2,qLj)],[],false⟩
theorem vRp:zT prog 1000 0 19 (zQ (zS f218) 0) qLj:=lp (A:=yEn) qLj (fun d=>match d with|.inl d=>.inl ()|.inr d=>.inr d.1.1.1) yM8 HG CC (e1 yGs) zG
def vH9:=zJ 218 [.c (.dat false qY),.c (.fn 160)] (.c .i) (fun k d=>Tq k d.1) (fun x=>(x,()))
theorem vHh:zD prog vH9:=fA (rs:=.c .i) f218 yEn (fun d=>d.1) (e1 yGs) (qB vRp)
def vXa:=zJ 162 [.c (.dat false qY),.c (.fn 160)] (.c .bool) (fun k d=>LU k d.1) (fun x=>(x,()))
theorem vMi:zD prog vXa:=fA (rs:=.c .bool) f162 ⟨[],[],[],false⟩ (fun d=>d.1) (e1 vHh) zG
def aam:=zJ 164 [.c .i] (.c .bool) (fun k d=>Tm k d.1) (fun x=>(x,()))
theorem vVr:zD prog aam:=fA (rs:=.c .bool) f164 ⟨[],[],[],false⟩ (fun d=>d.1) e0 zG
def vJl:=zJ 219 [.c .i,.ptr [.fn 164]] (.c .bool) (fun k d=>Ts k d.1) (fun x=>(x,()))
theorem yPg:zD prog vJl:=fA (rs:=.c .bool) f219 ⟨[],[],[],false⟩ (fun d=>d.1) (e1 vVr) zG
def yOp:zE:=⟨[(0,.c (.dat false .i)),(1,.c (.lit (.fn 219 [1001000]))),(7,.c .i),(8,.c .i)],[.robox [.lit (.fn 164 [])]],[]⟩
def yD6:zE:=⟨[],[],[]⟩
def yMz:zE:=⟨[(4,.c .i)],[],[]⟩
def yYv (f:qK8)(d:yOp.den):=f d.1.1.1 d.1.2.2.1.1 d.1.2.2.2.1.1
def qRz:zU:=⟨[yOp],[(.exit 0,yD6),(.ret,yMz)],(Unit⊕Int),fun k d=>yYv (HH k k) d,fun b x _ K=>match x with|.inl x=>K (.exit 0) (zN b yD6 ((),()))|.inr x=>K .ret (zN b yMz (((x,()),()),()))⟩
def yJ9:zW:=⟨[],[(2,qRz)],[],false⟩
theorem vSo:zT prog 1000 0 19 (zQ (zS f220) 0) qRz:=lp (A:=yJ9) qRz (fun d=>match d with|.inl d=>.inl ()|.inr d=>.inr d.1.1.1) yYv HH CD (e1 yPg) zG
def vRi:=zJ 220 [.c (.dat false .i),.fn 219 [[.fn 164]]] (.c .i) (fun k d=>Tt k d.1) (fun x=>(x,()))
theorem vIl:zD prog vRi:=fA (rs:=.c .i) f220 yJ9 (fun d=>d.1) (e1 yPg) (qB vSo)
def vMw:=zJ 168 [.c (.dat false .i),.fn 219 [[.fn 164]]] (.c .bool) (fun k d=>LV k d.1) (fun x=>(x,()))
theorem vLg:zD prog vMw:=fA (rs:=.c .bool) f168 ⟨[],[],[],false⟩ (fun d=>d.1) (e1 vIl) zG
def vNm:=zJ 165 [.c (.dat false .i),.c .i,.c (.fn 164)] (.c .bool) (fun k d=>HJ k d.1 d.2.1) (fun x=>(x,()))
theorem qYz:zD prog vNm:=fA (rs:=.c .bool) f165 ⟨[],[],[],false⟩ (fun d=>d.1) (e1 vLg) zG
def yTc:zE:=⟨[(1,.c .i),(2,.c (.lit (.fn 164 []))),(13,.c (.dat false (.sl .i))),(14,.c .i),(15,.c .i)],[],[]⟩
def yQk:zE:=⟨[],[],[]⟩
def yA0:zE:=⟨[(6,.c .bool)],[],[]⟩
def yGl (f:qVw)(d:yTc.den):=f d.1.1.1 d.1.2.2.1.1 d.1.2.2.2.1.1 d.1.2.2.2.2.1.1
def qHo:zU:=⟨[yTc],[(.exit 0,yQk),(.ret,yA0)],(Unit⊕Bool),fun k d=>yGl (HK k k) d,fun b x _ K=>match x with|.inl x=>K (.exit 0) (zN b yQk ((),()))|.inr x=>K .ret (zN b yA0 (((x,()),()),()))⟩
def yZ2:zW:=⟨[],[(4,qHo)],[],false⟩
theorem vHs:zT prog 1000 0 25 (zQ (zS f163) 0) qHo:=lp (A:=yZ2) qHo (fun d=>match d with|.inl d=>.inl ()|.inr d=>.inr d.1.1.1) yGl HK CF (e1 qYz) zG
def vPp:=zJ 163 [.c (.dat false (.sl .i)),.c .i,.c (.fn 164)] (.c .bool) (fun k d=>LY k d.1 d.2.1) (fun x=>(x,()))
theorem vSb:zD prog vPp:=fA (rs:=.c .bool) f163 yZ2 (fun d=>d.1) (e1 qYz) (qB vHs)
def vKv:=zJ 166 [.c .i] (.c .bool) (fun k d=>LR k d.1) (fun x=>(x,()))
theorem vJk:zD prog vKv:=fA (rs:=.c .bool) f166 ⟨[],[],[],false⟩ (fun d=>d.1) e0 zG
def vMg:=zJ 219 [.c .i,.ptr [.fn 166]] (.c .bool) (fun k d=>Tv k d.1) (fun x=>(x,()))
theorem yS6:zD prog vMg:=fA (rs:=.c .bool) f219 ⟨[],[],[],false⟩ (fun d=>d.1) (e1 vJk) zG
def vAn:zE:=⟨[(0,.c (.dat false .i)),(1,.c (.lit (.fn 219 [1001000]))),(7,.c .i),(8,.c .i)],[.robox [.lit (.fn 166 [])]],[]⟩
def yZj:zE:=⟨[],[],[]⟩
def yIi:zE:=⟨[(4,.c .i)],[],[]⟩
def yHj (f:qKc)(d:vAn.den):=f d.1.1.1 d.1.2.2.1.1 d.1.2.2.2.1.1
def qI2:zU:=⟨[vAn],[(.exit 0,yZj),(.ret,yIi)],(Unit⊕Int),fun k d=>yHj (HI k k) d,fun b x _ K=>match x with|.inl x=>K (.exit 0) (zN b yZj ((),()))|.inr x=>K .ret (zN b yIi (((x,()),()),()))⟩
def yLi:zW:=⟨[],[(2,qI2)],[],false⟩
theorem vR5:zT prog 1000 0 19 (zQ (zS f220) 0) qI2:=lp (A:=yLi) qI2 (fun d=>match d with|.inl d=>.inl ()|.inr d=>.inr d.1.1.1) yHj HI CE (e1 yS6) zG
def vSk:=zJ 220 [.c (.dat false .i),.fn 219 [[.fn 166]]] (.c .i) (fun k d=>Tw k d.1) (fun x=>(x,()))
theorem vPu:zD prog vSk:=fA (rs:=.c .i) f220 yLi (fun d=>d.1) (e1 yS6) (qB vR5)
def vXe:=zJ 168 [.c (.dat false .i),.fn 219 [[.fn 166]]] (.c .bool) (fun k d=>LW k d.1) (fun x=>(x,()))
theorem vZg:zD prog vXe:=fA (rs:=.c .bool) f168 ⟨[],[],[],false⟩ (fun d=>d.1) (e1 vPu) zG
def vEe:=zJ 165 [.c (.dat false .i),.c .i,.c (.fn 166)] (.c .bool) (fun k d=>LX k d.1 d.2.1) (fun x=>(x,()))
theorem yEh:zD prog vEe:=fA (rs:=.c .bool) f165 ⟨[],[],[],false⟩ (fun d=>d.1) (e1 vZg) zG
def yDa:zE:=⟨[(1,.c .i),(2,.c (.lit (.fn 166 []))),(13,.c (.dat false (.sl .i))),(14,.c .i),(15,.c .i)],[],[]⟩
def yGk:zE:=⟨[],[],[]⟩
def yKo:zE:=⟨[(6,.c .bool)],[],[]⟩
def yMq (f:qS9)(d:yDa.den):=f d.1.1.1 d.1.2.2.1.1 d.1.2.2.2.1.1 d.1.2.2.2.2.1.1
def qHd:zU:=⟨[yDa],[(.exit 0,yGk),(.ret,yKo)],(Unit⊕Bool),fun k d=>yMq (HL k k) d,fun b x _ K=>match x with|.inl x=>K (.exit 0) (zN b yGk ((),()))|.inr x=>K .ret (zN b yKo (((x,()),()),()))⟩
def yV4:zW:=⟨[],[(4,qHd)],[],false⟩
theorem vSz:zT prog 1000 0 25 (zQ (zS f163) 0) qHd:=lp (A:=yV4) qHd (fun d=>match d with|.inl d=>.inl ()|.inr d=>.inr d.1.1.1) yMq HL CG (e1 yEh) zG
def vDr:=zJ 163 [.c (.dat false (.sl .i)),.c .i,.c (.fn 166)] (.c .bool) (fun k d=>LZ k d.1 d.2.1) (fun x=>(x,()))
theorem aan:zD prog vDr:=fA (rs:=.c .bool) f163 yV4 (fun d=>d.1) (e1 yEh) (qB vSz)
def yZy:zE:=⟨[(0,.c (.dat false (.sl .i))),(3,.c .i),(7,.c (.dat false (.sl .i))),(8,.c .i),(9,.c .i),(14,.c (.dat false .i)),(15,.c .i),(16,.c .i)],[],[]⟩
def yRs:zE:=⟨[(0,.c (.dat false (.sl .i))),(7,.c (.dat false (.sl .i))),(8,.c .i),(9,.c .i)],[],[]⟩
def yJs:zE:=⟨[(2,.c .bool)],[],[]⟩
def vCf (f:qLl)(d:yZy.den):=f d.1.1.1 d.1.2.1.1 d.1.2.2.1.1 d.1.2.2.2.1.1 d.1.2.2.2.2.1.1 d.1.2.2.2.2.2.1.1 d.1.2.2.2.2.2.2.1.1 d.1.2.2.2.2.2.2.2.1.1
def qQk:zU:=⟨[yZy],[(.exit 2,yRs),(.ret,yJs)],qRj,fun k d=>vCf (CH k k) d,fun b x _ K=>match x with|.inl x=>K (.exit 2) (zN b yRs (((x.1,()),(x.2.1,()),(x.2.2.1,()),(x.2.2.2,()),()),()))|.inr x=>K .ret (zN b yJs (((x,()),()),()))⟩
def vAa:zE:=⟨[(0,.c (.dat false (.sl .i))),(7,.c (.dat false (.sl .i))),(8,.c .i),(9,.c .i)],[],[]⟩
def yGz:zE:=⟨[],[],[]⟩
def yOd:zE:=⟨[(2,.c .bool)],[],[]⟩
def yRm (f:qOx)(d:vAa.den):=f d.1.1.1 d.1.2.1.1 d.1.2.2.1.1 d.1.2.2.2.1.1
def qJg:zU:=⟨[vAa],[(.exit 0,yGz),(.ret,yOd)],(Unit⊕Bool),fun k d=>yRm (HM k k) d,fun b x _ K=>match x with|.inl x=>K (.exit 0) (zN b yGz ((),()))|.inr x=>K .ret (zN b yOd (((x,()),()),()))⟩
def qXm:zW:=⟨[],[(5,qQk),(2,qJg)],[],false⟩
theorem vZ2:zT prog 1000 0 33 (zQ (zQ (zS f167) 0) 0) qQk:=lp (A:=qXm) qQk (fun d=>match d with|.inl d=>.inl (d.1.1.1,d.1.2.1.1,d.1.2.2.1.1,d.1.2.2.2.1.1)|.inr d=>.inr d.1.1.1) vCf CH CI e0 zG
theorem vXp:zT prog 1000 0 33 (zQ (zS f167) 0) qJg:=lp (A:=qXm) qJg (fun d=>match d with|.inl d=>.inl ()|.inr d=>.inr d.1.1.1) yRm HM CJ e0 (qB vZ2)
def vOc:=zJ 167 [.c (.dat false (.sl .i))] (.c .bool) (fun k d=>L1 k d.1) (fun x=>(x,()))
theorem vNs:zD prog vOc:=fA (rs:=.c .bool) f167 qXm (fun d=>d.1) e0 (qB vXp)
def aao:=zJ 108 [.agg jI] (.c .bool) (fun k d=>(vB (HN k) d)) (fun x=>(x,()))
theorem O9:zD prog aao:=fA (rs:=.c .bool) f108 ⟨[],[],[],false⟩ (fun d=>d.1) (e5 vMi vSb qYz aan vNs) zG
def yK3:zE:=⟨[(2,.c (.lit (.ptr 1001000 0))),(4,.c (.lit (.ptr 1001001 0))),(7,.c (.lit (.ptr 1001002 0))),(24,.c (.dat false zH)),(25,.c .i),(26,.c .i)],[.box true vZ,.box true mV,.box true rq,.arr true qY,.mat,.arr true .i,.mat],[]⟩
def yNw:zE:=⟨[(2,.c (.lit (.ptr 1001000 0))),(4,.c (.lit (.ptr 1001001 0))),(7,.c (.lit (.ptr 1001002 0)))],[.box true vZ,.box true mV,.box true rq,.arr true qY,.mat,.arr true .i,.mat],[]⟩
def yW1 (f:qS6)(d:yK3.den):=(vB (f d.1.2.2.2.1.1 d.1.2.2.2.2.1.1 d.1.2.2.2.2.2.1.1) d.2.1) d.2.2.2.2.1 d.2.2.2.2.2.1 d.2.2.2.2.2.2.1 d.2.2.2.2.2.2.2.1
def qO9:zU:=⟨[yK3],[(.exit 0,yNw)],qSb,fun k d=>yW1 (CU k k) d,fun b x _ K=>K (.exit 0) (zN b yNw (((),(),(),()),((vO x ()),(),(),x.2.2.2.2.1,x.2.2.2.2.2.1,x.2.2.2.2.2.2.1,x.2.2.2.2.2.2.2,())))⟩
def yO0:zW:=⟨[],[(6,qO9)],[],false⟩
theorem vU8:zT prog 1000 0 104 (zQ (zS f253) 0) qO9:=lp (A:=yO0) qO9 (fun d=>(vO d.2.1 (d.2.2.2.2.1,d.2.2.2.2.2.1,d.2.2.2.2.2.2.1,d.2.2.2.2.2.2.2.1))) yW1 CU CV (e4 yUy nQ O3 O9) zG
def vSx:=zJ 253 [.agg ki,.c (.dat false zH)] (.tup [(true,jA),(false,qF)]) (fun k d=>(kF (oN k) d)) (fun x=>(wS x ()))
theorem Ba:zD prog vSx:=fA (rs:=.tup [(true,jA),(false,qF)]) f253 yO0 (fun d=>(yG d)) (e4 yUy nQ O3 O9) (qB vU8)
def yI9:zE:=⟨[(3,.c (.lit (.ptr 1001000 0))),(6,.c (.lit (.ptr 1001001 0))),(7,.c (.lit (.ptr 1001002 0))),(15,.c (.lit (.osl 1001003 none))),(16,.c .i),(17,.c .i)],[.box true vZ,.box true vU,.box true mV,.arr true zH],[]⟩
def yVv:zE:=⟨[(3,.c (.lit (.ptr 1001000 0))),(6,.c (.lit (.ptr 1001001 0))),(7,.c (.lit (.ptr 1001002 0)))],[.box true vZ,.box true vU,.box true mV],[]⟩
def yQ0:zE:=⟨[(6,.c (.lit (.ptr 1001000 0))),(7,.c (.lit (.ptr 1001001 0))),(8,.c .bool)],[.box true vU,.box true vZ],[]⟩
def vBa (f:qYd)(d:yI9.den):=(ly (vB (f d.1.2.2.2.2.1.1 d.1.2.2.2.2.2.1.1) d.2.1) d.2.2.1) d.2.2.2.2.1
def qM8:zU:=⟨[yI9],[(.exit 0,yVv),(.ret,yQ0)],qHs,fun k d=>vBa (IG k k) d,fun b x _ K=>match x with|.inl x=>K (.exit 0) (zN b yVv (((),(),(),()),((vO x ()),(qRo x ()),(),())))|.inr x=>K .ret (zN b yQ0 (((),(),(x.1,()),()),((qX0 x ()),(vUu x ()),())))⟩
def vBv:zW:=⟨[],[(2,qM8)],[],false⟩
theorem aap:zT prog 1000 0 40 (zQ (zS f276) 0) qM8:=lp (A:=vBv) qM8 (fun d=>match d with|.inl d=>.inl (vO d.2.1 (vJ d.2.2.1))|.inr d=>.inr (d.1.2.2.1.1,(iT d.2.1 (wM d.2.2.1)))) vBa IG D7 (e3 J7 J9 Ba) zG
def vL7:=zJ 276 [.agg ki,.c (.dat true zH),.c .i] (.tup [(true,fc),(true,jA),(false,[.bool])]) (fun k d=>(iW (MS k) d)) (fun x=>(A7 x ()))
theorem yRg:zD prog vL7:=fA (rs:=.tup [(true,fc),(true,jA),(false,[.bool])]) f276 vBv (fun d=>(w6 d)) (e3 J7 J9 Ba) (qB aap)
def yY0:zE:=⟨[(2,.c .i),(6,.c (.lit (.ptr 1001000 0))),(7,.c (.dat true zH)),(8,.c (.lit (.osl 1001001 none)))],[.box true vZ,.arr true zH],[(8,none,zH,false)]⟩
def yLm:zE:=⟨[(6,.c (.lit (.ptr 1001000 0))),(7,.c (.dat true zH)),(8,.c (.lit (.osl 1001001 none)))],[.box true vZ,.arr true zH],[]⟩
def yDj (f:qO8)(d:yY0.den):=(vB (f d.1.1.1 d.1.2.2.1.1) d.2.1) d.2.2.1
def qKa:zU:=⟨[yY0],[(.ret,yLm)],qXl,fun k d=>yDj (IH k k) d,fun b x _ K=>K .ret (zN b yLm (((),(x.1,()),(),()),((gP x ()),x.2.2.2.2.2,())))⟩
def yX8:zW:=⟨[],[(2,qKa)],[],false⟩
theorem aaq:zT prog 1000 0 40 (zQ (zS f248) 0) qKa:=lp (A:=yX8) qKa (fun d=>(d.1.2.1.1,(vO d.2.1 d.2.2.1))) yDj IH D9 (e2 yRg o0) zG
def vIy:=zJ 248 [.agg ki,.c (.dat true zH),.c .i] (.tup [(true,jA),(false,vL),(false,[.own zH])]) (fun k d=>(iW (MU k) d)) (fun x=>(mW x ()))
theorem vA6:zD prog vIy:=fA (rs:=.tup [(true,jA),(false,vL),(false,[.own zH])]) f248 yX8 (fun d=>(mn d)) (e2 yRg o0) (qB aaq)
def yKy:zE:=⟨[(3,.c (.lit (.ptr 1001000 0))),(6,.c (.lit (.ptr 1001001 0))),(8,.c (.lit (.osl 1001002 none))),(10,.c (.lit (.ptr 1001003 0))),(18,.c (.lit (.osl 1001002 none))),(19,.c .i),(20,.c .i),(24,.c (.lit (.osl 1001002 none))),(25,.c .i),(26,.c .i)],[.box true vZ,.box true Pb,.arr true zH,.box true vU],[]⟩
def yJ3:zE:=⟨[(3,.c (.lit (.ptr 1001000 0))),(6,.c (.lit (.ptr 1001001 0))),(8,.c (.lit (.osl 1001002 none))),(18,.c (.lit (.osl 1001002 none))),(19,.c .i),(20,.c .i)],[.box true vZ,.box true Pb,.arr true zH],[]⟩
def yFi:zE:=⟨[(6,.c (.lit (.ptr 1001000 0))),(7,.c .bool)],[.box true yX5],[]⟩
def yJ1 (f:qH2)(d:yKy.den):=(ly ((FW (vB (f d.1.2.2.2.2.2.1.1 d.1.2.2.2.2.2.2.1.1 d.1.2.2.2.2.2.2.2.2.1.1 d.1.2.2.2.2.2.2.2.2.2.1.1) d.2.1) d.2.2.1) d.2.2.2.1) d.2.2.2.2.1)
def qQo:zU:=⟨[yKy],[(.exit 2,yJ3),(.ret,yFi)],qY5,fun k d=>yJ1 (II k k) d,fun b x _ K=>match x with|.inl x=>K (.exit 2) (zN b yJ3 (((),(),(),(),(x.1,()),(x.2.1,()),()),((OT x ()),(aar x ()),x.2.2.2.2.2.2.2.2.2.2.2.2.2.2.2.2.2.2.2.2,())))|.inr x=>K .ret (zN b yFi (((),(x.1,()),()),((qHh x ()),())))⟩
def yBu:zE:=⟨[(3,.c (.lit (.ptr 1001000 0))),(6,.c (.lit (.ptr 1001001 0))),(8,.c (.lit (.osl 1001002 none))),(18,.c (.lit (.osl 1001002 none))),(19,.c .i),(20,.c .i)],[.box true vZ,.box true Pb,.arr true zH],[]⟩
def yIf:zE:=⟨[(6,.c (.lit (.ptr 1001000 0)))],[.box true Pb],[]⟩
def ySn:zE:=⟨[(6,.c (.lit (.ptr 1001000 0))),(7,.c .bool)],[.box true yX5],[]⟩
def ySm (f:qMd)(d:yBu.den):=(FW (vB (f d.1.2.2.2.2.1.1 d.1.2.2.2.2.2.1.1) d.2.1) d.2.2.1) d.2.2.2.1
def qNc:zU:=⟨[yBu],[(.exit 0,yIf),(.ret,ySn)],qKn,fun k d=>ySm (IK k k) d,fun b x _ K=>match x with|.inl x=>K (.exit 0) (zN b yIf (((),()),((Pc x ()),())))|.inr x=>K .ret (zN b ySn (((),(x.1,()),()),((qHh x ()),())))⟩
def qNq:zW:=⟨[],[(6,qQo),(3,qNc)],[],false⟩
theorem vUk:zT prog 1000 0 74 (zQ (zQ (zS f277) 0) 0) qQo:=lp (A:=qNq) qQo (fun d=>match d with|.inl d=>.inl (d.1.2.2.2.2.1.1,d.1.2.2.2.2.2.1.1,(vO d.2.1 (qIg d.2.2.1 d.2.2.2.1)))|.inr d=>.inr (d.1.2.1.1,(jQ d.2.1))) yJ1 II Ec (e3 J7 J9 Ba) zG
theorem vGu:zT prog 1000 0 74 (zQ (zS f277) 0) qNc:=lp (A:=qNq) qNc (fun d=>match d with|.inl d=>.inl (qX2 d.2.1)|.inr d=>.inr (d.1.2.1.1,(jQ d.2.1))) ySm IK Ed (e3 J7 J9 Ba) (qB vUk)
def aas:=zJ 277 [.agg ki,.c (.dat true zH),.c .i] (.tup [(true,vCp),(false,[.bool])]) (fun k d=>(iW (MW k) d)) (fun x=>(wx x ()))
theorem qT3:zD prog aas:=fA (rs:=.tup [(true,vCp),(false,[.bool])]) f277 qNq (fun d=>(Pd d)) (e3 J7 J9 Ba) (qB vGu)
def yJt:zE:=⟨[(2,.c .i),(6,.c (.lit (.ptr 1001000 0))),(7,.c (.dat true zH)),(8,.c (.lit (.osl 1001001 none))),(33,.c (.lit (.osl 1001002 none))),(34,.c .i),(35,.c .i)],[.box true vZ,.arr true zH,.arr true zH],[(8,none,zH,false)]⟩
def yMm:zE:=⟨[(2,.c .i),(6,.c (.lit (.ptr 1001000 0))),(7,.c (.dat true zH)),(8,.c (.lit (.osl 1001001 none)))],[.box true vZ,.arr true zH],[]⟩
def vAh (f:qQm)(d:yJt.den):=(vB (f d.1.1.1 d.1.2.2.1.1 d.1.2.2.2.2.2.1.1 d.1.2.2.2.2.2.2.1.1) d.2.1) d.2.2.1 d.2.2.2.1
def qSs:zU:=⟨[yJt],[(.exit 2,yMm)],qV1,fun k d=>vAh (vd k k) d,fun b x _ K=>K (.exit 2) (zN b yMm (((x.1,()),(),(x.2.1,()),(),()),((OT x ()),x.2.2.2.2.2.2,())))⟩
def yPe:zE:=⟨[(2,.c .i),(6,.c (.lit (.ptr 1001000 0))),(7,.c (.dat true zH)),(8,.c (.lit (.osl 1001001 none)))],[.box true vZ,.arr true zH],[(8,none,zH,false)]⟩
def yBe:zE:=⟨[(6,.c (.lit (.ptr 1001000 0))),(7,.c (.dat true zH)),(8,.c (.lit (.osl 1001001 none)))],[.box true vZ,.arr true zH],[]⟩
def yBa (f:qS5)(d:yPe.den):=(vB (f d.1.1.1 d.1.2.2.1.1) d.2.1) d.2.2.1
def qHz:zU:=⟨[yPe],[(.ret,yBe)],qV7,fun k d=>yBa (IL k k) d,fun b x _ K=>K .ret (zN b yBe (((),(x.1,()),(),()),((gP x ()),x.2.2.2.2.2,())))⟩
def qQj:zW:=⟨[],[(7,qSs),(2,qHz)],[],false⟩
theorem vW7:zT prog 1000 0 52 (zQ (zQ (zS f249) 0) 0) qSs:=lp (A:=qQj) qSs (fun d=>(d.1.1.1,d.1.2.2.1.1,(vO d.2.1 d.2.2.1))) vAh vd vf (e2 qT3 o0) zG
theorem vP7:zT prog 1000 0 52 (zQ (zS f249) 0) qHz:=lp (A:=qQj) qHz (fun d=>(d.1.2.1.1,(vO d.2.1 d.2.2.1))) yBa IL Ee (e2 qT3 o0) (qB vW7)
def aat:=zJ 249 [.agg ki,.c (.dat true zH),.c .i] (.tup [(true,jA),(false,vL),(false,[.own zH])]) (fun k d=>(iW (MX k) d)) (fun x=>(mW x ()))
theorem yWh:zD prog aat:=fA (rs:=.tup [(true,jA),(false,vL),(false,[.own zH])]) f249 qQj (fun d=>(mn d)) (e2 qT3 o0) (qB vP7)
def yA1:zE:=⟨[(2,.c .i),(6,.c (.lit (.ptr 1001000 0))),(7,.c (.dat true zH)),(8,.c (.lit (.osl 1001001 none)))],[.box true vZ,.arr true zH],[(8,none,zH,false)]⟩
def yMp:zE:=⟨[(6,.c (.lit (.ptr 1001000 0))),(7,.c (.dat true zH)),(8,.c (.lit (.osl 1001001 none)))],[.box true vZ,.arr true zH],[]⟩
def yEc (f:qPh)(d:yA1.den):=(vB (f d.1.1.1 d.1.2.2.1.1) d.2.1) d.2.2.1
def qU9:zU:=⟨[yA1],[(.ret,yMp)],qM5,fun k d=>yEc (IU k k) d,fun b x _ K=>K .ret (zN b yMp (((),(x.1,()),(),()),((gP x ()),x.2.2.2.2.2,())))⟩
def vC7:zW:=⟨[],[(2,qU9)],[],false⟩
theorem vL1:zT prog 1000 0 40 (zQ (zS f212) 0) qU9:=lp (A:=vC7) qU9 (fun d=>(d.1.2.1.1,(vO d.2.1 d.2.2.1))) yEc IU M7 (e2 vA6 yWh) zG
def vGy:=zJ 212 [.agg ki,.c (.dat true zH),.c .i] (.tup [(true,jA),(false,vL),(false,[.own zH])]) (fun k d=>(iW (IV k) d)) (fun x=>(mW x ()))
theorem aau:zD prog vGy:=fA (rs:=.tup [(true,jA),(false,vL),(false,[.own zH])]) f212 vC7 (fun d=>(mn d)) (e2 vA6 yWh) (qB vL1)
def vUq:=uM 279 false .i (.own .i) UH
theorem vN4:zD prog vUq:=fC f279 ⟨[],[],[],false⟩ e0 zG
def vNx:=yK 280 [.agg vE,.ptr true [.own .i]] (.c .bool) [mm] 0 (fun k d=>(lv (UJ k) d)) (fun x=>(x.1,x.2,()))
theorem yAs:zD prog vNx:=fX (rs:=.c .bool) (os:=[mm]) (ns:=0) f280 ⟨[],[],[],false⟩ 2 (fun d=>(d.1,d.2.1)) e0 zG
def vBl:zE:=⟨[(1,.c (.lit (.fn 280 [1001000]))),(5,.c (.lit (.osl 1001002 none))),(8,.c (.dat false zH)),(9,.c .i),(10,.c .i)],[.box true [.lit (.osl 1001001 none)],.arr true .i,.arr true zH],[(5,none,zH,false)]⟩
def yEb:zE:=⟨[(1,.c (.lit (.fn 280 [1001000]))),(5,.c (.lit (.osl 1001002 none)))],[.box true [.lit (.osl 1001001 none)],.arr true .i,.arr true zH],[]⟩
def ySl (f:qQv)(d:vBl.den):=f d.1.2.2.1.1 d.1.2.2.2.1.1 d.1.2.2.2.2.1.1 d.2.2.1 d.2.2.2.1
def qV6:zU:=⟨[vBl],[(.exit 0,yEb)],qY8,fun k d=>ySl (Eh k k) d,fun b x _ K=>K (.exit 0) (zN b yEb (((),(),()),((),x.1,x.2,())))⟩
def yW0:zW:=⟨[],[(3,qV6)],[],false⟩
theorem vVe:zT prog 1000 2 23 (zQ (zS f193) 0) qV6:=lp (A:=yW0) qV6 (fun d=>(d.2.2.1,d.2.2.2.1)) ySl Eh Ei (e1 yAs) zG
def vN0:=yK 193 [.c (.p (.dat false zH)),.fn 280 [(true,[.own .i])]] (.c (.own zH)) [mm] 0 (fun k d=>UI k d.1 d.2.1) (fun x=>(x.1,x.2,()))
theorem vUo:zD prog vN0:=fX (rs:=.c (.own zH)) (os:=[mm]) (ns:=0) f193 yW0 2 (fun d=>(d.1,d.2.1)) (e1 yAs) (qB vVe)
def vW8:=zJ 251 [.c (.dat false zH),.c (.dat false .i)] (.c (.own zH)) (fun k d=>Eg k d.1 d.2.1) (fun x=>(x,()))
theorem F1:zD prog vW8:=fA (rs:=.c (.own zH)) f251 ⟨[],[],[],false⟩ (fun d=>d.1) (e2 vN4 vUo) zG
def qZ5:zE:=⟨[(3,.c (.lit (.ptr 1001000 0))),(6,.c (.lit (.osl 1001001 none))),(7,.c .i),(8,.c (.lit (.osl 1001002 none))),(18,.c .i),(19,.c .i)],[.box true jO,.arr true .i,.arr true zH],[(6,none,.i,false)]⟩
def yWr:zE:=⟨[(3,.c (.lit (.ptr 1001000 0))),(6,.c (.lit (.osl 1001001 none))),(7,.c .i),(8,.c (.lit (.osl 1001002 none)))],[.box true jO,.arr true .i,.arr true zH],[]⟩
def yK4 (f:qRe)(d:qZ5.den):=(vB (f d.1.2.2.1.1 d.1.2.2.2.2.1.1 d.1.2.2.2.2.2.1.1) d.2.1) d.2.2.1 d.2.2.2.1
def Pe:zU:=⟨[qZ5],[(.exit 0,yWr)],qMp,fun k d=>yK4 (zm k k) d,fun b x _ K=>K (.exit 0) (zN b yWr (((),(),(x.1,()),(),()),((gP x ()),x.2.2.2.2.2.1,x.2.2.2.2.2.2,())))⟩
def yQ5:zE:=⟨[(3,.c (.lit (.ptr 1001000 0))),(6,.c (.lit (.osl 1001001 none))),(7,.c .i),(8,.c (.lit (.osl 1001002 none))),(42,.c (.lit (.osl 1001003 none))),(43,.c .i),(44,.c .i)],[.box true jO,.arr true .i,.arr true zH,.arr true .i],[]⟩
def yGm:zE:=⟨[(3,.c (.lit (.ptr 1001000 0))),(6,.c (.lit (.osl 1001001 none))),(7,.c .i),(8,.c (.lit (.osl 1001002 none)))],[.box true jO,.arr true .i,.arr true zH],[]⟩
def yBx (f:qSd)(d:yQ5.den):=(vB (f d.1.2.2.1.1 d.1.2.2.2.2.2.1.1 d.1.2.2.2.2.2.2.1.1) d.2.1) d.2.2.1 d.2.2.2.1 d.2.2.2.2.1
def qM7:zU:=⟨[yQ5],[(.exit 4,yGm)],qK0,fun k d=>yBx (El k k) d,fun b x _ K=>K (.exit 4) (zN b yGm (((),(),(x.1,()),(),()),((gP x ()),x.2.2.2.2.2.1,x.2.2.2.2.2.2,())))⟩
def yL2:zE:=⟨[(3,.c (.lit (.ptr 1001000 0))),(6,.c (.lit (.osl 1001001 none))),(7,.c .i),(8,.c (.lit (.osl 1001002 none)))],[.box true jO,.arr true .i,.arr true zH],[]⟩
def yUz:zE:=⟨[(6,.c (.lit (.osl 1001000 none))),(7,.c .i)],[.arr true .i],[]⟩
def vCj (f:qWw)(d:yL2.den):=(vB (f d.1.2.2.1.1) d.2.1) d.2.2.1 d.2.2.2.1
def Pf:zU:=⟨[yL2],[(.ret,yUz)],(Int×AC),fun k d=>vCj (IT k k) d,fun b x _ K=>K .ret (zN b yUz (((),(x.1,()),()),(x.2,())))⟩
def Pg:zW:=⟨[],[(3,Pe),(12,qM7),(7,Pf)],[],false⟩
theorem vSg:zT prog 1000 0 55 (zQ (zS f250) 0) Pe:=lp (A:=Pg) Pe (fun d=>(d.1.2.2.1.1,(vO d.2.1 (d.2.2.1,d.2.2.2.1)))) yK4 zm Ek (e4 A9 J4 F1 J8) zG
theorem vGo:zT prog 1000 0 55 (zQ (zQ (zS f250) 1) 0) qM7:=lp (A:=Pg) qM7 (fun d=>(d.1.2.2.1.1,(vO d.2.1 (d.2.2.1,d.2.2.2.1)))) yBx El Em (e4 A9 J4 F1 J8) zG
theorem aav:zT prog 1000 0 55 (zQ (zS f250) 1) Pf:=lp (A:=Pg) Pf (fun d=>(d.1.2.1.1,d.2.1)) vCj IT En (e4 A9 J4 F1 J8) (qB vGo)
def vOe:=zJ 250 [.agg jI,.c (.dat false zH),.c .i] (.tup [(false,mm),(false,qF)]) (fun k d=>(iW (M4 k) d)) (fun x=>(x.1,x.2,()))
theorem yAg:zD prog vOe:=fA (rs:=.tup [(false,mm),(false,qF)]) f250 Pg (fun d=>(d.1,d.2.1)) (e4 A9 J4 F1 J8) (loopsOK_of (n:=2) (by kernel_rfl) fun i hi=>match i,hi with|0,_=>⟨Pe,by kernel_rfl,vSg⟩|1,_=>⟨Pf,by kernel_rfl,aav⟩|i+2,hi=>absurd hi (by omega))
def yH8:zE:=⟨[(6,.c (.lit (.ptr 1001000 0))),(7,.c (.dat true zH)),(11,.c (.lit (.osl 1001001 none))),(38,.c (.lit (.osl 1001001 none))),(39,.c .i),(40,.c .i)],[.box true vZ,.arr true zH],[]⟩
def yQy:zE:=⟨[(6,.c (.lit (.ptr 1001000 0))),(7,.c (.dat true zH)),(11,.c (.lit (.osl 1001001 none)))],[.box true vZ,.arr true zH],[]⟩
def yXp (f:qX5)(d:yH8.den):=(vB (f d.1.2.1.1 d.1.2.2.2.2.1.1 d.1.2.2.2.2.2.1.1) d.2.1) d.2.2.1
def qKu:zU:=⟨[yH8],[(.exit 0,yQy)],qTa,fun k d=>yXp (zn k k) d,fun b x _ K=>K (.exit 0) (zN b yQy (((),(x.1,()),(),()),((gP x ()),x.2.2.2.2.2,())))⟩
def vBs:zW:=⟨[],[(8,qKu)],[],false⟩
theorem vTb:zT prog 1000 0 56 (zQ (zS f213) 0) qKu:=lp (A:=vBs) qKu (fun d=>(d.1.2.1.1,(vO d.2.1 d.2.2.1))) yXp zn Eo (e5 yAg A9 F1 Ba o0) zG
def vTk:=zJ 213 [.agg ki,.c (.dat true zH),.c .i] (.tup [(true,jA),(false,vL),(false,[.own zH])]) (fun k d=>(iW (zo k) d)) (fun x=>(mW x ()))
theorem aaw:zD prog vTk:=fA (rs:=.tup [(true,jA),(false,vL),(false,[.own zH])]) f213 vBs (fun d=>(mn d)) (e5 yAg A9 F1 Ba o0) (qB vTb)
def vSs:=zJ 146 [.agg ki,.c (.dat true zH),.c .i,.c .bool] (.tup [(true,jA),(false,vL),(false,[.own zH])]) (fun k d=>(ly (vj k) d)) (fun x=>(mW x ()))
theorem vGn:zD prog vSs:=fA (rs:=.tup [(true,jA),(false,vL),(false,[.own zH])]) f146 ⟨[],[],[],false⟩ (fun d=>(mn d)) (e2 aau aaw) zG
def yRh:zE:=⟨[(3,.c (.lit (.osl 1001000 none))),(5,.c (.lit (.ptr 1001001 0))),(8,.c (.dat false zH)),(9,.c .i),(10,.c .i),(18,.c (.lit (.osl 1001002 none))),(19,.c .i),(20,.c .i)],[.arr true qN,.box true vU,.arr true .i],[(3,none,qN,false)]⟩
def yL4:zE:=⟨[(3,.c (.lit (.osl 1001000 none))),(8,.c (.dat false zH)),(9,.c .i),(10,.c .i)],[.arr true qN],[]⟩
def yS5 (f:qMn)(d:yRh.den):=(ly (f d.1.2.2.1.1 d.1.2.2.2.1.1 d.1.2.2.2.2.1.1 d.1.2.2.2.2.2.2.1.1 d.1.2.2.2.2.2.2.2.1.1 d.2.1) d.2.2.1) d.2.2.2.1
def qXs:zU:=⟨[yRh],[(.exit 2,yL4)],qO7,fun k d=>yS5 (vl k k) d,fun b x _ K=>K (.exit 2) (zN b yL4 (((),(x.1,()),(x.2.1,()),(x.2.2.1,()),()),(x.2.2.2,())))⟩
def yY4:zE:=⟨[(3,.c (.lit (.osl 1001000 none))),(8,.c (.dat false zH)),(9,.c .i),(10,.c .i)],[.arr true qN],[(3,none,qN,false)]⟩
def yB6:zE:=⟨[(3,.c (.lit (.osl 1001000 none)))],[.arr true qN],[]⟩
def vC2 (f:qM3)(d:yY4.den):=f d.1.2.1.1 d.1.2.2.1.1 d.1.2.2.2.1.1 d.2.1
def qKz:zU:=⟨[yY4],[(.exit 0,yB6)],qVo,fun k d=>vC2 (IW k k) d,fun b x _ K=>K (.exit 0) (zN b yB6 (((),()),(x,())))⟩
def qIv:zW:=⟨[],[(6,qXs),(3,qKz)],[],false⟩
theorem vMz:zT prog 1000 0 41 (zQ (zQ (zS f147) 0) 0) qXs:=lp (A:=qIv) qXs (fun d=>(d.1.2.1.1,d.1.2.2.1.1,d.1.2.2.2.1.1,d.2.1)) yS5 vl vm (e1 xc) zG
theorem aax:zT prog 1000 0 41 (zQ (zS f147) 0) qKz:=lp (A:=qIv) qKz (fun d=>d.2.1) vC2 IW Es (e1 xc) (qB vMz)
def vTu:=zJ 147 [.c (.dat false zH)] (.c (.own qN)) (fun k d=>M8 k d.1) (fun x=>(x,()))
theorem vVg:zD prog vTu:=fA (rs:=.c (.own qN)) f147 qIv (fun d=>d.1) (e1 xc) (qB aax)
def vY8:=zJ 93 [.agg w4,.c .bool] (.tup [(true,kC),(false,[.own qN])]) (fun k d=>(Ka (ta k) d)) (fun x=>(A7 x ()))
theorem qHf:zD prog vY8:=fA (rs:=.tup [(true,kC),(false,[.own qN])]) f93 ⟨[],[],[],false⟩ (fun d=>(w6 d)) (e2 vGn vVg) zG
def yV2:zE:=⟨[(2,.c (.lit (.ptr 1001000 0))),(3,.c (.lit (.ptr 1001001 0))),(4,.c (.lit (.ptr 1001002 0))),(6,.c (.lit (.osl 1001003 none))),(7,.c (.lit (.osl 1001004 none))),(27,.c (.dat true zH)),(28,.c .i),(29,.c .i)],[.box true oZ,.box true fY,.box true fb,.arr true qN,.arr true zH],[(6,none,qN,false),(7,none,zH,false)]⟩
def yMa:zE:=⟨[(2,.c (.lit (.ptr 1001000 0))),(3,.c (.lit (.ptr 1001001 0))),(4,.c (.lit (.ptr 1001002 0))),(6,.c (.lit (.osl 1001003 none))),(7,.c (.lit (.osl 1001004 none)))],[.box true oZ,.box true fY,.box true fb,.arr true qN,.arr true zH],[]⟩
def yUn (f:qHb)(d:yV2.den):=(rA (kF (f d.1.2.2.2.2.2.1.1 d.1.2.2.2.2.2.2.1.1 d.1.2.2.2.2.2.2.2.1.1) d.2.1) d.2.2.1) d.2.2.2.1.1 d.2.2.2.1.2.1 d.2.2.2.1.2.2.1 d.2.2.2.2.1 d.2.2.2.2.2.1
def qYw:zU:=⟨[yV2],[(.exit 0,yMa)],qL2,fun k d=>yUn (EB k k) d,fun b x _ K=>K (.exit 0) (zN b yMa (((),(),(),(),(),()),((nR x ()),(vKl x ()),(x.2.2.2.2.2.2.2.2.2.2.2.2.2.2.2.2.1,x.2.2.2.2.2.2.2.2.2.2.2.2.2.2.2.2.2.1,x.2.2.2.2.2.2.2.2.2.2.2.2.2.2.2.2.2.2.1,()),x.2.2.2.2.2.2.2.2.2.2.2.2.2.2.2.2.2.2.2.1,x.2.2.2.2.2.2.2.2.2.2.2.2.2.2.2.2.2.2.2.2,())))⟩
def yQa:zW:=⟨[],[(9,qYw)],[],false⟩
theorem vQk:zT prog 1000 0 66 (zQ (zS f92) 0) qYw:=lp (A:=yQa) qYw (fun d=>(nR d.2.1 (xd d.2.2.1 (d.2.2.2.1.1,d.2.2.2.1.2.1,d.2.2.2.1.2.2.1,d.2.2.2.2.1,d.2.2.2.2.2.1)))) yUn EB EC (e6 O4 yUf yKq xc yMg qHf) zG
def aay:=zJ 92 [.agg iU,.agg w4] (.tup [(true,kC),(false,[.own qN])]) (fun k d=>(yBi (vq k) d)) (fun x=>(A7 x ()))
theorem aaz:zD prog aay:=fA (rs:=.tup [(true,kC),(false,[.own qN])]) f92 yQa (fun d=>(w6 d)) (e6 O4 yUf yKq xc yMg qHf) (qB vQk)
def aaA:=yK 136 [.ptr true w7,.agg JT] (.c .i) [wP] 0 (fun k d=>yC4 k (kE d) (yUp d)) (fun x=>(x.1,(wY x.2 ())))
theorem vX9:zD prog aaA:=fX (rs:=.c .i) (os:=[wP]) (ns:=0) f136 n0 1 (fun d=>(d.1,(iV d))) (e4 gO yZp yIe OW) zG
def vIw:=yK 137 [.ptr true w7,.agg vE] (.c .i) [wP] 0 (fun k d=>Ph k (kE d) (FY d)) (fun x=>(x.1,(wY x.2 ())))
theorem aaB:zD prog vIw:=fX (rs:=.c .i) (os:=[wP]) (ns:=0) f137 n0 1 (fun d=>(d.1,(iV d))) (e8 yY1 o0 yPj gO Y2 yR8 yRl vBy) zG
def aaC:=yK 138 [.ptr true w7,.agg vE] (.c .i) [wP] 0 (fun k d=>Pj k (kE d) (FY d)) (fun x=>(x.1,(wY x.2 ())))
theorem vK6:zD prog aaC:=fX (rs:=.c .i) (os:=[wP]) (ns:=0) f138 n0 1 (fun d=>(d.1,(iV d))) (e3 nQ yOh gO) zG
def vTi:=yK 139 [.ptr true w7,.c (.p .i),.c (.p .i)] (.c .i) [wP] 0 (fun k d=>yWq k (kE d) d.2.2.2.2.2.2.2.2.2.2.2.2.2.2.2.2.2.2.1 d.2.2.2.2.2.2.2.2.2.2.2.2.2.2.2.2.2.2.2.1) (fun x=>(x.1,(wY x.2 ())))
theorem vTe:zD prog vTi:=fX (rs:=.c .i) (os:=[wP]) (ns:=0) f139 n0 1 (fun d=>(d.1,(iV d))) (e6 FZ gO yT6 F0 xa nQ) zG
def vYr:=yK 140 [.ptr true w7,.c (.p .i),.c (.p .i),.c (.p .i)] (.c .i) [wP] 0 (fun k d=>EV k (kE d) d.2.2.2.2.2.2.2.2.2.2.2.2.2.2.2.2.2.2.1 d.2.2.2.2.2.2.2.2.2.2.2.2.2.2.2.2.2.2.2.1 d.2.2.2.2.2.2.2.2.2.2.2.2.2.2.2.2.2.2.2.2.1) (fun x=>(x.1,(wY x.2 ())))
theorem aaD:zD prog vYr:=fX (rs:=.c .i) (os:=[wP]) (ns:=0) f140 n0 1 (fun d=>(d.1,(iV d))) (e5 gO vDa yPr yIl nQ) zG
def vAs:zE:=⟨[(0,.c (.lit (.ptr 1001000 0))),(7,.c (.lit (.osl 1001001 none))),(8,.c (.lit (.ptr 1001002 0))),(40,.c (.dat true (.sl .i))),(41,.c .i),(42,.c .i)],[.box true qS7,.arr true .i,.box true rq,.arr true qY,.mat,.arr true .i,.mat],[]⟩
def yRf:zE:=⟨[(0,.c (.lit (.ptr 1001000 0))),(7,.c (.lit (.osl 1001001 none))),(8,.c (.lit (.ptr 1001002 0)))],[.box true qS7,.arr true .i,.box true rq,.arr true qY,.mat,.arr true .i,.mat],[]⟩
def yDo:zE:=⟨[(0,.c (.lit (.ptr 1001000 0))),(6,.c .i)],[.box true qS7],[]⟩
def yJn (f:qQy)(d:vAs.den):=f d.1.2.2.2.1.1 d.1.2.2.2.2.1.1 d.1.2.2.2.2.2.1.1 (kE d.2.1) d.2.2.1 d.2.2.2.2.1 d.2.2.2.2.2.1 d.2.2.2.2.2.2.1 d.2.2.2.2.2.2.2.1
def qSq:zU:=⟨[vAs],[(.exit 0,yRf),(.ret,yDo)],qJj,fun k d=>yJn (tj k k) d,fun b x _ K=>match x with|.inl x=>K (.exit 0) (zN b yRf (((),(),(),()),((vM x.1 ()),x.2.1,(),x.2.2.1,x.2.2.2.1,x.2.2.2.2.1,x.2.2.2.2.2,())))|.inr x=>K .ret (zN b yDo (((),(x.1,()),()),((vM x.2 ()),())))⟩
def yHb:zW:=⟨[],[(6,qSq)],[],true⟩
theorem aaE:zT prog 1000 1 81 (zQ (zS f141) 0) qSq:=lp (A:=yHb) qSq (fun d=>match d with|.inl d=>.inl ((kE d.2.1),d.2.2.1,d.2.2.2.2.1,d.2.2.2.2.2.1,d.2.2.2.2.2.2.1,d.2.2.2.2.2.2.2.1)|.inr d=>.inr (d.1.2.1.1,(kE d.2.1))) yJn tj E0 (e5 FZ gO F0 nQ xa) zG
def vKw:=yK 141 [.ptr true w7,.c (.p .i),.c (.p .i)] (.c .i) [wP] 0 (fun k d=>Nw k (kE d) d.2.2.2.2.2.2.2.2.2.2.2.2.2.2.2.2.2.2.1 d.2.2.2.2.2.2.2.2.2.2.2.2.2.2.2.2.2.2.2.1) (fun x=>(x.1,(wY x.2 ())))
theorem aaF:zD prog vKw:=fX (rs:=.c .i) (os:=[wP]) (ns:=0) f141 yHb 1 (fun d=>(d.1,(iV d))) (e5 FZ gO F0 nQ xa) (qB aaE)
def aaG:=yK 91 [.ptr true w7,.agg vE] (.c .i) [wP] 0 (fun k d=>Fv k (kE d) (FY d)) (fun x=>(x.1,(wY x.2 ())))
theorem vJa:zD prog aaG:=fX (rs:=.c .i) (os:=[wP]) (ns:=0) f91 n0 1 (fun d=>(d.1,(iV d))) (e6 vX9 aaB vK6 vTe aaD aaF) zG
def vP5:=zJ 52 [.agg FO,.agg w4,.agg A5] (.tup [(true,kC),(false,[.own qN]),(false,qF)]) (fun k d=>mg k (yG d) (rf d) (W3 d)) (fun x=>(wA x.1 (x.2.1,x.2.2,())))
theorem Kb:zD prog vP5:=fA (rs:=.tup [(true,kC),(false,[.own qN]),(false,qF)]) f52 n0 (fun d=>((qZ d),d.2.2.2.2.2.2.2.2.2.2.2.1,d.2.2.2.2.2.2.2.2.2.2.2.2.1)) (e9 vOl vSt yPj vVo aaz qHf w8 yQ3 vJa) zG
def vZv:=yK 61 [.chn [qRn,kD],.c (.p (.dat false (.int .u8)))] (.c .i) [F2,vR] 0 (fun k d=>wo k (Pk d) (Pl d) d.2.2.2.2.2.2.2.2.2.2.2.2.2.2.2.1) (fun x=>(x.1,(),(jR x.2.1 (gM x.2.2 ()))))
theorem Pm:zD prog vZv:=fX (rs:=.c .i) (os:=[F2,vR]) (ns:=0) f61 n0 0 (fun d=>(d.1,(qTn d),(qUk d))) (e1 yVq) zG
def vPq:=zJ 169 [.c .i] (.c .bool) (fun k d=>yOw k d.1) (fun x=>(x,()))
theorem yZu:zD prog vPq:=fA (rs:=.c .bool) f169 n0 (fun d=>d.1) (e1 gO) zG
def yTd:zE:=⟨[(0,.c (.dat false .i)),(1,.c (.lit (.fn 169 []))),(7,.c .i),(8,.c .i)],[],[]⟩
def yHa:zE:=⟨[],[],[]⟩
def ySy:zE:=⟨[(4,.c .i)],[],[]⟩
def yZs (f:qQx)(d:yTd.den):=f d.1.1.1 d.1.2.2.1.1 d.1.2.2.2.1.1
def qSn:zU:=⟨[yTd],[(.exit 0,yHa),(.ret,ySy)],(Unit⊕Int),fun k d=>yZs (Pn k k) d,fun b x _ K=>match x with|.inl x=>K (.exit 0) (zN b yHa ((),()))|.inr x=>K .ret (zN b ySy (((x,()),()),()))⟩
def yNy:zW:=⟨[],[(2,qSn)],[],false⟩
theorem aaH:zT prog 1000 0 19 (zQ (zS f220) 0) qSn:=lp (A:=yNy) qSn (fun d=>match d with|.inl d=>.inl ()|.inr d=>.inr d.1.1.1) yZs Pn yKz (e1 yZu) zG
def aaI:=zJ 220 [.c (.dat false .i),.c (.fn 169)] (.c .i) (fun k d=>yIp k d.1) (fun x=>(x,()))
theorem vKz:zD prog aaI:=fA (rs:=.c .i) f220 yNy (fun d=>d.1) (e1 yZu) (qB aaH)
def vX4:=zJ 168 [.c (.dat false .i),.c (.fn 169)] (.c .bool) (fun k d=>yAz k d.1) (fun x=>(x,()))
theorem yVj:zD prog vX4:=fA (rs:=.c .bool) f168 ⟨[],[],[],false⟩ (fun d=>d.1) (e1 vKz) zG
def vEs:=zJ 171 [.c .i] (.c .bool) (fun k d=>yL3 k d.1) (fun x=>(x,()))
theorem yOn:zD prog vEs:=fA (rs:=.c .bool) f171 n0 (fun d=>d.1) e0 zG
def yMb:zE:=⟨[(0,.c (.dat false .i)),(1,.c (.lit (.fn 171 []))),(7,.c .i),(8,.c .i)],[],[]⟩
def yUd:zE:=⟨[],[],[]⟩
def yUw:zE:=⟨[(4,.c .i)],[],[]⟩
def yJw (f:qIn)(d:yMb.den):=f d.1.1.1 d.1.2.2.1.1 d.1.2.2.2.1.1
def qT8:zU:=⟨[yMb],[(.exit 0,yUd),(.ret,yUw)],(Unit⊕Int),fun k d=>yJw (Po k k) d,fun b x _ K=>match x with|.inl x=>K (.exit 0) (zN b yUd ((),()))|.inr x=>K .ret (zN b yUw (((x,()),()),()))⟩
def yUm:zW:=⟨[],[(2,qT8)],[],false⟩
theorem vJw:zT prog 1000 0 19 (zQ (zS f220) 0) qT8:=lp (A:=yUm) qT8 (fun d=>match d with|.inl d=>.inl ()|.inr d=>.inr d.1.1.1) yJw Po yJm (e1 yOn) zG
def vSn:=zJ 220 [.c (.dat false .i),.c (.fn 171)] (.c .i) (fun k d=>yPd k d.1) (fun x=>(x,()))
theorem vF0:zD prog vSn:=fA (rs:=.c .i) f220 yUm (fun d=>d.1) (e1 yOn) (qB vJw)
def vQx:=zJ 168 [.c (.dat false .i),.c (.fn 171)] (.c .bool) (fun k d=>yGu k d.1) (fun x=>(x,()))
theorem yQt:zD prog vQx:=fA (rs:=.c .bool) f168 ⟨[],[],[],false⟩ (fun d=>d.1) (e1 vF0) zG
def yEk:zE:=⟨[(2,.c (.lit (.ptr 1001000 0))),(3,.c (.lit (.ptr 1001001 0))),(28,.c (.dat false (.sl .i))),(29,.c .i),(30,.c .i)],[.box true oZ,.box true Pp],[]⟩
def yP0:zE:=⟨[],[],[]⟩
def yYo:zE:=⟨[(4,.c .bool)],[],[]⟩
def yRc (f:qSw)(d:yEk.den):=f d.1.2.2.1.1 d.1.2.2.2.1.1 d.1.2.2.2.2.1.1 (yG d.2.1) (qZ d.2.2.1)
def qJs:zU:=⟨[yEk],[(.exit 0,yP0),(.ret,yYo)],(Unit⊕Bool),fun k d=>yRc (qV0 k k) d,fun b x _ K=>match x with|.inl x=>K (.exit 0) (zN b yP0 ((),()))|.inr x=>K .ret (zN b yYo (((x,()),()),()))⟩
def yMy:zW:=⟨[],[(6,qJs)],[],true⟩
theorem vD0:zT prog 1000 0 66 (zQ (zS f109) 0) qJs:=lp (A:=yMy) qJs (fun d=>match d with|.inl d=>.inl ()|.inr d=>.inr d.1.1.1) yRc qV0 yN6 (e3 yVj xa yQt) zG
def vKm:=zJ 109 [.agg iU,.agg rr] (.c .bool) (fun k d=>yJi k (yG d) (rf d)) (fun x=>(x,()))
theorem qZu:zD prog vKm:=fA (rs:=.c .bool) f109 yMy (fun d=>d.1) (e3 yVj xa yQt) (qB vD0)
def yTx:zE:=⟨[(0,.c (.dat false zH)),(1,.c (.lit (.fn 224 []))),(5,.c .i)],[],[]⟩
def yAq:zE:=⟨[],[],[]⟩
def yTq:zE:=⟨[(4,.c .bool)],[],[]⟩
def ySh (f:qJ3)(d:yTx.den):=f d.1.1.1 d.1.2.2.1.1
def qM0:zU:=⟨[yTx],[(.exit 0,yAq),(.ret,yTq)],(Unit⊕Bool),fun k d=>ySh (qW5 k k) d,fun b x _ K=>match x with|.inl x=>K (.exit 0) (zN b yAq ((),()))|.inr x=>K .ret (zN b yTq (((x,()),()),()))⟩
def vBx:zW:=⟨[],[(2,qM0)],[],true⟩
theorem aaJ:zT prog 1000 0 25 (zQ (zS f223) 0) qM0:=lp (A:=vBx) qM0 (fun d=>match d with|.inl d=>.inl ()|.inr d=>.inr d.1.1.1) ySh qW5 ySb (e1 FX) zG
def vOk:=zJ 223 [.c (.dat false zH),.c (.fn 224)] (.c .bool) (fun k d=>yXz k d.1) (fun x=>(x,()))
theorem yHz:zD prog vOk:=fA (rs:=.c .bool) f223 vBx (fun d=>d.1) (e1 FX) (qB aaJ)
def yMh:zE:=⟨[(0,.c (.dat false zH)),(5,.c (.dat false zH)),(6,.c .i),(7,.c .i)],[],[]⟩
def yTv:zE:=⟨[(0,.c (.dat false zH))],[],[]⟩
def vBf:zE:=⟨[(2,.c .bool)],[],[]⟩
def yCp (f:qR6)(d:yMh.den):=f d.1.1.1 d.1.2.1.1 d.1.2.2.1.1 d.1.2.2.2.1.1
def qXp:zU:=⟨[yMh],[(.exit 0,yTv),(.ret,vBf)],qRb,fun k d=>yCp (Pq k k) d,fun b x _ K=>match x with|.inl x=>K (.exit 0) (zN b yTv (((x,()),()),()))|.inr x=>K .ret (zN b vBf (((x,()),()),()))⟩
def yDg:zW:=⟨[],[(2,qXp)],[],false⟩
theorem vGd:zT prog 1000 0 26 (zQ (zS f175) 0) qXp:=lp (A:=yDg) qXp (fun d=>match d with|.inl d=>.inl d.1.1.1|.inr d=>.inr d.1.1.1) yCp Pq yKe (e2 w8 yHz) zG
def aaK:=zJ 175 [.c (.dat false zH)] (.c .bool) (fun k d=>yId k d.1) (fun x=>(x,()))
theorem vTv:zD prog aaK:=fA (rs:=.c .bool) f175 yDg (fun d=>d.1) (e2 w8 yHz) (qB vGd)
def yAl:zE:=⟨[(0,.c (.dat false .i)),(3,.c .i),(6,.c (.dat false .i)),(7,.c .i),(8,.c .i)],[],[]⟩
def yBw:zE:=⟨[(0,.c (.dat false .i))],[],[]⟩
def yH3:zE:=⟨[(2,.c .bool)],[],[]⟩
def yLr (f:qPo)(d:yAl.den):=f d.1.1.1 d.1.2.1.1 d.1.2.2.1.1 d.1.2.2.2.1.1 d.1.2.2.2.2.1.1
def qPa:zU:=⟨[yAl],[(.exit 0,yBw),(.ret,yH3)],(AC⊕Bool),fun k d=>yLr (qRp k k) d,fun b x _ K=>match x with|.inl x=>K (.exit 0) (zN b yBw (((x,()),()),()))|.inr x=>K .ret (zN b yH3 (((x,()),()),()))⟩
def yIk:zW:=⟨[],[(3,qPa)],[],true⟩
theorem vP6:zT prog 1000 0 20 (zQ (zS f176) 0) qPa:=lp (A:=yIk) qPa (fun d=>match d with|.inl d=>.inl d.1.1.1|.inr d=>.inr d.1.1.1) yLr qRp yHp e0 zG
def aaL:=zJ 176 [.c (.dat false .i)] (.c .bool) (fun k d=>yJa k d.1) (fun x=>(x,()))
theorem vQa:zD prog aaL:=fA (rs:=.c .bool) f176 yIk (fun d=>d.1) e0 (qB vP6)
def vRb:=zJ 174 [.c (.dat false .i),.c .i] (.c .bool) (fun k d=>yA4 k d.1 d.2.1) (fun x=>(x,()))
theorem vM2:zD prog vRb:=fA (rs:=.c .bool) f174 n0 (fun d=>d.1) (e1 yE1) zG
def vKs:=zJ 172 [.agg vE,.ptr rr] (.c .bool) (fun k d=>yN1 k (vJ d) (vW3 d)) (fun x=>(x,()))
theorem yHw:zD prog vKs:=fA (rs:=.c .bool) f172 n0 (fun d=>d.1) (e3 qWh gO vM2) zG
def yLk:zE:=⟨[(0,.c (.dat false zH)),(1,.c (.lit (.fn 172 [1001000]))),(7,.c .i),(8,.c .i)],[.robox Pp],[]⟩
def vCv:zE:=⟨[],[],[]⟩
def yEx:zE:=⟨[(4,.c .i)],[],[]⟩
def yIo (f:qWv)(d:yLk.den):=(rA (f d.1.1.1 d.1.2.2.1.1 d.1.2.2.2.1.1) d.2.1)
def qY6:zU:=⟨[yLk],[(.exit 0,vCv),(.ret,yEx)],(Unit⊕Int),fun k d=>yIo (Pr k k) d,fun b x _ K=>match x with|.inl x=>K (.exit 0) (zN b vCv ((),()))|.inr x=>K .ret (zN b yEx (((x,()),()),()))⟩
def yA3:zW:=⟨[],[(2,qY6)],[],false⟩
theorem aaM:zT prog 1000 0 19 (zQ (zS f148) 0) qY6:=lp (A:=yA3) qY6 (fun d=>match d with|.inl d=>.inl ()|.inr d=>.inr d.1.1.1) yIo Pr yDk (e1 yHw) zG
def vUf:=zJ 148 [.c (.dat false zH),.fn 172 [rr]] (.c .i) (fun k d=>(Ka (yFo k) d)) (fun x=>(x,()))
theorem vQb:zD prog vUf:=fA (rs:=.c .i) f148 yA3 (fun d=>d.1) (e1 yHw) (qB aaM)
def vFh:=zJ 177 [.c (.dat false zH),.fn 172 [rr]] (.c .bool) (fun k d=>(Ka (yD8 k) d)) (fun x=>(x,()))
theorem vUw:zD prog vFh:=fA (rs:=.c .bool) f177 ⟨[],[],[],false⟩ (fun d=>d.1) (e1 vQb) zG
def aaN:=zJ 110 [.agg rr] (.c .bool) (fun k d=>vBd k (qZ d)) (fun x=>(x,()))
theorem yIm:zD prog aaN:=fA (rs:=.c .bool) f110 n0 (fun d=>d.1) (e3 vTv vQa vUw) zG
def yFv:zE:=⟨[(2,.c (.lit (.ptr 1001000 0))),(3,.c (.lit (.ptr 1001001 0))),(5,.c (.lit (.osl 1001002 none))),(44,.c (.dat false qY)),(45,.c .i),(46,.c .i)],[.box true oZ,.box true Pp,.arr true .i],[(5,none,.i,false)]⟩
def qZs:zE:=⟨[(2,.c (.lit (.ptr 1001000 0))),(3,.c (.lit (.ptr 1001001 0))),(5,.c (.lit (.osl 1001002 none)))],[.box true oZ,.box true Pp,.arr true .i],[]⟩
def yGb (f:qP0)(d:yFv.den):=f d.1.2.2.2.1.1 d.1.2.2.2.2.1.1 d.1.2.2.2.2.2.1.1 (yG d.2.1) (qZ d.2.2.1) d.2.2.2.1
def qXb:zU:=⟨[yFv],[(.exit 0,qZs)],qK4,fun k d=>yGb (qPe k k) d,fun b x _ K=>K (.exit 0) (zN b qZs (((),(),(),()),((wS x.1 ()),(wA x.2.1 ()),x.2.2,())))⟩
def vAu:zW:=⟨[],[(5,qXb)],[],true⟩
theorem aaO:zT prog 1000 0 92 (zQ (zS f59) 0) qXb:=lp (A:=vAu) qXb (fun d=>((yG d.2.1),(qZ d.2.2.1),d.2.2.2.1)) yGb qPe yAb (e6 gO O9 qZu yIm O2 O4) zG
def vEu:=zJ 59 [.agg iU,.agg rr] (.c .bool) (fun k d=>Ps k (yG d) (rf d)) (fun x=>(x,()))
theorem Pt:zD prog vEu:=fA (rs:=.c .bool) f59 vAu (fun d=>d.1) (e6 gO O9 qZu yIm O2 O4) (qB aaO)
def yTg:zE:=⟨[(1,.c (.lit (.ptr 1001000 0))),(2,.c .i),(3,.c (.lit (.ptr 1001003 0))),(12,.c .bool),(13,.c (.lit (.ptr 1001004 0))),(17,.c (.lit (.ptr 1001005 0))),(72,.c (.dat true (.sl (.int .u8)))),(73,.c .i),(74,.c .i)],[.box true yVy,.arr true (.int .u8),.arr true (.int .u8),.box true xe,.box true [.lit (.ptr 1001000 0),.i,.i,.i,.bool],.box true fY],[(17,some 1,.bool,true),(17,some 2,.bool,true),(17,some 3,.bool,true),(17,some 4,.bool,true),(17,some 5,.bool,true),(17,some 6,.bool,true),(17,some 7,.bool,true),(17,some 8,.bool,true)]⟩
def yNq:zE:=⟨[(1,.c (.lit (.ptr 1001000 0))),(2,.c .i),(3,.c (.lit (.ptr 1001003 0))),(12,.c .bool),(13,.c (.lit (.ptr 1001004 0))),(17,.c (.lit (.ptr 1001005 0)))],[.box true yVy,.arr true (.int .u8),.arr true (.int .u8),.box true xe,.box true [.lit (.ptr 1001000 0),.i,.i,.i,.bool],.box true fY],[]⟩
def yHu (f:qIb)(d:yTg.den):=f d.1.2.1.1 d.1.2.2.2.1.1 d.1.2.2.2.2.2.2.1.1 d.1.2.2.2.2.2.2.2.1.1 d.1.2.2.2.2.2.2.2.2.1.1 (lx d.2.1) d.2.2.1 d.2.2.2.1 (yG d.2.2.2.2.1) (wM d.2.2.2.2.2.1) (qZ d.2.2.2.2.2.2.1)
def qQf:zU:=⟨[yTg],[(.exit 0,yNq)],qTw,fun k d=>yHu (Kc k k) d,fun b x _ K=>K (.exit 0) (zN b yNq (((),(x.1,()),(),(x.2.1,()),(),(),()),((A6 x.2.2.1 ()),x.2.2.2.1,x.2.2.2.2.1,(wS x.2.2.2.2.2.1 ()),(jR x.2.2.2.2.2.2.1 ()),(wA x.2.2.2.2.2.2.2 ()),())))⟩
def yS7:zW:=⟨[],[(11,qQf)],[],true⟩
theorem vFu:zT prog 1000 2 112 (zQ (zS f27) 0) qQf:=lp (A:=yS7) qQf (fun d=>(d.1.2.1.1,d.1.2.2.2.1.1,(lx d.2.1),d.2.2.1,d.2.2.2.1,(yG d.2.2.2.2.1),(wM d.2.2.2.2.2.1),(qZ d.2.2.2.2.2.2.1))) yHu Kc yTb (Ov Ow X3 OD tI yLg OP OR Kb Pm Pt) zG
def vSr:=LH 27 [.agg FO,.ptr true kD,.c (.p .i)] (.tup [(false,[.link 1]),(false,qF)]) [vR,yGn,OI] 2 (.tup [(false,[.nilp]),(false,qF)]) [vR] 0 (fun k d=>rj k (yG d) (Pl d) d.2.2.2.2.2.2.2.2.2.2.2.2.2.2.2.1) (fun x=>((),x.1,(gM x.2.1 ((),(wY x.2.2.1 ((),(jR x.2.2.2 ()))))))) (fun x=>((),x.1,(gM x.2 ())))
theorem qZ1:zD prog vSr:=fN (rs:=.tup [(false,[.link 1]),(false,qF)]) (os:=[vR,yGn,OI]) (ns:=2) (rs2:=.tup [(false,[.nilp]),(false,qF)]) (os2:=[vR]) (ns2:=0) f27 yS7 2 (fun d=>(d.2.1,(vAg d),(vGp d),(vGe d))) (fun d=>(d.2.1,(vAg d))) (Ov Ow X3 OD tI yLg OP OR Kb Pm Pt) (qB vFu)
def vNj:=yK 31 [.chn [Pu,Pv,kD]] (.c .bool) [xf,xg,vR] 0 (fun k d=>AV k (iV d) (Pw d) (Px d)) (fun x=>(x.1,(),(wY x.2.1 ((),(jR x.2.2.1 (gM x.2.2.2 ()))))))
theorem qN9:zD prog vNj:=fX (rs:=.c .bool) (os:=[xf,xg,vR]) (ns:=0) f31 n0 0 (fun d=>(d.1,(qMq d),(qT5 d),(qKf d))) e0 zG
def vWq:=zJ 62 [.c .i,.c .i] (.c (.own qN)) (fun k d=>Ke k d.1 d.2.1) (fun x=>(x,()))
theorem yCj:zD prog vWq:=fA (rs:=.c (.own qN)) f62 n0 (fun d=>d.1) e0 zG
def vPf:=zJ 114 [.agg vE] (.c (.own (.int .u8))) (fun k d=>V6 k (vJ d)) (fun x=>(x,()))
theorem vTr:zD prog vPf:=fA (rs:=.c (.own (.int .u8))) f114 ⟨[1],[],[],true⟩ (fun d=>d.1) (e3 yP4 OQ OE) zG
def vI6:=zJ 64 [.agg A5] (.c (.own (.int .u8))) (fun k d=>N9 k (lx d)) (fun x=>(x,()))
theorem vVh:zD prog vI6:=fA (rs:=.c (.own (.int .u8))) f64 n0 (fun d=>d.1) (e2 vTr OE) zG
def vXc:=yK 113 [.chn [qRn,kD],.c (.p (.dat false (.int .u8)))] (.c .i) [F2,vR] 0 (fun k d=>AT k (Pk d) (Pl d) d.2.2.2.2.2.2.2.2.2.2.2.2.2.2.2.1) (fun x=>(x.1,(),(jR x.2.1 (gM x.2.2 ()))))
theorem vPv:zD prog vXc:=fX (rs:=.c .i) (os:=[F2,vR]) (ns:=0) f113 n0 0 (fun d=>(d.1,(qTn d),(qUk d))) (e3 yOr yTj yF4) zG
def vJ6:=yK 63 [.chn [Pu,Pv,kD],.c (.p (.dat false (.int .u8)))] (.c .i) [xf,xg,vR] 0 (fun k d=>Oa k (iV d) (Pw d) (Px d) d.2.2.2.2.2.2.2.2.2.2.2.2.2.2.2.2.2.2.2.2.2.2.2.2.2.2.2.2.2.2.2.2.2.2.1) (fun x=>(x.1,(),(wY x.2.1 ((),(jR x.2.2.1 (gM x.2.2.2 ()))))))
theorem vO7:zD prog vJ6:=fX (rs:=.c .i) (os:=[xf,xg,vR]) (ns:=0) f63 n0 0 (fun d=>(d.1,(qMq d),(qT5 d),(qKf d))) (e3 vPv tI Pm) zG
def vWg:=yK 65 [.chn [qRn,kD]] (.c .i) [F2,vR] 0 (fun k d=>Ob k (Pk d) (Pl d)) (fun x=>(x.1,(),(jR x.2.1 (gM x.2.2 ()))))
theorem vJm:zD prog vWg:=fX (rs:=.c .i) (os:=[F2,vR]) (ns:=0) f65 n0 0 (fun d=>(d.1,(qTn d),(qUk d))) e0 zG
def vNq:=yK 28 [.chn [Pu,Pv,kD],.c (.p .i),.c (.p (.dat false (.int .u8)))] (.c (.own qN)) [xf,xg,vR] 0 (fun k d=>JM k (iV d) (Pw d) (Px d) d.2.2.2.2.2.2.2.2.2.2.2.2.2.2.2.2.2.2.2.2.2.2.2.2.2.2.2.2.2.2.2.2.2.2.1 d.2.2.2.2.2.2.2.2.2.2.2.2.2.2.2.2.2.2.2.2.2.2.2.2.2.2.2.2.2.2.2.2.2.2.2.1) (fun x=>(x.1,(),(wY x.2.1 ((),(jR x.2.2.1 (gM x.2.2.2 ()))))))
theorem yC3:zD prog vNq:=fX (rs:=.c (.own qN)) (os:=[xf,xg,vR]) (ns:=0) f28 n0 0 (fun d=>(d.1,(qMq d),(qT5 d),(qKf d))) (e9 qN9 J3 yCj Kb vVh vO7 vJm tI Pm) zG
def aaP:=zJ 69 [.agg A5] (.c .bool) (fun k d=>Oc k (lx d)) (fun x=>(x,()))
theorem yMl:zD prog aaP:=fA (rs:=.c .bool) f69 n0 (fun d=>d.1) e0 zG
def yYi:zE:=⟨[(0,.c (.dat false qN)),(1,.c (.lit (.fn 69 []))),(7,.c .i),(8,.c .i)],[],[]⟩
def yG6:zE:=⟨[],[],[]⟩
def yAh:zE:=⟨[(4,.c .i)],[],[]⟩
def yLp (f:qXf)(d:yYi.den):=f d.1.1.1 d.1.2.2.1.1 d.1.2.2.2.1.1
def qKm:zU:=⟨[yYi],[(.exit 0,yG6),(.ret,yAh)],(Unit⊕Int),fun k d=>yLp (JN k k) d,fun b x _ K=>match x with|.inl x=>K (.exit 0) (zN b yG6 ((),()))|.inr x=>K .ret (zN b yAh (((x,()),()),()))⟩
def yQv:zW:=⟨[],[(2,qKm)],[],true⟩
theorem vPm:zT prog 1000 0 19 (zQ (zS f116) 0) qKm:=lp (A:=yQv) qKm (fun d=>match d with|.inl d=>.inl ()|.inr d=>.inr d.1.1.1) yLp JN wq (e1 yMl) zG
def vGa:=zJ 116 [.c (.dat false qN),.c (.fn 69)] (.c .i) (fun k d=>Wc k d.1) (fun x=>(x,()))
theorem vWe:zD prog vGa:=fA (rs:=.c .i) f116 yQv (fun d=>d.1) (e1 yMl) (qB vPm)
def vLo:=zJ 68 [.c (.dat false qN),.c (.fn 69)] (.c .bool) (fun k d=>Wb k d.1) (fun x=>(x,()))
theorem vXr:zD prog vLo:=fA (rs:=.c .bool) f68 n0 (fun d=>d.1) (e1 vWe) zG
def vDk:=zJ 30 [.c (.dat false qN)] (.c .bool) (fun k d=>FJ k d.1) (fun x=>(x,()))
theorem yVf:zD prog vDk:=fA (rs:=.c .bool) f30 n0 (fun d=>d.1) (e1 vXr) zG
def vKt:=yK 32 [.ptr true kD,.agg [.i,.i]] (.tup []) [vR] 0 (fun k d=>qHt k (fa d) (d.2.2.2.2.2.2.2.2.2.2.1,d.2.2.2.2.2.2.2.2.2.2.2.1)) (fun x=>(gM x ()))
theorem yDu:zD prog vKt:=fX (rs:=.tup []) (os:=[vR]) (ns:=0) f32 n0 1 (fun d=>(fa d)) e0 zG
def vX0:=yK 33 [.ptr true kD] (.tup []) [vR] 0 (fun k d=>qJ8 k (fa d)) (fun x=>(gM x ()))
theorem yY6:zD prog vX0:=fX (rs:=.tup []) (os:=[vR]) (ns:=0) f33 ⟨[],[],[(2,3)],true⟩ 1 (fun d=>(fa d)) e0 (Cc (n:=1) (by kernel_rfl) fun i hi=>match i,hi with|0,_=>.inr ⟨by kernel_rfl,zG⟩|i+1,hi=>absurd hi (by omega))
def vJd:=zJ 31 [.c (.nilp)] (.c .bool) (fun k d=>Kf k) (fun x=>(x,()))
theorem qO3:zD prog vJd:=fA (rs:=.c .bool) f31 n0 (fun d=>d.1) e0 zG
def vV5:=zJ 28 [.c (.nilp),.c .i,.c (.dat false (.int .u8))] (.c (.own qN)) (fun k d=>yXh k d.2.1 d.2.2.1) (fun x=>(x,()))
theorem yOj:zD prog vV5:=fA (rs:=.c (.own qN)) f28 n0 (fun d=>d.1) (e3 qO3 J3 yCj) zG
def vUc:=zJ 34 [.c (.nilp)] (.agg FR) (fun k d=>qP7 k) (fun x=>(wA x ()))
theorem yB9:zD prog vUc:=fA (rs:=.agg FR) f34 n0 (fun d=>(qZ d)) e0 zG
def vO6:=yK 34 [.chn [Pu,Pv,kD]] (.agg kC) [xf,xg,vR] 0 (fun k d=>qNp k (iV d) (Pw d) (Px d)) (fun x=>(wA x.1 ((),(wY x.2.1 ((),(jR x.2.2.1 (gM x.2.2.2 ())))))))
theorem yCu:zD prog vO6:=fX (rs:=.agg kC) (os:=[xf,xg,vR]) (ns:=0) f34 n0 0 (fun d=>((qZ d),(vLy d),(vUd d),(vY6 d))) e0 zG
def vJe:=zJ 152 [.c (.nilp),.c .i] (.c (.own (.int .u8))) (fun k d=>yA9 k d.2.1) (fun x=>(x,()))
theorem vVj:zD prog vJe:=fA (rs:=.c (.own (.int .u8))) f152 n0 (fun d=>d.1) e0 zG
def vY5:=zJ 99 [.c (.nilp),.c .i] (.tup [(false,qF),(false,nP),(false,rz)]) (fun k d=>Py k d.2.1) (fun x=>(x.1,x.2.1,x.2.2,()))
theorem vIs:zD prog vY5:=fA (rs:=.tup [(false,qF),(false,nP),(false,rz)]) f99 n0 (fun d=>(d.1,d.2.1,d.2.2.1)) (e3 vVj yFy J0) zG
def aaQ:=zJ 55 [.c (.nilp)] (.tup [(false,qF),(false,qF),(false,nP),(false,rz),(false,[.bool])]) (fun k d=>yR7 k) (fun x=>(wS x ()))
theorem yUq:zD prog aaQ:=fA (rs:=.tup [(false,qF),(false,qF),(false,nP),(false,rz),(false,[.bool])]) f55 ⟨[],[],[(2,3)],true⟩ (fun d=>(d.1,d.2.1,d.2.2.1,d.2.2.2.1,d.2.2.2.2.1)) (e1 vIs) (Cc (n:=1) (by kernel_rfl) fun i hi=>match i,hi with|0,_=>.inr ⟨by kernel_rfl,zG⟩|i+1,hi=>absurd hi (by omega))
def vLa:=yK 56 [.c (.p (.nilp)),.c (.p (.dat false (.int .u8)))] (.tup [(false,[.nilp]),(false,[.own (.int .u8)]),(false,[.own (.sl (.int .u8))]),(false,qF)]) [] 0 (fun k d=>vB4 k d.2.1) (fun x=>((),x.1,x.2.1,x.2.2,()))
theorem yZe:zD prog vLa:=fX (rs:=.tup [(false,[.nilp]),(false,[.own (.int .u8)]),(false,[.own (.sl (.int .u8))]),(false,qF)]) (os:=[]) (ns:=0) f56 n0 0 (fun d=>(d.2.1,d.2.2.1,d.2.2.2.1)) e0 zG
def aaR:=zJ 61 [.c (.nilp),.c (.dat false (.int .u8))] (.c .i) (fun k d=>Pz k d.2.1) (fun x=>(x,()))
theorem yHc:zD prog aaR:=fA (rs:=.c .i) f61 n0 (fun d=>d.1) e0 zG
def yLc:zE:=⟨[(2,.c .i),(3,.c (.lit (.ptr 1001000 0))),(12,.c .bool),(13,.c (.lit .nilp)),(17,.c (.lit (.ptr 1001001 0))),(72,.c (.lit (.osl 1001002 none))),(73,.c .i),(74,.c .i)],[.box true xe,.box true fY,.arr true (.sl (.int .u8))],[(17,some 1,.bool,true),(17,some 2,.bool,true),(17,some 3,.bool,true),(17,some 4,.bool,true),(17,some 5,.bool,true),(17,some 6,.bool,true),(17,some 7,.bool,true),(17,some 8,.bool,true)]⟩
def yYj:zE:=⟨[(2,.c .i),(3,.c (.lit (.ptr 1001000 0))),(12,.c .bool),(13,.c (.lit .nilp)),(17,.c (.lit (.ptr 1001001 0)))],[.box true xe,.box true fY],[]⟩
def yF5 (f:qHe)(d:yLc.den):=f d.1.1.1 d.1.2.2.1.1 d.1.2.2.2.2.2.2.1.1 d.1.2.2.2.2.2.2.2.1.1 (yG d.2.1) (qZ d.2.2.1) d.2.2.2.1
def qO4:zU:=⟨[yLc],[(.exit 0,yYj)],qV9,fun k d=>yF5 (Kg k k) d,fun b x _ K=>K (.exit 0) (zN b yYj (((x.1,()),(),(x.2.1,()),(),(),()),((wS x.2.2.1 ()),(wA x.2.2.2 ()),())))⟩
def yV7:zW:=⟨[],[(11,qO4)],[],true⟩
theorem aaS:zT prog 1000 0 112 (zQ (zS f27) 0) qO4:=lp (A:=yV7) qO4 (fun d=>(d.1.1.1,d.1.2.2.1.1,(yG d.2.1),(qZ d.2.2.1))) yF5 Kg yCs (Ov Ow yUq OD tI yZe OP OR Kb yHc Pt) zG
def vPz:=yK 27 [.agg FO,.c (.p (.nilp)),.c (.p .i)] (.tup [(false,[.nilp]),(false,qF)]) [] 0 (fun k d=>yWu k (yG d) d.2.2.2.2.2.2.1) (fun x=>((),x,()))
theorem yUo:zD prog vPz:=fX (rs:=.tup [(false,[.nilp]),(false,qF)]) (os:=[]) (ns:=0) f27 yV7 0 (fun d=>d.2.1) (Ov Ow yUq OD tI yZe OP OR Kb yHc Pt) (qB aaS)
def ySu:zE:=⟨[(2,.c .i),(4,.c (.lit (.ptr 1001000 0))),(8,.c (.lit (.ptr 1001001 0))),(9,.c (.lit (.ptr 1001002 0))),(10,.c (.lit (.ptr 1001005 0))),(12,.c (.lit (.ptr 1001007 0))),(30,.c (.dat false nO)),(31,.c .i),(32,.c .i)],[.box true xe,.box true PA,.box true yLh,.arr true (.int .u8),.arr true (.int .u8),.box true [.lit (.ptr 1001006 0),.i,.dat true wE,.i,.i,.i,.i,.dat true qY,.dat true (.sl .i),.dat true .i,.dat true (.sl .i),.dat true .i,.dat true (.sl .i),.dat true zH,.dat true .i,.i,.bool,.i,.bool],.box true [.lit (.ptr 1001002 0),.i,.i,.i,.bool],.box true [.lit (.osl 1001008 none),.lit (.osl 1001009 none),.i,.lit .nsl,.lit .nsl,.lit .nsl,.lit .nsl,.lit .nsl,.lit .nsl,.lit .nsl,.lit .nsl,.i,.bool,.bool],.arr true (.sl qN),.arr true qN],[(12,some 0,(.sl qN),false),(12,some 1,qN,false)]⟩
def yBl:zE:=⟨[(2,.c .i),(4,.c (.lit (.ptr 1001000 0))),(8,.c (.lit (.ptr 1001001 0))),(9,.c (.lit (.ptr 1001002 0))),(10,.c (.lit .nilp)),(12,.c (.lit (.ptr 1001005 0))),(30,.c (.dat false nO)),(31,.c .i),(32,.c .i)],[.box true xe,.box true PA,.box true yLh,.arr true (.int .u8),.arr true (.int .u8),.box true [.lit (.osl 1001006 none),.lit (.osl 1001007 none),.i,.lit .nsl,.lit .nsl,.lit .nsl,.lit .nsl,.lit .nsl,.lit .nsl,.lit .nsl,.lit .nsl,.i,.bool,.bool],.arr true (.sl qN),.arr true qN],[(12,some 0,(.sl qN),false),(12,some 1,qN,false)]⟩
def yD1:zE:=⟨[(8,.c (.lit (.ptr 1001000 0))),(10,.c (.lit .nilp)),(12,.c (.lit (.ptr 1001001 0)))],[.box true PA,.box true [.lit (.osl 1001002 none),.lit (.osl 1001003 none),.i,.lit .nsl,.lit .nsl,.lit .nsl,.lit .nsl,.lit .nsl,.lit .nsl,.lit .nsl,.lit .nsl,.i,.bool,.bool],.arr true (.sl qN),.arr true qN],[]⟩
def yUt:zE:=⟨[(8,.c (.lit (.ptr 1001000 0))),(10,.c (.lit (.ptr 1001001 0))),(12,.c (.lit (.ptr 1001006 0)))],[.box true PA,.box true [.lit (.ptr 1001002 0),.i,.dat true wE,.i,.i,.i,.i,.dat true qY,.dat true (.sl .i),.dat true .i,.dat true (.sl .i),.dat true .i,.dat true (.sl .i),.dat true zH,.dat true .i,.i,.bool,.i,.bool],.box true [.lit (.ptr 1001003 0),.i,.i,.i,.bool],.box true [.i,.lit (.osl 1001004 none),.i,.lit (.osl 1001005 none),.i,.i,.i,.bool,.bool,.i],.arr true (.int .u8),.arr true (.int .u8),.box true [.lit (.osl 1001007 none),.lit (.osl 1001008 none),.i,.lit .nsl,.lit .nsl,.lit .nsl,.lit .nsl,.lit .nsl,.lit .nsl,.lit .nsl,.lit .nsl,.i,.bool,.bool],.arr true (.sl qN),.arr true qN],[]⟩
def yX2 (f:JG)(d:pB [ySu,yBl]):Option PB:=match d with|.inl d=>f (.inl (d.1.1.1,d.1.2.2.2.2.2.2.1.1,d.1.2.2.2.2.2.2.2.1.1,d.1.2.2.2.2.2.2.2.2.1.1,(yG d.2.1),(wM d.2.2.1),(lx d.2.2.2.1),d.2.2.2.2.1,d.2.2.2.2.2.1,(jQ d.2.2.2.2.2.2.1),(wM d.2.2.2.2.2.2.2.1),(wM d.2.2.2.2.2.2.2.2.1),d.2.2.2.2.2.2.2.2.2.1,d.2.2.2.2.2.2.2.2.2.2.1))|.inr d=>f (.inr (d.1.1.1,d.1.2.2.2.2.2.2.1.1,d.1.2.2.2.2.2.2.2.1.1,d.1.2.2.2.2.2.2.2.2.1.1,(yG d.2.1),(wM d.2.2.1),(lx d.2.2.2.1),d.2.2.2.2.1,d.2.2.2.2.2.1,(wM d.2.2.2.2.2.2.1),d.2.2.2.2.2.2.2.1,d.2.2.2.2.2.2.2.2.1))
def qQe:zU:=⟨[ySu,yBl],[(.exit 0,yD1),(.exit 0,yUt)],PB,fun k d=>yX2 (AW k k) d,fun b x _ K=>match x with|.inl x=>K (.exit 0) (zN b yD1 (((),(),(),()),((jR x.1 ()),(jR x.2.1 ()),x.2.2.1,x.2.2.2,())))|.inr x=>K (.exit 0) (zN b yUt (((),(),(),()),((jR x.1 ()),(wY x.2.1 ()),(jR x.2.2.1 ()),(A6 x.2.2.2.1 ()),x.2.2.2.2.1,x.2.2.2.2.2.1,(jR x.2.2.2.2.2.2.1 ()),x.2.2.2.2.2.2.2.1,x.2.2.2.2.2.2.2.2,())))⟩
def yCr:zW:=⟨[],[(7,qQe)],[],true⟩
theorem aaT:zT prog 1000 0 110 (zQ (zS f9) 0) qQe:=lp (A:=yCr) qQe (fun d=>match d with|.inl d=>.inl ((wM d.2.1),(wM d.2.2.1),d.2.2.2.1,d.2.2.2.2.1)|.inr d=>.inr ((wM d.2.1),(jQ d.2.2.1),(wM d.2.2.2.1),(lx d.2.2.2.2.1),d.2.2.2.2.2.1,d.2.2.2.2.2.2.1,(wM d.2.2.2.2.2.2.2.1),d.2.2.2.2.2.2.2.2.1,d.2.2.2.2.2.2.2.2.2.1)) yX2 AW AM (e13 F2q qZ1 yC3 J3 yVf qN9 yDu yY6 yOj qO3 yB9 yCu yUo) zG (hs:=by intro k rec d;rcases d with d|d<;>kernel_rfl) (h0:=by intro k d;rcases d with d|d<;>rfl)
def qMy:=zJ 9 [.agg FO,.c .i,.c .i,.c (.dat false nO)] (.agg vB9) (fun k d=>FL k (yG d) d.2.2.2.2.2.1 d.2.2.2.2.2.2.1 d.2.2.2.2.2.2.2.1) (fun x=>(Pc x ()))
theorem yEr:zD prog qMy:=fA (rs:=.agg vB9) f9 yCr (fun d=>(qX2 d)) (e13 F2q qZ1 yC3 J3 yVf qN9 yDu yY6 yOj qO3 yB9 yCu yUo) (qB aaT)
def yZt:zE:=⟨[(0,.c .i),(1,.c .i),(5,.c (.lit (.osl 1001000 none))),(6,.c .i)],[.arr true .i],[]⟩
def yLl:zE:=⟨[(5,.c (.lit (.osl 1001000 none)))],[.arr true .i],[]⟩
def yZ3 (f:qVl)(d:yZt.den):=f d.1.1.1 d.1.2.1.1 d.1.2.2.2.1.1 d.2.1
def qN5:zU:=⟨[yZt],[(.exit 0,yLl)],AC,fun k d=>yZ3 (PD k k) d,fun b x _ K=>K (.exit 0) (zN b yLl (((),()),(x,())))⟩
def yRk:zW:=⟨[],[(5,qN5)],[],false⟩
theorem aaU:zT prog 1000 0 25 (zQ (zS f36) 0) qN5:=lp (A:=yRk) qN5 (fun d=>d.2.1) yZ3 PD yJ8 e0 zG
def vVf:=zJ 36 [.c .i,.c .i] (.c (.own .i)) (fun k d=>qWa k d.1 d.2.1) (fun x=>(x,()))
theorem Kh:zD prog vVf:=fA (rs:=.c (.own .i)) f36 yRk (fun d=>d.1) e0 (qB aaU)
def yYe:zE:=⟨[(0,.c .i),(1,.c .i),(5,.c (.lit (.osl 1001000 none))),(6,.c .i)],[.mat],[(5,none,(.sl .i),true)]⟩
def yY7:zE:=⟨[(5,.c (.lit (.osl 1001000 none)))],[.mat],[]⟩
def yXf (f:qIa)(d:yYe.den):=f d.1.1.1 d.1.2.1.1 d.1.2.2.2.1.1 d.2.1
def qW0:zU:=⟨[yYe],[(.exit 0,yY7)],EQ,fun k d=>yXf (PE k k) d,fun b x _ K=>K (.exit 0) (zN b yY7 (((),()),(x,())))⟩
def yM1:zW:=⟨[22,23],[(5,qW0)],[],false⟩
theorem vMd:zT prog 1000 0 25 (zQ (zS f35) 0) qW0:=lp (A:=yM1) qW0 (fun d=>d.2.1) yXf PE yM9 (e1 Kh) zG
def vE0:=zJ 35 [.c .i,.c .i] (.c (.mat)) (fun k d=>qIt k d.1 d.2.1) (fun x=>(x,()))
theorem qQa:zD prog vE0:=fA (rs:=.c (.mat)) f35 yM1 (fun d=>d.1) (e1 Kh) (qB vMd)
def yAc:zE:=⟨[(1,.c (.lit (.ptr 1001000 0))),(2,.c (.lit (.ptr 1001001 0))),(3,.c .i),(4,.c (.lit (.ptr 1001002 0))),(5,.c .i)],[.box true oZ,.box true fb,.box true OA,.arr true qY,.mat,.arr true .i,.mat,.arr true .i],[(4,some 5,.i,false)]⟩
def yF1:zE:=⟨[(1,.c (.lit (.ptr 1001000 0))),(2,.c (.lit (.ptr 1001001 0))),(3,.c .i),(4,.c (.lit (.ptr 1001002 0)))],[.box true oZ,.box true fb,.box true OA,.arr true qY,.mat,.arr true .i,.mat,.arr true .i],[]⟩
def yNj (f:qO6)(d:yAc.den):=f d.1.2.2.1.1 d.1.2.2.2.2.1.1 (yG d.2.1) (d.2.2.1.1,d.2.2.1.2.1,d.2.2.1.2.2.1) (d.2.2.2.1.1,d.2.2.2.1.2.1,d.2.2.2.1.2.2.1) d.2.2.2.2.1 d.2.2.2.2.2.1 d.2.2.2.2.2.2.1 d.2.2.2.2.2.2.2.1 d.2.2.2.2.2.2.2.2.1
def PF:zU:=⟨[yAc],[(.exit 0,yF1)],qRt,fun k d=>yNj (qRc k k) d,fun b x _ K=>K (.exit 0) (zN b yF1 (((),(),(x.1,()),(),()),((wS x.2.1 ()),(x.2.2.1.1,x.2.2.1.2.1,x.2.2.1.2.2,()),(x.2.2.2.1.1,x.2.2.2.1.2.1,x.2.2.2.1.2.2,()),x.2.2.2.2.1,x.2.2.2.2.2.1,x.2.2.2.2.2.2.1,x.2.2.2.2.2.2.2.1,x.2.2.2.2.2.2.2.2,())))⟩
def yX6:zE:=⟨[(1,.c (.lit (.ptr 1001000 0))),(2,.c (.lit (.ptr 1001001 0))),(3,.c .i),(4,.c (.lit (.ptr 1001002 0))),(6,.c .i)],[.box true oZ,.box true fb,.box true yJg,.arr true qY,.mat,.arr true .i,.mat,.arr true .i,.mat],[(4,some 6,(.sl .i),true)]⟩
def yCk:zE:=⟨[(2,.c (.lit (.ptr 1001000 0))),(4,.c (.lit (.ptr 1001001 0)))],[.box true fb,.box true yLb,.arr true qY,.mat,.arr true .i,.mat,.arr true .i,.mat],[]⟩
def yCe (f:qKq)(d:yX6.den):=f d.1.2.2.1.1 d.1.2.2.2.2.1.1 (yG d.2.1) (d.2.2.1.1,d.2.2.1.2.1,d.2.2.1.2.2.1) (d.2.2.2.1.1,d.2.2.2.1.2.1,d.2.2.2.1.2.2.1) d.2.2.2.2.1 d.2.2.2.2.2.1 d.2.2.2.2.2.2.1 d.2.2.2.2.2.2.2.1 d.2.2.2.2.2.2.2.2.1 d.2.2.2.2.2.2.2.2.2.1
def PG:zU:=⟨[yX6],[(.exit 2,yCk)],qY3,fun k d=>yCe (qWf k k) d,fun b x _ K=>K (.exit 2) (zN b yCk (((),(),()),((x.1.1,x.1.2.1,x.1.2.2,()),(x.2.1.1,x.2.1.2.1,x.2.1.2.2,()),x.2.2.1,x.2.2.2.1,x.2.2.2.2.1,x.2.2.2.2.2.1,x.2.2.2.2.2.2.1,x.2.2.2.2.2.2.2,())))⟩
def qUf:zW:=⟨[48,49],[(4,PF),(8,PG)],[],true⟩
theorem vRt:zT prog 1000 0 52 (zQ (zS f10) 0) PF:=lp (A:=qUf) PF (fun d=>(d.1.2.2.1.1,(yG d.2.1),(d.2.2.1.1,d.2.2.1.2.1,d.2.2.1.2.2.1),(d.2.2.2.1.1,d.2.2.2.1.2.1,d.2.2.2.1.2.2.1),d.2.2.2.2.1,d.2.2.2.2.2.1,d.2.2.2.2.2.2.1,d.2.2.2.2.2.2.2.1,d.2.2.2.2.2.2.2.2.1)) yNj qRc yRu (e2 qQa Kh) zG
theorem vW2:zT prog 1000 0 52 (zQ (zS f10) 1) PG:=lp (A:=qUf) PG (fun d=>((d.2.1.1,d.2.1.2.1,d.2.1.2.2.1),(d.2.2.1.1,d.2.2.1.2.1,d.2.2.1.2.2.1),d.2.2.2.1,d.2.2.2.2.1,d.2.2.2.2.2.1,d.2.2.2.2.2.2.1,d.2.2.2.2.2.2.2.1,d.2.2.2.2.2.2.2.2.1)) yCe qWf yK5 (e2 qQa Kh) zG
def qRu:=zJ 10 [.agg iU] (.agg FR) (fun k d=>Of k (yG d)) (fun x=>(wA x ()))
theorem XE:zD prog qRu:=fA (rs:=.agg FR) f10 qUf (fun d=>(qZ d)) (e2 qQa Kh) (loopsOK_of (n:=2) (by kernel_rfl) fun i hi=>match i,hi with|0,_=>⟨PF,by kernel_rfl,vRt⟩|1,_=>⟨PG,by kernel_rfl,vW2⟩|i+2,hi=>absurd hi (by omega))
def vAq:zE:=⟨[(0,.c (.dat false (.int .u8))),(3,.c (.int .u64)),(4,.c .i)],[],[]⟩
def yNo:zE:=⟨[(3,.c (.int .u64))],[],[]⟩
def qZo (f:AC→Int→Int→Option Int)(d:vAq.den):=f d.1.1.1 d.1.2.1.1 d.1.2.2.1.1
def qPn:zU:=⟨[vAq],[(.exit 0,yNo)],Int,fun k d=>qZo (JE k k) d,fun b x _ K=>K (.exit 0) (zN b yNo (((x,()),()),()))⟩
def yXr:zW:=⟨[],[(3,qPn)],[],true⟩
theorem aaV:zT prog 1000 0 19 (zQ (zS f70) 0) qPn:=lp (A:=yXr) qPn (fun d=>d.1.1.1) qZo JE NX e0 zG
def vF5:=zJ 70 [.c (.dat false (.int .u8))] (.c .i) (fun k d=>NW k d.1) (fun x=>(x,()))
theorem yDc:zD prog vF5:=fA (rs:=.c .i) f70 yXr (fun d=>d.1) e0 (qB aaV)
def yFu:zE:=⟨[(0,.c (.dat false (.int .u8))),(4,.c (.lit (.osl 1001000 none))),(5,.c .i)],[.arr true .i],[(4,none,.i,false)]⟩
def yLs:zE:=⟨[(4,.c (.lit (.osl 1001000 none)))],[.arr true .i],[]⟩
def yTa (f:qRx)(d:yFu.den):=f d.1.1.1 d.1.2.2.1.1 d.2.1
def qZe:zU:=⟨[yFu],[(.exit 0,yLs)],AC,fun k d=>yTa (AL k k) d,fun b x _ K=>K (.exit 0) (zN b yLs (((),()),(x,())))⟩
def yBs:zW:=⟨[],[(5,qZe)],[],true⟩
theorem vH7:zT prog 1000 0 26 (zQ (zS f37) 0) qZe:=lp (A:=yBs) qZe (fun d=>d.2.1) yTa AL FA (e1 yDc) zG
def vG6:=zJ 37 [.c (.dat false (.int .u8))] (.tup [(false,mm),(false,qF)]) (fun k d=>NY k d.1) (fun x=>(x.1,x.2,()))
theorem vAx:zD prog vG6:=fA (rs:=.tup [(false,mm),(false,qF)]) f37 yBs (fun d=>(d.1,d.2.1)) (e1 yDc) (qB vH7)
def vY1:=zJ 38 [.c .i] (.c .i) (fun k d=>AB k d.1) (fun x=>(x,()))
theorem JX:zD prog vY1:=fA (rs:=.c .i) f38 n0 (fun d=>d.1) e0 zG
def yEu:zE:=⟨[(2,.c (.lit (.ptr 1001000 0))),(4,.c (.lit (.ptr 1001001 0))),(5,.c (.lit (.osl 1001002 none))),(7,.c .i)],[.box true vU,.box true vU,.arr true .i],[]⟩
def qZ9:zE:=⟨[(2,.c (.lit (.ptr 1001000 0))),(4,.c (.lit (.ptr 1001001 0)))],[.box true vU,.box true vU],[]⟩
def yS1 (f:qNw)(d:yEu.den):=f d.1.2.2.2.1.1 (vJ d.2.1) (vJ d.2.2.1) d.2.2.2.1
def qWc:zU:=⟨[yEu],[(.exit 0,qZ9)],qS3,fun k d=>yS1 (NZ k k) d,fun b x _ K=>K (.exit 0) (zN b qZ9 (((),(),()),((eX x.1 ()),(eX x.2 ()),())))⟩
def yH6:zW:=⟨[],[(8,qWc)],[],true⟩
theorem vLb:zT prog 1000 0 48 (zQ (zS f11) 0) qWc:=lp (A:=yH6) qWc (fun d=>((vJ d.2.1),(vJ d.2.2.1))) yS1 NZ yM5 (e2 vAx JX) zG
def qQt:=zJ 11 [.c (.dat false (.int .u8))] (.tup [(true,fc),(false,qF)]) (fun k d=>JF k d.1) (fun x=>(eX x.1 (x.2,())))
theorem vQ5:zD prog qQt:=fA (rs:=.tup [(true,fc),(false,qF)]) f11 yH6 (fun d=>((vJ d),d.2.2.2.2.2.2.2.1)) (e2 vAx JX) (qB vLb)
def vIn:=zJ 71 [.c .i] (.c .bool) (fun k d=>NN k d.1) (fun x=>(x,()))
theorem vFj:zD prog vIn:=fA (rs:=.c .bool) f71 n0 (fun d=>d.1) e0 zG
def yQs:zE:=⟨[(1,.c (.lit (.ptr 1001000 0))),(3,.c .i),(4,.c .i)],[.box true vU],[]⟩
def yOv:zE:=⟨[(3,.c .i)],[],[]⟩
def vA3:zE:=⟨[(2,.c .bool)],[],[]⟩
def yEl (f:qS8)(d:yQs.den):=f d.1.2.1.1 d.1.2.2.1.1 (vJ d.2.1)
def qOe:zU:=⟨[yQs],[(.exit 0,yOv),(.ret,vA3)],(Int⊕Bool),fun k d=>yEl (Ft k k) d,fun b x _ K=>match x with|.inl x=>K (.exit 0) (zN b yOv (((x,()),()),()))|.inr x=>K .ret (zN b vA3 (((x,()),()),()))⟩
def yBk:zW:=⟨[],[(3,qOe)],[],true⟩
theorem vY0:zT prog 1000 0 21 (zQ (zS f72) 0) qOe:=lp (A:=yBk) qOe (fun d=>match d with|.inl d=>.inl d.1.1.1|.inr d=>.inr d.1.1.1) yEl Ft VN (e1 JX) zG
def vW1:=zJ 72 [.agg vE] (.c .bool) (fun k d=>AE k (vJ d)) (fun x=>(x,()))
theorem yJx:zD prog vW1:=fA (rs:=.c .bool) f72 yBk (fun d=>d.1) (e1 JX) (qB vY0)
def aaW:=zJ 73 [.c .i] (.c .bool) (fun k d=>NO k d.1) (fun x=>(x,()))
theorem aaX:zD prog aaW:=fA (rs:=.c .bool) f73 n0 (fun d=>d.1) e0 zG
def vFw:=zJ 39 [.agg iU,.agg A5] (.c .bool) (fun k d=>AF k (yG d) (vZ0 d)) (fun x=>(x,()))
theorem vV6:zD prog vFw:=fA (rs:=.c .bool) f39 n0 (fun d=>d.1) (e3 vFj yJx aaX) zG
def yM0:zE:=⟨[(0,.c (.dat false zH)),(1,.c .i),(5,.c (.lit (.osl 1001000 none))),(6,.c .i)],[.arr true zH],[(5,none,zH,false)]⟩
def yOo:zE:=⟨[(5,.c (.lit (.osl 1001000 none)))],[.arr true zH],[]⟩
def yE7 (f:qYn)(d:yM0.den):=f d.1.1.1 d.1.2.1.1 d.1.2.2.2.1.1 d.2.1
def qYc:zU:=⟨[yM0],[(.exit 0,yOo)],qQ0,fun k d=>yE7 (Io k k) d,fun b x _ K=>K (.exit 0) (zN b yOo (((),()),(x,())))⟩
def yPh:zW:=⟨[],[(3,qYc)],[],false⟩
theorem vPg:zT prog 1000 0 28 (zQ (zS f40) 0) qYc:=lp (A:=yPh) qYc (fun d=>d.2.1) yE7 Io Dw e0 zG
def qUl:=zJ 40 [.c (.dat false zH),.c .i] (.c (.own zH)) (fun k d=>sQ k d.1 d.2.1) (fun x=>(x,()))
theorem w5:zD prog qUl:=fA (rs:=.c (.own zH)) f40 yPh (fun d=>d.1) e0 (qB vPg)
def yZn:zE:=⟨[(1,.c (.dat false .i)),(4,.c (.lit (.ptr 1001000 0))),(5,.c (.lit (.ptr 1001001 0))),(6,.c .i)],[.box true vU,.box true vU],[]⟩
def yZr:zE:=⟨[(4,.c (.lit (.ptr 1001000 0))),(5,.c (.lit (.ptr 1001001 0)))],[.box true vU,.box true vU],[]⟩
def yOt (f:qW4)(d:yZn.den):=(ly (ly (f d.1.1.1 d.1.2.2.2.1.1) d.2.1) d.2.2.1)
def qTy:zU:=⟨[yZn],[(.exit 0,yZr)],qYp,fun k d=>yOt (PH k k) d,fun b x _ K=>K (.exit 0) (zN b yZr (((),(),()),((iT x ()),(yLn x ()),())))⟩
def yB1:zW:=⟨[],[(3,qTy)],[],false⟩
theorem vDz:zT prog 1000 0 27 (zQ (zS f13) 0) qTy:=lp (A:=yB1) qTy (fun d=>(iT d.2.1 (vJ d.2.2.1))) yOt PH yJq e0 zG
def qZb:=zJ 13 [.c .i,.c (.dat false .i)] (.agg fc) (fun k d=>jS k d.1 d.2.1) (fun x=>(eX x ()))
theorem rp:zD prog qZb:=fA (rs:=.agg fc) f13 yB1 (fun d=>(vJ d)) e0 (qB vDz)
def vYw:=zJ 74 [.agg iU,.c .i] (.c .bool) (fun k d=>NL k (yG d) d.2.2.2.2.2.1) (fun x=>(x,()))
theorem PI:zD prog vYw:=fA (rs:=.c .bool) f74 n0 (fun d=>d.1) e0 zG
def vIa:=zJ 75 [.agg vE,.c .i] (.c .bool) (fun k d=>(lv (VC k) d)) (fun x=>(x,()))
theorem PJ:zD prog vIa:=fA (rs:=.c .bool) f75 ⟨[],[],[],false⟩ (fun d=>d.1) e0 zG
def yVm:zE:=⟨[(0,.c (.dat false zH)),(1,.c .i),(5,.c .i)],[],[]⟩
def yTo:zE:=⟨[],[],[]⟩
def yYu:zE:=⟨[(4,.c .i)],[],[]⟩
def vCt (f:qKl)(d:yVm.den):=f d.1.1.1 d.1.2.1.1 d.1.2.2.1.1
def qSh:zU:=⟨[yVm],[(.exit 0,yTo),(.ret,yYu)],(Unit⊕Int),fun k d=>vCt (DE k k) d,fun b x _ K=>match x with|.inl x=>K (.exit 0) (zN b yTo ((),()))|.inr x=>K .ret (zN b yYu (((x,()),()),()))⟩
def vC1:zW:=⟨[],[(2,qSh)],[],false⟩
theorem vXz:zT prog 1000 0 20 (zQ (zS f44) 0) qSh:=lp (A:=vC1) qSh (fun d=>match d with|.inl d=>.inl ()|.inr d=>.inr d.1.1.1) vCt DE DF e0 zG
def aaY:=zJ 44 [.c (.dat false zH),.c .i] (.c .i) (fun k d=>lY k d.1 d.2.1) (fun x=>(x,()))
theorem Ot:zD prog aaY:=fA (rs:=.c .i) f44 vC1 (fun d=>d.1) e0 (qB vXz)
def vMb:=zJ 76 [.c (.dat true zH),.c .i] (.tup [(false,vL),(true,fc),(false,qF)]) (fun k d=>mR k d.1 d.2.1) (fun x=>(OX x ()))
theorem lu:zD prog vMb:=fA (rs:=.tup [(false,vL),(true,fc),(false,qF)]) f76 ⟨[],[],[],false⟩ (fun d=>(OY d)) (e1 Ot) zG
def aaZ:=zJ 77 [.agg iU,.c .i] (.c .bool) (fun k d=>Jw k (yG d) d.2.2.2.2.2.1) (fun x=>(x,()))
theorem PK:zD prog aaZ:=fA (rs:=.c .bool) f77 n0 (fun d=>d.1) e0 zG
def vId:=zJ 232 [.agg vE,.c .i] (.c .bool) (fun k d=>(lv (Ua k) d)) (fun x=>(x,()))
theorem yVt:zD prog vId:=fA (rs:=.c .bool) f232 ⟨[],[],[],false⟩ (fun d=>d.1) e0 zG
def vC6:zE:=⟨[(0,.c (.dat false zH)),(1,.c .i),(5,.c (.lit (.osl 1001000 none))),(6,.c .i)],[.arr true zH],[(5,none,zH,false)]⟩
def yEd:zE:=⟨[(5,.c (.lit (.osl 1001000 none)))],[.arr true zH],[]⟩
def yQ8 (f:qJ6)(d:vC6.den):=f d.1.1.1 d.1.2.1.1 d.1.2.2.2.1.1 d.2.1
def qLs:zU:=⟨[vC6],[(.exit 0,yEd)],qKp,fun k d=>yQ8 (Im k k) d,fun b x _ K=>K (.exit 0) (zN b yEd (((),()),(x,())))⟩
def vCz:zW:=⟨[],[(3,qLs)],[],false⟩
theorem aa0:zT prog 1000 0 27 (zQ (zS f191) 0) qLs:=lp (A:=vCz) qLs (fun d=>d.2.1) yQ8 Im Dv (e1 yVt) zG
def qYo:=zJ 191 [.c (.dat false zH),.c .i] (.c (.own zH)) (fun k d=>Du k d.1 d.2.1) (fun x=>(x,()))
theorem Bb:zD prog qYo:=fA (rs:=.c (.own zH)) f191 vCz (fun d=>d.1) (e1 yVt) (qB aa0)
def yD2:zE:=⟨[(5,.c (.lit (.osl 1001000 none))),(6,.c (.lit (.osl 1001001 none))),(7,.c .i),(8,.c (.lit (.osl 1001002 none))),(9,.c .bool),(10,.c .i)],[.arr true zH,.arr true zH,.arr true zH],[]⟩
def qZ4:zE:=⟨[(5,.c (.lit (.osl 1001000 none))),(6,.c (.lit (.osl 1001001 none))),(7,.c .i),(8,.c (.lit (.osl 1001002 none))),(9,.c .bool)],[.arr true zH,.arr true zH,.arr true zH],[]⟩
def yMi (f:qWu)(d:yD2.den):=f d.1.2.2.1.1 d.1.2.2.2.2.1.1 d.1.2.2.2.2.2.1.1 d.2.1 d.2.2.1 d.2.2.2.1
def qTx:zU:=⟨[yD2],[(.exit 2,qZ4)],qIl,fun k d=>yMi (Dx k k) d,fun b x _ K=>K (.exit 2) (zN b qZ4 (((),(),(x.1,()),(),(x.2.1,()),()),(x.2.2.1,x.2.2.2.1,x.2.2.2.2,())))⟩
def yJl:zE:=⟨[(5,.c (.lit (.osl 1001000 none))),(6,.c (.lit (.osl 1001001 none))),(7,.c .i)],[.arr true zH,.arr true zH],[(6,none,zH,false)]⟩
def yAx:zE:=⟨[(6,.c (.lit (.osl 1001000 none)))],[.arr true zH],[]⟩
def yWi (f:qI3)(d:yJl.den):=f d.1.2.2.1.1 d.2.1 d.2.2.1
def qWs:zU:=⟨[yJl],[(.exit 0,yAx)],qWk,fun k d=>yWi (Iq k k) d,fun b x _ K=>K (.exit 0) (zN b yAx (((),()),(x,())))⟩
def vD9:Env:=⟨prog,fun t=>[142].any (Nat.beq t),jV [qYo,qUl]⟩
theorem qLf:wZ vD9:=Hu (l:=[qYo,qUl]) (eqT:=fun t=>[142].any (Nat.beq t)) (KY (fun t h=>Lp (p:=fun t=>prog.keyTypeAt 8 t&& !prog.eqGuardType prog.depth t) (l:=[142]) (List.forall_mem_cons.2 ⟨by kernel_rfl,List.forall_mem_nil _⟩) t h)) fW ⟨Bb,w5,trivial⟩
def qW6:zW:=⟨[],[(9,qTx),(4,qWs)],[],false⟩
theorem aa1:zT prog 1000 0 61 (zQ (zQ (zS f263) 0) 0) qTx:=lp (A:=qW6) qTx (fun d=>(d.1.2.2.1.1,d.1.2.2.2.2.1.1,d.2.1,d.2.2.1,d.2.2.2.1)) yMi Dx Dy qLf zG
theorem vJ0:zT prog 1000 0 61 (zQ (zS f263) 0) qWs:=lp (A:=qW6) qWs (fun d=>d.2.1) yWi Iq Dz qLf (qB aa1)
def vSe:=zJ 263 [.c (.dat false zH),.c .i] (.c (.own zH)) (fun k d=>Ip k d.1 d.2.1) (fun x=>(x,()))
theorem Ki:zD prog vSe:=fA (rs:=.c (.own zH)) f263 qW6 (fun d=>d.1) qLf (qB vJ0)
def vHy:=zJ 266 [.agg jI,.agg vE] (.c .bool) (fun k d=>(rA (TI k) d)) (fun x=>(x,()))
theorem vA7:zD prog vHy:=fA (rs:=.c .bool) f266 ⟨[],[],[],false⟩ (fun d=>d.1) e0 zG
def yOx:zE:=⟨[(1,.c (.dat false zH)),(2,.c (.lit (.ptr 1001000 0))),(5,.c .i)],[.box true jO],[]⟩
def yBj:zE:=⟨[(1,.c (.dat false zH))],[],[]⟩
def yZ6:zE:=⟨[(4,.c .bool)],[],[]⟩
def yT3 (f:qUr)(d:yOx.den):=(vB (f d.1.1.1 d.1.2.2.1.1) d.2.1)
def qLp:zU:=⟨[yOx],[(.exit 0,yBj),(.ret,yZ6)],qVd,fun k d=>yT3 (H2 k k) d,fun b x _ K=>match x with|.inl x=>K (.exit 0) (zN b yBj (((x,()),()),()))|.inr x=>K .ret (zN b yZ6 (((x,()),()),()))⟩
def yZg:zW:=⟨[],[(2,qLp)],[],false⟩
theorem vQu:zT prog 1000 0 22 (zQ (zS f233) 0) qLp:=lp (A:=yZg) qLp (fun d=>match d with|.inl d=>.inl d.1.1.1|.inr d=>.inr d.1.1.1) yT3 H2 CR (e1 vA7) zG
def aa2:=zJ 233 [.agg jI,.c (.dat false zH)] (.c .bool) (fun k d=>(kF (H0 k) d)) (fun x=>(x,()))
theorem PM:zD prog aa2:=fA (rs:=.c .bool) f233 yZg (fun d=>d.1) (e1 vA7) (qB vQu)
def yMj:zE:=⟨[(0,.c (.dat false (.sl .i))),(3,.c (.lit (.osl 1001000 none))),(4,.c .i)],[.mat],[(3,none,(.sl .i),true)]⟩
def yY2:zE:=⟨[(3,.c (.lit (.osl 1001000 none)))],[.mat],[]⟩
def yNd (f:qIs)(d:yMj.den):=f d.1.1.1 d.1.2.2.1.1 d.2.1
def qKb:zU:=⟨[yMj],[(.exit 0,yY2)],EQ,fun k d=>yNd (HO k k) d,fun b x _ K=>K (.exit 0) (zN b yY2 (((),()),(x,())))⟩
def yBc:zW:=⟨[18,19],[(3,qKb)],[],false⟩
theorem vN5:zT prog 1000 0 21 (zQ (zS f183) 0) qKb:=lp (A:=yBc) qKb (fun d=>d.2.1) yNd HO CK e0 zG
def aa3:=zJ 183 [.c (.dat false (.sl .i))] (.c (.mat)) (fun k d=>HP k d.1) (fun x=>(x,()))
theorem vE1:zD prog aa3:=fA (rs:=.c (.mat)) f183 yBc (fun d=>d.1) e0 (qB vN5)
def aa4:=zJ 126 [.agg jI] (.agg OZ) (fun k d=>(vB (nD k) d)) (fun x=>(jR x ()))
theorem wy:zD prog aa4:=fA (rs:=.agg OZ) f126 ⟨[],[],[],false⟩ (fun d=>(wM d)) (e1 vE1) zG
def yXg:zE:=⟨[(0,.c (.dat false zH)),(1,.c .i),(6,.c .i),(7,.c .i),(8,.c .i)],[],[]⟩
def yOu:zE:=⟨[(6,.c .i),(7,.c .i)],[],[]⟩
def yCg (f:qNg)(d:yXg.den):=f d.1.1.1 d.1.2.1.1 d.1.2.2.1.1 d.1.2.2.2.1.1 d.1.2.2.2.2.1.1
def qKv:zU:=⟨[yXg],[(.exit 0,yOu)],vI,fun k d=>yCg (H5 k k) d,fun b x _ K=>K (.exit 0) (zN b yOu (((x.1,()),(x.2,()),()),()))⟩
def vA9:zW:=⟨[],[(3,qKv)],[],false⟩
theorem vFz:zT prog 1000 0 46 (zQ (zS f267) 0) qKv:=lp (A:=vA9) qKv (fun d=>(d.1.1.1,d.1.2.1.1)) yCg H5 CX e0 zG
def aa5:=zJ 267 [.c (.dat false zH),.c .i] (.tup [(false,qF),(false,qF)]) (fun k d=>H4 k d.1 d.2.1) (fun x=>(x.1,x.2,()))
theorem qH4:zD prog aa5:=fA (rs:=.tup [(false,qF),(false,qF)]) f267 vA9 (fun d=>(d.1,d.2.1)) e0 (qB vFz)
def vJq:=zJ 235 [.c (.dat false zH),.c .i] (.c .i) (fun k d=>Md k d.1 d.2.1) (fun x=>(x,()))
theorem qTj:zD prog vJq:=fA (rs:=.c .i) f235 ⟨[],[],[],false⟩ (fun d=>d.1) (e1 qH4) zG
def aa6:=zJ 234 [.agg mU,.c .i] (.c .i) (fun k d=>(vB (CY k) d)) (fun x=>(x,()))
theorem Kj:zD prog aa6:=fA (rs:=.c .i) f234 ⟨[],[],[],false⟩ (fun d=>d.1) e0 zG
def yCv:zE:=⟨[(0,.c (.dat false zH)),(1,.c .i),(2,.c .i),(7,.c .i),(8,.c .i)],[],[]⟩
def yZ8:zE:=⟨[(7,.c .i)],[],[]⟩
def yFm (f:qYi)(d:yCv.den):=f d.1.1.1 d.1.2.1.1 d.1.2.2.1.1 d.1.2.2.2.1.1 d.1.2.2.2.2.1.1
def qIe:zU:=⟨[yCv],[(.exit 0,yZ8)],Int,fun k d=>yFm (H3 k k) d,fun b x _ K=>K (.exit 0) (zN b yZ8 (((x,()),()),()))⟩
def yYg:zW:=⟨[],[(3,qIe)],[],false⟩
theorem aa7:zT prog 1000 0 39 (zQ (zS f268) 0) qIe:=lp (A:=yYg) qIe (fun d=>d.1.1.1) yFm H3 CW e0 zG
def vHb:=zJ 268 [.c (.dat false zH),.c .i,.c .i] (.c .i) (fun k d=>uT k d.1 d.2.1 d.2.2.1) (fun x=>(x,()))
theorem qSp:zD prog vHb:=fA (rs:=.c .i) f268 yYg (fun d=>d.1) e0 (qB aa7)
def vQd:=zJ 236 [.c (.dat false zH),.c .i,.c .i] (.c .i) (fun k d=>Ma k d.1 d.2.1 d.2.2.1) (fun x=>(x,()))
theorem qXe:zD prog vQd:=fA (rs:=.c .i) f236 ⟨[],[],[],false⟩ (fun d=>d.1) (e1 qSp) zG
def yWn:zE:=⟨[(0,.c (.dat false (.sl .i))),(1,.c .i),(5,.c .i)],[],[]⟩
def yPf:zE:=⟨[],[],[]⟩
def yIb:zE:=⟨[(4,.c .bool)],[],[]⟩
def yJv (f:qMz)(d:yWn.den):=f d.1.1.1 d.1.2.1.1 d.1.2.2.1.1
def qG7:zU:=⟨[yWn],[(.exit 0,yPf),(.ret,yIb)],(Unit⊕Bool),fun k d=>yJv (HF k k) d,fun b x _ K=>match x with|.inl x=>K (.exit 0) (zN b yPf ((),()))|.inr x=>K .ret (zN b yIb (((x,()),()),()))⟩
def yQb:zW:=⟨[],[(4,qG7)],[],false⟩
theorem vDs:zT prog 1000 0 22 (zQ (zS f269) 0) qG7:=lp (A:=yQb) qG7 (fun d=>match d with|.inl d=>.inl ()|.inr d=>.inr d.1.1.1) yJv HF Cx e0 zG
def vQf:=zJ 269 [.c (.dat false (.sl .i)),.c .i] (.c .bool) (fun k d=>HE k d.1 d.2.1) (fun x=>(x,()))
theorem qTz:zD prog vQf:=fA (rs:=.c .bool) f269 yQb (fun d=>d.1) e0 (qB vDs)
def aa8:=zJ 186 [.agg mU] (.c .bool) (fun k d=>HC k d.1 d.2.1 d.2.2.1) (fun x=>(x,()))
theorem Oq:zD prog aa8:=fA (rs:=.c .bool) f186 ⟨[],[],[],false⟩ (fun d=>d.1) e0 zG
def vU1:=zJ 270 [.c .i] (.c .bool) (fun k d=>HD k d.1) (fun x=>(x,()))
theorem qSm:zD prog vU1:=fA (rs:=.c .bool) f270 ⟨[],[],[],false⟩ (fun d=>d.1) e0 zG
def yB7:zE:=⟨[(1,.c (.lit (.ptr 1001000 0))),(3,.c .i),(4,.c .i),(5,.c .i)],[.box true jO],[]⟩
def yNu:zE:=⟨[(1,.c (.lit (.ptr 1001000 0))),(3,.c .i),(4,.c .i)],[.box true jO],[]⟩
def yM3:zE:=⟨[(2,.c .bool)],[],[]⟩
def qZz (f:qT1)(d:yB7.den):=(vB (f d.1.2.1.1 d.1.2.2.1.1 d.1.2.2.2.1.1) d.2.1)
def qZa:zU:=⟨[yB7],[(.exit 2,yNu),(.ret,yM3)],qPw,fun k d=>qZz (Cy k k) d,fun b x _ K=>match x with|.inl x=>K (.exit 2) (zN b yNu (((),(x.1,()),(x.2.1,()),()),((z9 x ()),())))|.inr x=>K .ret (zN b yM3 (((x,()),()),()))⟩
def vCd:zE:=⟨[(1,.c (.lit (.ptr 1001000 0))),(3,.c .i),(4,.c .i)],[.box true jO],[]⟩
def yWc:zE:=⟨[],[],[]⟩
def yJy:zE:=⟨[(2,.c .bool)],[],[]⟩
def yHr (f:qYq)(d:vCd.den):=(vB (f d.1.2.1.1 d.1.2.2.1.1) d.2.1)
def qX9:zU:=⟨[vCd],[(.exit 0,yWc),(.ret,yJy)],(Unit⊕Bool),fun k d=>yHr (CA k k) d,fun b x _ K=>match x with|.inl x=>K (.exit 0) (zN b yWc ((),()))|.inr x=>K .ret (zN b yJy (((x,()),()),()))⟩
def qXk:zW:=⟨[],[(10,qZa),(5,qX9)],[],false⟩
theorem vP3:zT prog 1000 0 114 (zQ (zQ (zS f237) 0) 0) qZa:=lp (A:=qXk) qZa (fun d=>match d with|.inl d=>.inl (d.1.2.1.1,d.1.2.2.1.1,(wM d.2.1))|.inr d=>.inr d.1.1.1) qZz Cy Cz (e3 qTz Oq qSm) zG
theorem vO2:zT prog 1000 0 114 (zQ (zS f237) 0) qX9:=lp (A:=qXk) qX9 (fun d=>match d with|.inl d=>.inl ()|.inr d=>.inr d.1.1.1) yHr CA CB (e3 qTz Oq qSm) (qB vP3)
def aa9:=zJ 237 [.agg jI] (.c .bool) (fun k d=>(vB (LS k) d)) (fun x=>(x,()))
theorem qMk:zD prog aa9:=fA (rs:=.c .bool) f237 qXk (fun d=>d.1) (e3 qTz Oq qSm) (qB vO2)
def yTy:zE:=⟨[(1,.c (.dat false zH)),(2,.c (.lit (.ptr 1001000 0))),(4,.c (.lit (.ptr 1001001 0))),(6,.c (.lit (.ptr 1001002 0))),(7,.c .i),(8,.c .i)],[.box true vZ,.box true mV,.box true rq,.arr true qY,.mat,.arr true .i,.mat],[]⟩
def yF0:zE:=⟨[(1,.c (.dat false zH)),(2,.c (.lit (.ptr 1001000 0))),(4,.c (.lit (.ptr 1001001 0))),(6,.c (.lit (.ptr 1001002 0))),(7,.c .i)],[.box true vZ,.box true mV,.box true rq,.arr true qY,.mat,.arr true .i,.mat],[]⟩
def yP5 (f:qU3)(d:yTy.den):=(vB (f d.1.1.1 d.1.2.2.2.2.1.1 d.1.2.2.2.2.2.1.1) d.2.1) d.2.2.2.2.1 d.2.2.2.2.2.1 d.2.2.2.2.2.2.1 d.2.2.2.2.2.2.2.1
def qPy:zU:=⟨[yTy],[(.exit 2,yF0)],qOt,fun k d=>yP5 (CZ k k) d,fun b x _ K=>K (.exit 2) (zN b yF0 (((x.1,()),(),(),(),(x.2.1,()),()),((OT x ()),(),(),x.2.2.2.2.2.2.1,x.2.2.2.2.2.2.2.1,x.2.2.2.2.2.2.2.2.1,x.2.2.2.2.2.2.2.2.2,())))⟩
def yPq:zE:=⟨[(1,.c (.dat false zH)),(2,.c (.lit (.ptr 1001000 0))),(4,.c (.lit (.ptr 1001001 0))),(6,.c (.lit (.ptr 1001002 0))),(7,.c .i)],[.box true vZ,.box true mV,.box true rq,.arr true qY,.mat,.arr true .i,.mat],[]⟩
def yOs:zE:=⟨[(2,.c (.lit (.ptr 1001000 0))),(4,.c (.lit (.ptr 1001001 0))),(6,.c (.lit (.ptr 1001002 0)))],[.box true vZ,.box true mV,.box true rq,.arr true qY,.mat,.arr true .i,.mat],[]⟩
def yHt (f:qOp)(d:yPq.den):=(vB (f d.1.1.1 d.1.2.2.2.2.1.1) d.2.1) d.2.2.2.2.1 d.2.2.2.2.2.1 d.2.2.2.2.2.2.1 d.2.2.2.2.2.2.2.1
def qOd:zU:=⟨[yPq],[(.exit 0,yOs)],qSa,fun k d=>yHt (C4 k k) d,fun b x _ K=>K (.exit 0) (zN b yOs (((),(),(),()),((vO x ()),(),(),x.2.2.2.2.1,x.2.2.2.2.2.1,x.2.2.2.2.2.2.1,x.2.2.2.2.2.2.2,())))⟩
def qJz:zW:=⟨[],[(9,qPy),(5,qOd)],[],false⟩
theorem vMc:zT prog 1000 0 84 (zQ (zQ (zS f192) 0) 0) qPy:=lp (A:=qJz) qPy (fun d=>(d.1.1.1,d.1.2.2.2.2.1.1,(vO d.2.1 (d.2.2.2.2.1,d.2.2.2.2.2.1,d.2.2.2.2.2.2.1,d.2.2.2.2.2.2.2.1)))) yP5 CZ C3 (e6 PM wy qTj Kj qXe qMk) zG
theorem vFk:zT prog 1000 0 84 (zQ (zS f192) 0) qOd:=lp (A:=qJz) qOd (fun d=>(vO d.2.1 (d.2.2.2.2.1,d.2.2.2.2.2.1,d.2.2.2.2.2.2.1,d.2.2.2.2.2.2.2.1))) yHt C4 C5 (e6 PM wy qTj Kj qXe qMk) (qB vMc)
def vMn:=zJ 192 [.agg ki,.c (.dat false zH)] (.tup [(true,jA),(false,qF)]) (fun k d=>(kF (yv k) d)) (fun x=>(wS x ()))
theorem qXr:zD prog vMn:=fA (rs:=.tup [(true,jA),(false,qF)]) f192 qJz (fun d=>(yG d)) (e6 PM wy qTj Kj qXe qMk) (qB vFk)
def yZm:zE:=⟨[(1,.c .i),(2,.c (.lit (.ptr 1001000 0))),(5,.c .i),(6,.c .i)],[.box true jO],[]⟩
def yPl:zE:=⟨[(5,.c .i)],[],[]⟩
def yIr (f:qRh)(d:yZm.den):=(vB (f d.1.1.1 d.1.2.2.1.1 d.1.2.2.2.1.1) d.2.1)
def qOj:zU:=⟨[yZm],[(.exit 0,yPl)],Int,fun k d=>yIr (C6 k k) d,fun b x _ K=>K (.exit 0) (zN b yPl (((x,()),()),()))⟩
def ySt:zW:=⟨[],[(3,qOj)],[],false⟩
theorem vNo:zT prog 1000 0 28 (zQ (zS f287) 0) qOj:=lp (A:=ySt) qOj (fun d=>d.1.1.1) yIr C6 C7 e0 zG
def vWd:=zJ 287 [.agg jI,.c .i] (.c .i) (fun k d=>(kF (Mj k) d)) (fun x=>(x,()))
theorem yB8:zD prog vWd:=fA (rs:=.c .i) f287 ySt (fun d=>d.1) e0 (qB vNo)
def yVi:zE:=⟨[(1,.c (.dat false zH)),(2,.c .i),(3,.c (.lit (.ptr 1001000 0))),(7,.c .i),(8,.c .i),(9,.c .i),(10,.c .i),(11,.c .i)],[.box true jO],[]⟩
def vAz:zE:=⟨[(2,.c .i),(3,.c (.lit (.ptr 1001000 0))),(7,.c .i),(8,.c .i),(9,.c .i),(10,.c .i)],[.box true jO],[]⟩
def vBo:zE:=⟨[(6,.c .bool)],[],[]⟩
def yFb (f:qLc)(d:yVi.den):=(vB (f d.1.1.1 d.1.2.1.1 d.1.2.2.2.1.1 d.1.2.2.2.2.1.1 d.1.2.2.2.2.2.1.1 d.1.2.2.2.2.2.2.1.1 d.1.2.2.2.2.2.2.2.1.1) d.2.1)
def qWr:zU:=⟨[yVi],[(.exit 0,vAz),(.ret,vBo)],qX6,fun k d=>yFb (qi k k) d,fun b x _ K=>match x with|.inl x=>K (.exit 0) (zN b vAz (((x.1,()),(),(x.2.1,()),(x.2.2.1,()),(x.2.2.2.1,()),(x.2.2.2.2.1,()),()),((aba x ()),())))|.inr x=>K .ret (zN b vBo (((x,()),()),()))⟩
def yHs:zW:=⟨[],[(7,qWr)],[],false⟩
theorem abb:zT prog 1000 0 130 (zQ (zS f265) 0) qWr:=lp (A:=yHs) qWr (fun d=>match d with|.inl d=>.inl (d.1.1.1,d.1.2.2.1.1,d.1.2.2.2.1.1,d.1.2.2.2.2.1.1,d.1.2.2.2.2.2.1.1,(wM d.2.1))|.inr d=>.inr d.1.1.1) yFb qi C9 (e4 qH4 yB8 qSp Kj) zG
def vI4:=zJ 265 [.agg jI,.c (.dat false zH),.c .i] (.c .bool) (fun k d=>(iW (Mo k) d)) (fun x=>(x,()))
theorem yFg:zD prog vI4:=fA (rs:=.c .bool) f265 yHs (fun d=>d.1) (e4 qH4 yB8 qSp Kj) (qB abb)
def yFh:zE:=⟨[(1,.c (.dat false zH)),(2,.c (.lit (.ptr 1001000 0))),(5,.c (.lit (.osl 1001001 none))),(6,.c .i)],[.box true jO,.arr true .i],[(5,none,.i,false)]⟩
def yMr:zE:=⟨[(5,.c (.lit (.osl 1001000 none)))],[.arr true .i],[]⟩
def yAj (f:qIz)(d:yFh.den):=(vB (f d.1.1.1 d.1.2.2.2.1.1) d.2.1) d.2.2.1
def qJp:zU:=⟨[yFh],[(.exit 0,yMr)],AC,fun k d=>yAj (sO k k) d,fun b x _ K=>K (.exit 0) (zN b yMr (((),()),(x,())))⟩
def yPc:zW:=⟨[],[(3,qJp)],[],false⟩
theorem abc:zT prog 1000 0 23 (zQ (zS f231) 0) qJp:=lp (A:=yPc) qJp (fun d=>d.2.1) yAj sO ql (e1 yFg) zG
def vOf:=zJ 231 [.agg jI,.c (.dat false zH)] (.c (.own .i)) (fun k d=>(kF (sN k) d)) (fun x=>(x,()))
theorem Kk:zD prog vOf:=fA (rs:=.c (.own .i)) f231 yPc (fun d=>d.1) (e1 yFg) (qB abc)
def vKy:=zJ 264 [.agg jI,.c (.dat false zH)] (.c .bool) (fun k d=>(kF (H7 k) d)) (fun x=>(x,()))
theorem vUy:zD prog vKy:=fA (rs:=.c .bool) f264 ⟨[],[],[],false⟩ (fun d=>d.1) (e2 PM Kk) zG
def vT5:=zJ 229 [.agg ki,.c (.dat false zH)] (.tup [(true,jA),(false,[.bool])]) (fun k d=>(kF (tp k) d)) (fun x=>(wS x ()))
theorem tJ:zD prog vT5:=fA (rs:=.tup [(true,jA),(false,[.bool])]) f229 ⟨[],[],[],false⟩ (fun d=>(yG d)) (e2 qXr vUy) zG
def yAu:zE:=⟨[(3,.c (.lit (.ptr 1001000 0))),(6,.c (.lit (.ptr 1001001 0))),(8,.c (.lit (.osl 1001002 none))),(9,.c .i)],[.box true vZ,.box true vU,.arr true zH],[]⟩
def qZ3:zE:=⟨[(6,.c (.lit (.ptr 1001000 0)))],[.box true vU],[]⟩
def ySc:zE:=⟨[(6,.c (.lit (.ptr 1001000 0))),(7,.c .bool)],[.box true vU],[]⟩
def yHv (f:qMv)(d:yAu.den):=(ly (vB (f d.1.2.2.2.1.1) d.2.1) d.2.2.1) d.2.2.2.1
def qVt:zU:=⟨[yAu],[(.exit 0,qZ3),(.ret,ySc)],qYk,fun k d=>yHv (Jm k k) d,fun b x _ K=>match x with|.inl x=>K (.exit 0) (zN b qZ3 (((),()),((eX x ()),())))|.inr x=>K .ret (zN b ySc (((),(x.1,()),()),((yS4 x ()),())))⟩
def yZx:zW:=⟨[],[(3,qVt)],[],false⟩
theorem vWa:zT prog 1000 0 37 (zQ (zS f228) 0) qVt:=lp (A:=yZx) qVt (fun d=>match d with|.inl d=>.inl (vJ d.2.1)|.inr d=>.inr (d.1.2.1.1,(vJ d.2.1))) yHv Jm E6 (e2 Ki tJ) zG
def vM3:=zJ 228 [.agg ki,.c (.dat true zH),.c .i] (.tup [(true,fc),(false,[.bool])]) (fun k d=>(iW (NF k) d)) (fun x=>(A6 x ()))
theorem yYw:zD prog vM3:=fA (rs:=.tup [(true,fc),(false,[.bool])]) f228 yZx (fun d=>(lx d)) (e2 Ki tJ) (qB vWa)
def yQu:zE:=⟨[(1,.c (.dat true zH)),(2,.c .i),(3,.c (.lit (.ptr 1001000 0))),(6,.c (.lit (.ptr 1001001 0))),(9,.c (.lit (.osl 1001002 none)))],[.box true vZ,.box true mV,.arr true zH],[(9,none,zH,false)]⟩
def yQm:zE:=⟨[(6,.c (.lit (.ptr 1001000 0))),(7,.c (.dat true zH)),(8,.c (.lit (.osl 1001001 none)))],[.box true vZ,.arr true zH],[]⟩
def yS0 (f:qW3)(d:yQu.den):=(vB (f d.1.1.1 d.1.2.1.1) d.2.1) d.2.2.2.1
def qQr:zU:=⟨[yQu],[(.ret,yQm)],qJr,fun k d=>yS0 (Jn k k) d,fun b x _ K=>K .ret (zN b yQm (((),(x.1,()),(),()),((gP x ()),x.2.2.2.2.2,())))⟩
def yQl:zW:=⟨[],[(2,qQr)],[],false⟩
theorem abd:zT prog 1000 0 43 (zQ (zS f187) 0) qQr:=lp (A:=yQl) qQr (fun d=>(d.1.2.1.1,(vO d.2.1 d.2.2.1))) yS0 Jn E7 (e3 yYw tJ lu) zG
def vGh:=zJ 187 [.agg ki,.c (.dat true zH),.c .i] (.tup [(true,jA),(false,vL),(false,[.own zH])]) (fun k d=>(iW (NG k) d)) (fun x=>(mW x ()))
theorem yMf:zD prog vGh:=fA (rs:=.tup [(true,jA),(false,vL),(false,[.own zH])]) f187 yQl (fun d=>(mn d)) (e3 yYw tJ lu) (qB abd)
def yWd:zE:=⟨[(3,.c (.lit (.ptr 1001000 0))),(6,.c (.lit (.ptr 1001001 0))),(7,.c (.lit (.ptr 1001002 0))),(9,.c (.lit (.osl 1001003 none))),(10,.c .i),(11,.c .i)],[.box true vZ,.box true vU,.box true vU,.arr true zH],[]⟩
def vBn:zE:=⟨[(3,.c (.lit (.ptr 1001000 0))),(6,.c (.lit (.ptr 1001001 0))),(7,.c (.lit (.ptr 1001002 0))),(9,.c (.lit (.osl 1001003 none))),(10,.c .i)],[.box true vZ,.box true vU,.box true vU,.arr true zH],[]⟩
def yQc:zE:=⟨[(6,.c (.lit (.ptr 1001000 0))),(7,.c (.lit (.ptr 1001001 0))),(8,.c .bool)],[.box true vU,.box true vU],[]⟩
def ySo (f:qXo)(d:yWd.den):=(ly (ly (vB (f d.1.2.2.2.2.1.1 d.1.2.2.2.2.2.1.1) d.2.1) d.2.2.1) d.2.2.2.1) d.2.2.2.2.1
def qXi:zU:=⟨[yWd],[(.exit 2,vBn),(.ret,yQc)],qWt,fun k d=>ySo (Jp k k) d,fun b x _ K=>match x with|.inl x=>K (.exit 2) (zN b vBn (((),(),(),(),(x.1,()),()),((gP x ()),(vIi x ()),(vIu x ()),x.2.2.2.2.2.2.2.2.2.2.2.2.2.2.2.2.2.2.2,())))|.inr x=>K .ret (zN b yQc (((),(),(x.1,()),()),((qX0 x ()),(yKs x ()),())))⟩
def yBq:zE:=⟨[(3,.c (.lit (.ptr 1001000 0))),(6,.c (.lit (.ptr 1001001 0))),(7,.c (.lit (.ptr 1001002 0))),(9,.c (.lit (.osl 1001003 none))),(10,.c .i)],[.box true vZ,.box true vU,.box true vU,.arr true zH],[]⟩
def yAv:zE:=⟨[(6,.c (.lit (.ptr 1001000 0))),(7,.c (.lit (.ptr 1001001 0)))],[.box true vU,.box true vU],[]⟩
def yLx:zE:=⟨[(6,.c (.lit (.ptr 1001000 0))),(7,.c (.lit (.ptr 1001001 0))),(8,.c .bool)],[.box true vU,.box true vU],[]⟩
def yWw (f:qJ1)(d:yBq.den):=(ly (ly (vB (f d.1.2.2.2.2.1.1) d.2.1) d.2.2.1) d.2.2.2.1) d.2.2.2.2.1
def qV3:zU:=⟨[yBq],[(.exit 0,yAv),(.ret,yLx)],qIq,fun k d=>yWw (Jq k k) d,fun b x _ K=>match x with|.inl x=>K (.exit 0) (zN b yAv (((),(),()),((iT x ()),(yLn x ()),())))|.inr x=>K .ret (zN b yLx (((),(),(x.1,()),()),((qX0 x ()),(yKs x ()),())))⟩
def qQ3:zW:=⟨[],[(6,qXi),(3,qV3)],[],false⟩
theorem vZ3:zT prog 1000 0 71 (zQ (zQ (zS f230) 0) 0) qXi:=lp (A:=qQ3) qXi (fun d=>match d with|.inl d=>.inl (d.1.2.2.2.2.1.1,(vO d.2.1 (iT d.2.2.1 (iT d.2.2.2.1 d.2.2.2.2.1))))|.inr d=>.inr (d.1.2.2.1.1,(iT d.2.1 (vJ d.2.2.1)))) ySo Jp E8 (e2 Ki tJ) zG
theorem vGg:zT prog 1000 0 71 (zQ (zS f230) 0) qV3:=lp (A:=qQ3) qV3 (fun d=>match d with|.inl d=>.inl (iT d.2.1 (vJ d.2.2.1))|.inr d=>.inr (d.1.2.2.1.1,(iT d.2.1 (vJ d.2.2.1)))) yWw Jq E9 (e2 Ki tJ) (qB vZ3)
def abe:=zJ 230 [.agg ki,.c (.dat true zH),.c .i] (.tup [(true,fc),(true,fc),(false,[.bool])]) (fun k d=>(iW (NH k) d)) (fun x=>(yTt x ()))
theorem yS8:zD prog abe:=fA (rs:=.tup [(true,fc),(true,fc),(false,[.bool])]) f230 qQ3 (fun d=>(yEq d)) (e2 Ki tJ) (qB vGg)
def yZw:zE:=⟨[(1,.c (.dat true zH)),(2,.c .i),(3,.c (.lit (.ptr 1001000 0))),(6,.c (.lit (.ptr 1001001 0))),(9,.c (.lit (.osl 1001002 none)))],[.box true vZ,.box true mV,.arr true zH],[(9,none,zH,false)]⟩
def yF3:zE:=⟨[(6,.c (.lit (.ptr 1001000 0))),(7,.c (.dat true zH)),(8,.c (.lit (.osl 1001001 none)))],[.box true vZ,.arr true zH],[]⟩
def vBg (f:qRl)(d:yZw.den):=(vB (f d.1.1.1 d.1.2.1.1) d.2.1) d.2.2.2.1
def qJe:zU:=⟨[yZw],[(.ret,yF3)],qMo,fun k d=>vBg (Jr k k) d,fun b x _ K=>K .ret (zN b yF3 (((),(x.1,()),(),()),((gP x ()),x.2.2.2.2.2,())))⟩
def yYb:zW:=⟨[],[(2,qJe)],[],false⟩
theorem vGz:zT prog 1000 0 55 (zQ (zS f188) 0) qJe:=lp (A:=yYb) qJe (fun d=>(d.1.2.1.1,(vO d.2.1 d.2.2.1))) vBg Jr Fa (e3 yS8 tJ lu) zG
def vDi:=zJ 188 [.agg ki,.c (.dat true zH),.c .i] (.tup [(true,jA),(false,vL),(false,[.own zH])]) (fun k d=>(iW (NI k) d)) (fun x=>(mW x ()))
theorem yFc:zD prog vDi:=fA (rs:=.tup [(true,jA),(false,vL),(false,[.own zH])]) f188 yYb (fun d=>(mn d)) (e3 yS8 tJ lu) (qB vGz)
def yDb:zE:=⟨[(1,.c (.dat true zH)),(2,.c .i),(3,.c (.lit (.ptr 1001000 0))),(6,.c (.lit (.ptr 1001001 0))),(9,.c (.lit (.osl 1001002 none)))],[.box true vZ,.box true mV,.arr true zH],[(9,none,zH,false)]⟩
def vC4:zE:=⟨[(6,.c (.lit (.ptr 1001000 0))),(7,.c (.dat true zH)),(8,.c (.lit (.osl 1001001 none)))],[.box true vZ,.arr true zH],[]⟩
def yBg (f:qH7)(d:yDb.den):=(vB (f d.1.1.1 d.1.2.1.1) d.2.1) d.2.2.2.1
def qVf:zU:=⟨[yDb],[(.ret,vC4)],qMr,fun k d=>yBg (Ju k k) d,fun b x _ K=>K .ret (zN b vC4 (((),(x.1,()),(),()),((gP x ()),x.2.2.2.2.2,())))⟩
def yRv:zW:=⟨[],[(2,qVf)],[],false⟩
theorem vWo:zT prog 1000 0 45 (zQ (zS f130) 0) qVf:=lp (A:=yRv) qVf (fun d=>(d.1.2.1.1,(vO d.2.1 d.2.2.1))) yBg Ju Fl (e2 yMf yFc) zG
def vFc:=zJ 130 [.agg ki,.c (.dat true zH),.c .i] (.tup [(true,jA),(false,vL),(false,[.own zH])]) (fun k d=>(iW (Jv k) d)) (fun x=>(mW x ()))
theorem vZ8:zD prog vFc:=fA (rs:=.tup [(true,jA),(false,vL),(false,[.own zH])]) f130 yRv (fun d=>(mn d)) (e2 yMf yFc) (qB vWo)
def ySp:zE:=⟨[(0,.c (.dat false zH)),(1,.c (.dat false .i)),(5,.c (.lit (.osl 1001000 none))),(6,.c .i)],[.arr true zH],[(5,none,zH,false)]⟩
def yZh:zE:=⟨[(5,.c (.lit (.osl 1001000 none)))],[.arr true zH],[]⟩
def yXm (f:qTu)(d:ySp.den):=f d.1.1.1 d.1.2.1.1 d.1.2.2.2.1.1 d.2.1
def qKd:zU:=⟨[ySp],[(.exit 0,yZh)],qMh,fun k d=>yXm (Fe k k) d,fun b x _ K=>K (.exit 0) (zN b yZh (((),()),(x,())))⟩
def yRb:zW:=⟨[],[(3,qKd)],[],false⟩
theorem vIe:zT prog 1000 0 60 (zQ (zS f190) 0) qKd:=lp (A:=yRb) qKd (fun d=>d.2.1) yXm Fe Ff (e1 w5) zG
def vOp:=zJ 190 [.c (.dat false zH),.c (.dat false .i)] (.c (.own zH)) (fun k d=>Fc k d.1 d.2.1) (fun x=>(x,()))
theorem F3:zD prog vOp:=fA (rs:=.c (.own zH)) f190 yRb (fun d=>d.1) (e1 w5) (qB vIe)
def yX3:zE:=⟨[(3,.c (.lit (.ptr 1001000 0))),(8,.c (.lit (.osl 1001001 none))),(9,.c (.lit (.osl 1001002 none))),(10,.c .i)],[.box true jO,.arr true zH,.arr true .i],[(9,none,.i,false)]⟩
def yW9:zE:=⟨[(3,.c (.lit (.ptr 1001000 0))),(8,.c (.lit (.osl 1001001 none))),(9,.c (.lit (.osl 1001002 none)))],[.box true jO,.arr true zH,.arr true .i],[]⟩
def yBd (f:qSz)(d:yX3.den):=(vB (f d.1.2.2.2.1.1) d.2.1) d.2.2.1 d.2.2.2.1
def PN:zU:=⟨[yX3],[(.exit 0,yW9)],qZc,fun k d=>yBd (Az k k) d,fun b x _ K=>K (.exit 0) (zN b yW9 (((),(),(),()),((vO x ()),x.2.2.2.2.1,x.2.2.2.2.2,())))⟩
def yV8:zE:=⟨[(3,.c (.lit (.ptr 1001000 0))),(8,.c (.lit (.osl 1001001 none))),(9,.c (.lit (.osl 1001002 none))),(11,.c .i),(12,.c (.lit (.osl 1001003 none))),(13,.c .i)],[.box true jO,.arr true zH,.arr true .i,.arr true .i],[]⟩
def yV5:zE:=⟨[(3,.c (.lit (.ptr 1001000 0))),(8,.c (.lit (.osl 1001001 none))),(9,.c (.lit (.osl 1001002 none))),(11,.c .i)],[.box true jO,.arr true zH,.arr true .i],[]⟩
def yTu (f:qY1)(d:yV8.den):=(vB (f d.1.2.2.2.1.1 d.1.2.2.2.2.2.1.1) d.2.1) d.2.2.1 d.2.2.2.1 d.2.2.2.2.1
def qVq:zU:=⟨[yV8],[(.exit 4,yV5)],qYt,fun k d=>yTu (Fh k k) d,fun b x _ K=>K (.exit 4) (zN b yV5 (((),(),(),(x.1,()),()),((gP x ()),x.2.2.2.2.2.1,x.2.2.2.2.2.2,())))⟩
def yZz:zE:=⟨[(3,.c (.lit (.ptr 1001000 0))),(8,.c (.lit (.osl 1001001 none))),(9,.c (.lit (.osl 1001002 none))),(11,.c .i)],[.box true jO,.arr true zH,.arr true .i],[]⟩
def yK1:zE:=⟨[(6,.c (.lit (.osl 1001000 none))),(7,.c .i)],[.arr true .i],[]⟩
def yR0 (f:qNy)(d:yZz.den):=(vB (f d.1.2.2.2.1.1) d.2.1) d.2.2.1 d.2.2.2.1
def PO:zU:=⟨[yZz],[(.ret,yK1)],(Int×AC),fun k d=>yR0 (Js k k) d,fun b x _ K=>K .ret (zN b yK1 (((),(x.1,()),()),(x.2,())))⟩
def PQ:zW:=⟨[],[(4,PN),(13,qVq),(9,PO)],[],false⟩
theorem vLi:zT prog 1000 0 58 (zQ (zS f189) 0) PN:=lp (A:=PQ) PN (fun d=>(vO d.2.1 (d.2.2.1,d.2.2.2.1))) yBd Az Fg (e4 Bb w5 F3 Kk) zG
theorem vZ6:zT prog 1000 0 58 (zQ (zQ (zS f189) 1) 0) qVq:=lp (A:=PQ) qVq (fun d=>(d.1.2.2.2.1.1,(vO d.2.1 (d.2.2.1,d.2.2.2.1)))) yTu Fh Fi (e4 Bb w5 F3 Kk) zG
theorem abf:zT prog 1000 0 58 (zQ (zS f189) 1) PO:=lp (A:=PQ) PO (fun d=>(d.1.2.1.1,d.2.1)) yR0 Js Fj (e4 Bb w5 F3 Kk) (qB vZ6)
def vZ1:=zJ 189 [.agg jI,.c (.dat false zH),.c .i] (.tup [(false,mm),(false,qF)]) (fun k d=>(iW (NJ k) d)) (fun x=>(x.1,x.2,()))
theorem yCo:zD prog vZ1:=fA (rs:=.tup [(false,mm),(false,qF)]) f189 PQ (fun d=>(d.1,d.2.1)) (e4 Bb w5 F3 Kk) (loopsOK_of (n:=2) (by kernel_rfl) fun i hi=>match i,hi with|0,_=>⟨PN,by kernel_rfl,vLi⟩|1,_=>⟨PO,by kernel_rfl,abf⟩|i+2,hi=>absurd hi (by omega))
def yMe:zE:=⟨[(1,.c (.dat true zH)),(6,.c (.lit (.ptr 1001000 0))),(11,.c (.lit (.osl 1001001 none))),(12,.c (.lit (.ptr 1001002 0))),(14,.c .i)],[.box true mV,.arr true zH,.box true vZ],[]⟩
def yTk:zE:=⟨[(1,.c (.dat true zH)),(6,.c (.lit (.ptr 1001000 0))),(11,.c (.lit (.osl 1001001 none))),(12,.c (.lit (.ptr 1001002 0)))],[.box true mV,.arr true zH,.box true vZ],[]⟩
def yDe (f:qYy)(d:yMe.den):=(vB (f d.1.1.1 d.1.2.2.2.2.1.1 d.2.2.1) d.2.2.2.1)
def qUy:zU:=⟨[yMe],[(.exit 0,yTk)],qR8,fun k d=>yDe (AA k k) d,fun b x _ K=>K (.exit 0) (zN b yTk (((x.1,()),(),(),(),()),((),x.2.1,(z9 x ()),())))⟩
def vCi:zW:=⟨[],[(7,qUy)],[],false⟩
theorem vI8:zT prog 1000 0 57 (zQ (zS f131) 0) qUy:=lp (A:=vCi) qUy (fun d=>(d.1.1.1,d.2.2.1,(wM d.2.2.2.1))) yDe AA Fk (e5 yCo Bb F3 qXr lu) zG
def vVy:=zJ 131 [.agg ki,.c (.dat true zH),.c .i] (.tup [(true,jA),(false,vL),(false,[.own zH])]) (fun k d=>(iW (Jt k) d)) (fun x=>(mW x ()))
theorem vNl:zD prog vVy:=fA (rs:=.tup [(true,jA),(false,vL),(false,[.own zH])]) f131 vCi (fun d=>(mn d)) (e5 yCo Bb F3 qXr lu) (qB vI8)
def vRw:=zJ 84 [.agg ki,.c (.dat true zH),.c .i,.c .bool] (.tup [(true,jA),(false,vL),(false,[.own zH])]) (fun k d=>(ly (NK k) d)) (fun x=>(mW x ()))
theorem abg:zD prog vRw:=fA (rs:=.tup [(true,jA),(false,vL),(false,[.own zH])]) f84 ⟨[],[],[],false⟩ (fun d=>(mn d)) (e2 vZ8 vNl) zG
def yCc:zE:=⟨[(0,.c (.dat false zH)),(3,.c (.lit (.osl 1001000 none))),(4,.c .i)],[.arr true qN],[(3,none,qN,false)]⟩
def yMw:zE:=⟨[(3,.c (.lit (.osl 1001000 none)))],[.arr true qN],[]⟩
def yVn (f:qOo)(d:yCc.den):=f d.1.1.1 d.1.2.2.1.1 d.2.1
def qN6:zU:=⟨[yCc],[(.exit 0,yMw)],qR5,fun k d=>yVn (IX k k) d,fun b x _ K=>K (.exit 0) (zN b yMw (((),()),(x,())))⟩
def yLv:zW:=⟨[],[(3,qN6)],[],false⟩
theorem vDg:zT prog 1000 0 39 (zQ (zS f85) 0) qN6:=lp (A:=yLv) qN6 (fun d=>d.2.1) yVn IX Et (e1 rp) zG
def vEj:=zJ 85 [.c (.dat false zH)] (.c (.own qN)) (fun k d=>M9 k d.1) (fun x=>(x,()))
theorem vY4:zD prog vEj:=fA (rs:=.c (.own qN)) f85 yLv (fun d=>d.1) (e1 rp) (qB vDg)
def abh:=zJ 43 [.agg w4,.c .bool] (.tup [(true,kC),(false,[.own qN])]) (fun k d=>(Ka (mS k) d)) (fun x=>(A7 x ()))
theorem JV:zD prog abh:=fA (rs:=.tup [(true,kC),(false,[.own qN])]) f43 ⟨[],[],[],false⟩ (fun d=>(w6 d)) (e2 abg vY4) zG
def yWa:zE:=⟨[(3,.c (.lit (.ptr 1001000 0))),(4,.c (.lit (.ptr 1001001 0))),(6,.c (.lit (.osl 1001002 none))),(7,.c (.dat true zH)),(8,.c .i)],[.box true fY,.box true fb,.arr true qN],[(6,none,qN,false)]⟩
def yYr:zE:=⟨[(3,.c (.lit (.ptr 1001000 0))),(4,.c (.lit (.ptr 1001001 0))),(6,.c (.lit (.osl 1001002 none)))],[.box true fY,.box true fb,.arr true qN],[]⟩
def yL1 (f:qUg)(d:yWa.den):=f d.1.2.2.2.1.1 d.1.2.2.2.2.1.1 (qZ d.2.1) (d.2.2.1.1,d.2.2.1.2.1,d.2.2.1.2.2.1) d.2.2.2.1
def PR:zU:=⟨[yWa],[(.exit 0,yYr)],qJ7,fun k d=>yL1 (tq k k) d,fun b x _ K=>K (.exit 0) (zN b yYr (((),(),(),()),((wA x.1 ()),(x.2.1.1,x.2.1.2.1,x.2.1.2.2,()),x.2.2,())))⟩
def yCd:zE:=⟨[(3,.c (.lit (.ptr 1001000 0))),(4,.c (.lit (.ptr 1001001 0))),(6,.c (.lit (.osl 1001002 none))),(9,.c .i)],[.box true fY,.box true fb,.arr true qN],[]⟩
def yTs:zE:=⟨[(3,.c (.lit (.ptr 1001000 0))),(4,.c (.lit (.ptr 1001001 0))),(6,.c (.lit (.osl 1001002 none)))],[.box true fY,.box true fb,.arr true qN],[]⟩
def yA8 (f:qSv)(d:yCd.den):=f d.1.2.2.2.1.1 (qZ d.2.1) (d.2.2.1.1,d.2.2.1.2.1,d.2.2.1.2.2.1) d.2.2.2.1
def PS:zU:=⟨[yCd],[(.exit 2,yTs)],qYb,fun k d=>yA8 (tt k k) d,fun b x _ K=>K (.exit 2) (zN b yTs (((),(),(),()),((wA x.1 ()),(x.2.1.1,x.2.1.2.1,x.2.1.2.2,()),x.2.2,())))⟩
def yA7:zE:=⟨[(2,.c (.lit (.ptr 1001000 0))),(3,.c (.lit (.ptr 1001001 0))),(4,.c (.lit (.ptr 1001002 0))),(6,.c (.lit (.osl 1001003 none))),(7,.c (.dat true zH)),(10,.c .i)],[.box true xe,.box true fY,.box true fb,.arr true qN],[(6,none,qN,false)]⟩
def yIj:zE:=⟨[(2,.c (.lit (.ptr 1001000 0))),(3,.c (.lit (.ptr 1001001 0))),(4,.c (.lit (.ptr 1001002 0))),(6,.c (.lit (.osl 1001003 none)))],[.box true xe,.box true fY,.box true fb,.arr true qN],[]⟩
def yQe (f:qNe)(d:yA7.den):=f d.1.2.2.2.2.1.1 d.1.2.2.2.2.2.1.1 (yG d.2.1) (qZ d.2.2.1) (d.2.2.2.1.1,d.2.2.2.1.2.1,d.2.2.2.1.2.2.1) d.2.2.2.2.1
def PT:zU:=⟨[yA7],[(.exit 4,yIj)],qJy,fun k d=>yQe (tu k k) d,fun b x _ K=>K (.exit 4) (zN b yIj (((),(),(),(),()),((wS x.1 ()),(wA x.2.1 ()),(x.2.2.1.1,x.2.2.1.2.1,x.2.2.1.2.2,()),x.2.2.2,())))⟩
def PU:zW:=⟨[],[(8,PR),(12,PS),(18,PT)],[],true⟩
theorem vEq:zT prog 1000 0 129 (zQ (zS f41) 0) PR:=lp (A:=PU) PR (fun d=>((qZ d.2.1),(d.2.2.1.1,d.2.2.1.2.1,d.2.2.1.2.2.1),d.2.2.2.1)) yL1 tq Fo (e6 PI rp PJ lu PK JV) zG
theorem vOm:zT prog 1000 0 129 (zQ (zS f41) 1) PS:=lp (A:=PU) PS (fun d=>((qZ d.2.1),(d.2.2.1.1,d.2.2.1.2.1,d.2.2.1.2.2.1),d.2.2.2.1)) yA8 tt Fp (e6 PI rp PJ lu PK JV) zG
theorem vI0:zT prog 1000 0 129 (zQ (zS f41) 2) PT:=lp (A:=PU) PT (fun d=>((yG d.2.1),(qZ d.2.2.1),(d.2.2.2.1.1,d.2.2.2.1.2.1,d.2.2.2.1.2.2.1),d.2.2.2.2.1)) yQe tu Fq (e6 PI rp PJ lu PK JV) zG
def vFt:=zJ 41 [.agg FO,.agg w4] (.tup [(true,kC),(false,[.own qN])]) (fun k d=>Fs k (yG d) (rf d)) (fun x=>(wA x.1 (x.2,())))
theorem vSl:zD prog vFt:=fA (rs:=.tup [(true,kC),(false,[.own qN])]) f41 PU (fun d=>((qZ d),d.2.2.2.2.2.2.2.2.2.2.2.1)) (e6 PI rp PJ lu PK JV) (loopsOK_of (n:=3) (by kernel_rfl) fun i hi=>match i,hi with|0,_=>⟨PR,by kernel_rfl,vEq⟩|1,_=>⟨PS,by kernel_rfl,vOm⟩|2,_=>⟨PT,by kernel_rfl,vI0⟩|i+3,hi=>absurd hi (by omega))
def vL8:=zJ 117 [.ptr yNt,.c .i] (.c .i) (fun k d=>tl k (Pd d) d.2.2.2.2.2.2.2.2.2.2.2.2.2.2.2.2.2.2.2.1) (fun x=>(x,()))
theorem Wy:zD prog vL8:=fA (rs:=.c .i) f117 n0 (fun d=>d.1) e0 zG
def vQ2:=zJ 124 [.agg iU,.c .i,.c .i] (.c .i) (fun k d=>E2 k (yG d) d.2.2.2.2.2.1 d.2.2.2.2.2.2.1) (fun x=>(x,()))
theorem yO3:zD prog vQ2:=fA (rs:=.c .i) f124 n0 (fun d=>d.1) e0 zG
def vXf:=zJ 118 [.agg iU,.c .i,.agg vE] (.c .i) (fun k d=>Av k (yG d) d.2.2.2.2.2.1 (Y1 d)) (fun x=>(x,()))
theorem vQp:zD prog vXf:=fA (rs:=.c .i) f118 n0 (fun d=>d.1) (e1 yO3) zG
def yVd:zE:=⟨[(0,.c (.dat false .i)),(1,.c .i),(5,.c .i)],[],[]⟩
def yGd:zE:=⟨[],[],[]⟩
def yMv:zE:=⟨[(4,.c .bool)],[],[]⟩
def vB2 (f:qL0)(d:yVd.den):=f d.1.1.1 d.1.2.1.1 d.1.2.2.1.1
def qK7:zU:=⟨[yVd],[(.exit 0,yGd),(.ret,yMv)],(Unit⊕Bool),fun k d=>vB2 (ES k k) d,fun b x _ K=>match x with|.inl x=>K (.exit 0) (zN b yGd ((),()))|.inr x=>K .ret (zN b yMv (((x,()),()),()))⟩
def yKw:zW:=⟨[],[(2,qK7)],[],true⟩
theorem vE8:zT prog 1000 0 18 (zQ (zS f179) 0) qK7:=lp (A:=yKw) qK7 (fun d=>match d with|.inl d=>.inl ()|.inr d=>.inr d.1.1.1) vB2 ES ET e0 zG
def vRh:=zJ 179 [.c (.dat false .i),.c .i] (.c .bool) (fun k d=>Nu k d.1 d.2.1) (fun x=>(x,()))
theorem yYk:zD prog vRh:=fA (rs:=.c .bool) f179 yKw (fun d=>d.1) e0 (qB vE8)
def yH5:zE:=⟨[(0,.c (.dat true .i)),(1,.c .i),(6,.c .i)],[],[]⟩
def vBi:zE:=⟨[(0,.c (.dat true .i)),(1,.c .i),(6,.c .i)],[],[]⟩
def yBt (f:qZg)(d:yH5.den):=f d.1.1.1 d.1.2.1.1 d.1.2.2.1.1
def qK3:zU:=⟨[yH5],[(.exit 0,vBi)],(AC×Int×Int),fun k d=>yBt (Jg k k) d,fun b x _ K=>K (.exit 0) (zN b vBi (((x.1,()),(x.2.1,()),(x.2.2,()),()),()))⟩
def yXi:zW:=⟨[],[(6,qK3)],[],true⟩
theorem abi:zT prog 1000 0 41 (zQ (zS f119) 0) qK3:=lp (A:=yXi) qK3 (fun d=>(d.1.1.1,d.1.2.1.1,d.1.2.2.1.1)) yBt Jg EU (e1 yYk) zG
def abj:=zJ 119 [.c (.dat true .i),.c .i] (.tup [(false,[.fro .i]),(false,qF)]) (fun k d=>zz k d.1 d.2.1) (fun x=>(x.1,x.2,()))
theorem vNg:zD prog abj:=fA (rs:=.tup [(false,[.fro .i]),(false,qF)]) f119 yXi (fun d=>(d.1,d.2.1)) (e1 yYk) (qB abi)
def vIm:=zJ 182 [.agg vE,.agg vE] (.c .bool) (fun k d=>(FW (Ja k) d)) (fun x=>(x,()))
theorem PV:zD prog vIm:=fA (rs:=.c .bool) f182 ⟨[],[],[],false⟩ (fun d=>d.1) e0 zG
def yQz:zE:=⟨[(0,.c (.dat false zH)),(3,.c (.lit (.ptr 1001000 0))),(5,.c .i)],[.box true vU],[]⟩
def yC0:zE:=⟨[(5,.c .i)],[],[]⟩
def yYf (f:qHu)(d:yQz.den):=(ly (f d.1.1.1 d.1.2.2.1.1) d.2.1)
def qYe:zU:=⟨[yQz],[(.exit 0,yC0)],Int,fun k d=>yYf (EN k k) d,fun b x _ K=>K (.exit 0) (zN b yC0 (((x,()),()),()))⟩
def yG7:zW:=⟨[],[(2,qYe)],[],false⟩
theorem abk:zT prog 1000 0 21 (zQ (zS f181) 0) qYe:=lp (A:=yG7) qYe (fun d=>d.1.1.1) yYf EN EO (e1 PV) zG
def vS8:=zJ 181 [.c (.dat false zH),.agg vE] (.c .i) (fun k d=>(lv (EM k) d)) (fun x=>(x,()))
theorem Wv:zD prog vS8:=fA (rs:=.c .i) f181 yG7 (fun d=>d.1) (e1 PV) (qB abk)
def vHx:=zJ 180 [.c (.dat false zH),.c .i,.agg vE] (.c (.own zH)) (fun k d=>(O7 (zx k) d)) (fun x=>(x,()))
theorem JS:zD prog vHx:=fA (rs:=.c (.own zH)) f180 ⟨[],[],[],false⟩ (fun d=>d.1) e0 zG
def vW9:=zJ 120 [.c (.dat true zH),.agg vE] (.tup [(false,vL),(false,qF)]) (fun k d=>(lv (zy k) d)) (fun x=>(x.1,x.2,()))
theorem abl:zD prog vW9:=fA (rs:=.tup [(false,vL),(false,qF)]) f120 ⟨[],[],[],false⟩ (fun d=>(d.1,d.2.1)) (e3 Ot Wv JS) zG
def vFd:=yK 78 [.ptr true A3,.agg JT] (.c .i) [mj] 0 (fun k d=>NA k (yD d d.2.2.2.2.2.2.2.2.2.2.2.2.2.2.2.2.2.2.1) (vR9 d)) (fun x=>(x.1,(wx x.2 ())))
theorem vQ3:zD prog vFd:=fX (rs:=.c .i) (os:=[mj]) (ns:=0) f78 n0 1 (fun d=>(d.1,(A4 d))) (e4 Wy vQp vNg abl) zG
def abm:=zJ 121 [.ptr yNt,.c .i] (.tup [(true,fc),(false,[.bool])]) (fun k d=>vCq k (Pd d) d.2.2.2.2.2.2.2.2.2.2.2.2.2.2.2.2.2.2.2.1) (fun x=>(eX x.1 (x.2,())))
theorem vXk:zD prog abm:=fA (rs:=.tup [(true,fc),(false,[.bool])]) f121 n0 (fun d=>((vJ d),d.2.2.2.2.2.2.2.1)) (e1 Ot) zG
def yNp:zE:=⟨[(6,.c (.dat true zH)),(7,.c (.lit (.ptr 1001000 0))),(9,.c .i)],[.box true vU],[]⟩
def yO7:zE:=⟨[(6,.c (.dat true zH)),(7,.c (.lit (.ptr 1001000 0))),(9,.c .i)],[.box true vU],[]⟩
def qZt (f:qWm)(d:yNp.den):=f d.1.1.1 d.1.2.2.1.1 (vJ d.2.1)
def qLd:zU:=⟨[yNp],[(.exit 0,yO7)],qJ2,fun k d=>qZt (EP k k) d,fun b x _ K=>K (.exit 0) (zN b yO7 (((x.1,()),(),(x.2.1,()),()),((eX x.2.2 ()),())))⟩
def yK2:zW:=⟨[],[(5,qLd)],[],true⟩
theorem vWl:zT prog 1000 0 40 (zQ (zS f122) 0) qLd:=lp (A:=yK2) qLd (fun d=>(d.1.1.1,d.1.2.2.1.1,(vJ d.2.1))) qZt EP ER (e3 lu PV JS) zG
def vZk:=zJ 122 [.c (.dat true zH),.c .i] (.tup [(false,vL),(false,qF)]) (fun k d=>Je k d.1 d.2.1) (fun x=>(x.1,x.2,()))
theorem Wx:zD prog vZk:=fA (rs:=.tup [(false,vL),(false,qF)]) f122 yK2 (fun d=>(d.1,d.2.1)) (e3 lu PV JS) (qB vWl)
end
end Go.Ab.Gi
