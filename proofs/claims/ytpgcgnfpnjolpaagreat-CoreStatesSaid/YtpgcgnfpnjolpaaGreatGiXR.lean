/- part 72 -/
import Derived.Test.YtpgcgnfpnjolpaaGreatGiXS
import Derived.Test.YtpgcgnfpnjolpaaGreatGiAbE
import Derived.Test.YtpgcgnfpnjolpaaGreatProg
set_option linter.unusedVariables false
set_option maxRecDepth 100000
set_option maxHeartbeats 4000000
namespace Go.Ab.Gi
open Go.RowKit Go.Lib Go.Proofs Go.Proofs.Tryz
noncomputable section
theorem fl:prog.follows .mixedOrders=true:=by kernel_rfl
abbrev n0:zY:=⟨[],[],[],true⟩
theorem e0:wY ⟨prog,fun _=>false,jP []⟩:=mT (l:=[]) fl trivial
theorem e1 {a0}(h0:zD prog a0):wY ⟨prog,fun _=>false,jP [a0]⟩:=mT (l:=[a0]) fl ⟨h0,trivial⟩
theorem e2 {a0 a1}(h0:zD prog a0)(h1:zD prog a1):wY ⟨prog,fun _=>false,jP [a0,a1]⟩:=mT (l:=[a0,a1]) fl ⟨h0,h1,trivial⟩
theorem e3 {a0 a1 a2}(h0:zD prog a0)(h1:zD prog a1)(h2:zD prog a2):wY ⟨prog,fun _=>false,jP [a0,a1,a2]⟩:=mT (l:=[a0,a1,a2]) fl ⟨h0,h1,h2,trivial⟩
theorem e4 {a0 a1 a2 a3}(h0:zD prog a0)(h1:zD prog a1)(h2:zD prog a2)(h3:zD prog a3):wY ⟨prog,fun _=>false,jP [a0,a1,a2,a3]⟩:=mT (l:=[a0,a1,a2,a3]) fl ⟨h0,h1,h2,h3,trivial⟩
theorem e5 {a0 a1 a2 a3 a4}(h0:zD prog a0)(h1:zD prog a1)(h2:zD prog a2)(h3:zD prog a3)(h4:zD prog a4):wY ⟨prog,fun _=>false,jP [a0,a1,a2,a3,a4]⟩:=mT (l:=[a0,a1,a2,a3,a4]) fl ⟨h0,h1,h2,h3,h4,trivial⟩
theorem e6 {a0 a1 a2 a3 a4 a5}(h0:zD prog a0)(h1:zD prog a1)(h2:zD prog a2)(h3:zD prog a3)(h4:zD prog a4)(h5:zD prog a5):wY ⟨prog,fun _=>false,jP [a0,a1,a2,a3,a4,a5]⟩:=mT (l:=[a0,a1,a2,a3,a4,a5]) fl ⟨h0,h1,h2,h3,h4,h5,trivial⟩
theorem e7 {a0 a1 a2 a3 a4 a5 a6}(h0:zD prog a0)(h1:zD prog a1)(h2:zD prog a2)(h3:zD prog a3)(h4:zD prog a4)(h5:zD prog a5)(h6:zD prog a6):wY ⟨prog,fun _=>false,jP [a0,a1,a2,a3,a4,a5,a6]⟩:=mT (l:=[a0,a1,a2,a3,a4,a5,a6]) fl ⟨h0,h1,h2,h3,h4,h5,h6,trivial⟩
theorem e8 {a0 a1 a2 a3 a4 a5 a6 a7}(h0:zD prog a0)(h1:zD prog a1)(h2:zD prog a2)(h3:zD prog a3)(h4:zD prog a4)(h5:zD prog a5)(h6:zD prog a6)(h7:zD prog a7):wY ⟨prog,fun _=>false,jP [a0,a1,a2,a3,a4,a5,a6,a7]⟩:=mT (l:=[a0,a1,a2,a3,a4,a5,a6,a7]) fl ⟨h0,h1,h2,h3,h4,h5,h6,h7,trivial⟩
theorem e9 {a0 a1 a2 a3 a4 a5 a6 a7 a8}(h0:zD prog a0)(h1:zD prog a1)(h2:zD prog a2)(h3:zD prog a3)(h4:zD prog a4)(h5:zD prog a5)(h6:zD prog a6)(h7:zD prog a7)(h8:zD prog a8):wY ⟨prog,fun _=>false,jP [a0,a1,a2,a3,a4,a5,a6,a7,a8]⟩:=mT (l:=[a0,a1,a2,a3,a4,a5,a6,a7,a8]) fl ⟨h0,h1,h2,h3,h4,h5,h6,h7,h8,trivial⟩
def R0q:=zJ 5 [.agg fM,.agg kO] (.c .bool) (fun k d=>L8 k (qZ d) (mo d)) (fun x=>(x,())) (fun d=>d.1)
theorem F0q:zD prog R0q:=fA f5 n0 e0 loops0
def R1q:=zJ 15 [.c .i,.c .i,.c .i] (.c .bool) (fun k d=>tU k d.1 d.2.1 d.2.2.1) (fun x=>(x,())) (fun d=>d.1)
theorem F1q:zD prog R1q:=fA f15 n0 e0 loops0
def yD2:zE:=sp [sP 1 0,sI 3] [oB iI]
def yG5:zE:=sp [sP 1 0] [oB iI]
def yEt:zE:=sp [(2,.c .bool)] []
def qW5 (f:R9)(d:yD2.den):=f d.1.2.1.1 (qZ d.2.1)
def Sa:zX:=⟨[yD2],[(.exit 0,yG5),(.ret,yEt)],Sb,fun k d=>qW5 (xF k k) d,fun b x _ K=>match x with|.inl x=>K (.exit 0) (zL b yG5 (((),()),((jZ x ()),())))|.inr x=>K .ret (zL b yEt (((x,()),()),()))⟩
def A2q:zY:=⟨[],[(4,Sa)],[],true⟩
theorem vJe:zU prog 1000 0 58 (zO (zS f6) 0) Sa:=lp (A:=A2q) Sa (fun d=>match d with|.inl d=>.inl (qZ d.2.1)|.inr d=>.inr d.1.1.1) qW5 xF DO (e1 F1q) loops0
def R2q:=zJ 6 [.agg fM] (.c .bool) (fun k d=>L7 k (qZ d)) (fun x=>(x,())) (fun d=>d.1)
theorem F2q:zD prog R2q:=fA f6 A2q (e1 F1q) (qC vJe)
def R3q:=zJ 16 [.c .i,.c .i,.c .i] (.c .bool) (fun k d=>yW k d.1 d.2.1 d.2.2.1) (fun x=>(x,())) (fun d=>d.1)
theorem fN:zD prog R3q:=fA f16 n0 e0 loops0
def R4q:=zJ 48 [.agg lC] (.c .bool) (fun k d=>JV k d.1 d.2.1 d.2.2.1) (fun x=>(x,())) (fun d=>d.1)
theorem F4q:zD prog R4q:=fA f48 ⟨[],[],[],false⟩ e0 loops0
def R5q:=zJ 47 [.agg lC] (.c .bool) (fun k d=>P7 k d.1 d.2.1 d.2.2.1) (fun x=>(x,())) (fun d=>d.1)
theorem F5q:zD prog R5q:=fA f47 ⟨[],[],[],false⟩ (e1 F4q) loops0
def qTz:zE:=sp [(0,.c (.dat false yD)),(1,.c (.lit (.fn 47 []))),sI 7,sI 8] []
def qVj:zE:=sp [] []
def yId:zE:=sp [sI 4] []
def yEs (f:Sc)(d:qTz.den):=f d.1.1.1 d.1.2.2.1.1 d.1.2.2.2.1.1
def Sd:zX:=⟨[qTz],[(.exit 0,qVj),(.ret,yId)],(Unit⊕Int),fun k d=>yEs (Fy k k) d,fun b x _ K=>match x with|.inl x=>K (.exit 0) (zL b qVj ((),()))|.inr x=>K .ret (zL b yId (((x,()),()),()))⟩
def A6q:zY:=⟨[],[(2,Sd)],[],false⟩
theorem yXl:zU prog 1000 0 19 (zO (zS f110) 0) Sd:=lp (A:=A6q) Sd (fun d=>match d with|.inl d=>.inl ()|.inr d=>.inr d.1.1.1) yEs Fy AE (e1 F5q) loops0
def R6q:=zJ 110 [.c (.dat false yD),.c (.fn 47)] (.c .i) (fun k d=>P8 k d.1) (fun x=>(x,())) (fun d=>d.1)
theorem F6q:zD prog R6q:=fA f110 A6q (e1 F5q) (qC yXl)
def R7q:=zJ 49 [.c (.dat false yD),.c (.fn 47)] (.c .bool) (fun k d=>JX k d.1) (fun x=>(x,())) (fun d=>d.1)
theorem F7q:zD prog R7q:=fA f49 ⟨[],[],[],false⟩ (e1 F6q) loops0
def R8q:=zJ 51 [.c .i] (.c .bool) (fun k d=>P5 k d.1) (fun x=>(x,())) (fun d=>d.1)
theorem F8q:zD prog R8q:=fA f51 ⟨[],[],[],false⟩ e0 loops0
def R9q:=zJ 111 [.c .i,.ptr [.fn 51]] (.c .bool) (fun k d=>P9 k d.1) (fun x=>(x,())) (fun d=>d.1)
theorem F9q:zD prog R9q:=fA f111 ⟨[],[],[],false⟩ (e1 F8q) loops0
def yMc:zE:=sp [(0,.c (.dat false .i)),(1,.c (.lit (.fn 111 [1001000]))),sI 7,sI 8] [.robox [.lit (.fn 51 [])]]
def yP5 (f:Se)(d:yMc.den):=f d.1.1.1 d.1.2.2.1.1 d.1.2.2.2.1.1
def Sf:zX:=⟨[yMc],[(.exit 0,qVj),(.ret,yId)],(Unit⊕Int),fun k d=>yP5 (Fz k k) d,fun b x _ K=>match x with|.inl x=>K (.exit 0) (zL b qVj ((),()))|.inr x=>K .ret (zL b yId (((x,()),()),()))⟩
def ySe:zY:=⟨[],[(2,Sf)],[],false⟩
theorem yT7:zU prog 1000 0 19 (zO (zS f112) 0) Sf:=lp (A:=ySe) Sf (fun d=>match d with|.inl d=>.inl ()|.inr d=>.inr d.1.1.1) yP5 Fz AF (e1 F9q) loops0
def vIn:=zJ 112 [.c (.dat false .i),.fn 111 [[.fn 51]]] (.c .i) (fun k d=>Qa k d.1) (fun x=>(x,())) (fun d=>d.1)
theorem yYw:zD prog vIn:=fA f112 ySe (e1 F9q) (qC yT7)
def vO6:=zJ 55 [.c (.dat false .i),.fn 111 [[.fn 51]]] (.c .bool) (fun k d=>JY k d.1) (fun x=>(x,())) (fun d=>d.1)
theorem vPa:zD prog vO6:=fA f55 ⟨[],[],[],false⟩ (e1 yYw) loops0
def vE9:=zJ 52 [.c (.dat false .i),.c .i,.c (.fn 51)] (.c .bool) (fun k d=>FB k d.1 d.2.1) (fun x=>(x,())) (fun d=>d.1)
theorem Sg:zD prog vE9:=fA f52 ⟨[],[],[],false⟩ (e1 vPa) loops0
def yN4:zE:=sp [sI 1,(2,.c (.lit (.fn 51 []))),(13,.c (.dat false (.sl .i))),sI 14,sI 15] []
def yG6:zE:=sp [(6,.c .bool)] []
def yPk (f:Sh)(d:yN4.den):=f d.1.1.1 d.1.2.2.1.1 d.1.2.2.2.1.1 d.1.2.2.2.2.1.1
def Si:zX:=⟨[yN4],[(.exit 0,qVj),(.ret,yG6)],(Unit⊕Bool),fun k d=>yPk (FC k k) d,fun b x _ K=>match x with|.inl x=>K (.exit 0) (zL b qVj ((),()))|.inr x=>K .ret (zL b yG6 (((x,()),()),()))⟩
def yDe:zY:=⟨[],[(4,Si)],[],false⟩
theorem vP2:zU prog 1000 0 25 (zO (zS f50) 0) Si:=lp (A:=yDe) Si (fun d=>match d with|.inl d=>.inl ()|.inr d=>.inr d.1.1.1) yPk FC AH (e1 Sg) loops0
def vFc:=zJ 50 [.c (.dat false (.sl .i)),.c .i,.c (.fn 51)] (.c .bool) (fun k d=>J1 k d.1 d.2.1) (fun x=>(x,())) (fun d=>d.1)
theorem vG6:zD prog vFc:=fA f50 yDe (e1 Sg) (qC vP2)
def vMc:=zJ 53 [.c .i] (.c .bool) (fun k d=>JW k d.1) (fun x=>(x,())) (fun d=>d.1)
theorem yXj:zD prog vMc:=fA f53 ⟨[],[],[],false⟩ e0 loops0
def vPp:=zJ 111 [.c .i,.ptr [.fn 53]] (.c .bool) (fun k d=>Qb k d.1) (fun x=>(x,())) (fun d=>d.1)
theorem qU1:zD prog vPp:=fA f111 ⟨[],[],[],false⟩ (e1 yXj) loops0
def yLv:zE:=sp [(0,.c (.dat false .i)),(1,.c (.lit (.fn 111 [1001000]))),sI 7,sI 8] [.robox [.lit (.fn 53 [])]]
def qVa (f:Se)(d:yLv.den):=f d.1.1.1 d.1.2.2.1.1 d.1.2.2.2.1.1
def Sk:zX:=⟨[yLv],[(.exit 0,qVj),(.ret,yId)],(Unit⊕Int),fun k d=>qVa (FA k k) d,fun b x _ K=>match x with|.inl x=>K (.exit 0) (zL b qVj ((),()))|.inr x=>K .ret (zL b yId (((x,()),()),()))⟩
def qWs:zY:=⟨[],[(2,Sk)],[],false⟩
theorem vI6:zU prog 1000 0 19 (zO (zS f112) 0) Sk:=lp (A:=qWs) Sk (fun d=>match d with|.inl d=>.inl ()|.inr d=>.inr d.1.1.1) qVa FA AG (e1 qU1) loops0
def vEu:=zJ 112 [.c (.dat false .i),.fn 111 [[.fn 53]]] (.c .i) (fun k d=>Qc k d.1) (fun x=>(x,())) (fun d=>d.1)
theorem vOf:zD prog vEu:=fA f112 qWs (e1 qU1) (qC vI6)
def vO1:=zJ 55 [.c (.dat false .i),.fn 111 [[.fn 53]]] (.c .bool) (fun k d=>JZ k d.1) (fun x=>(x,())) (fun d=>d.1)
theorem vOm:zD prog vO1:=fA f55 ⟨[],[],[],false⟩ (e1 vOf) loops0
def vLc:=zJ 52 [.c (.dat false .i),.c .i,.c (.fn 53)] (.c .bool) (fun k d=>J0 k d.1 d.2.1) (fun x=>(x,())) (fun d=>d.1)
theorem qW6:zD prog vLc:=fA f52 ⟨[],[],[],false⟩ (e1 vOm) loops0
def yL3:zE:=sp [sI 1,(2,.c (.lit (.fn 53 []))),(13,.c (.dat false (.sl .i))),sI 14,sI 15] []
def qUr (f:Sh)(d:yL3.den):=f d.1.1.1 d.1.2.2.1.1 d.1.2.2.2.1.1 d.1.2.2.2.2.1.1
def Sm:zX:=⟨[yL3],[(.exit 0,qVj),(.ret,yG6)],(Unit⊕Bool),fun k d=>qUr (FD k k) d,fun b x _ K=>match x with|.inl x=>K (.exit 0) (zL b qVj ((),()))|.inr x=>K .ret (zL b yG6 (((x,()),()),()))⟩
def yK4:zY:=⟨[],[(4,Sm)],[],false⟩
theorem vPq:zU prog 1000 0 25 (zO (zS f50) 0) Sm:=lp (A:=yK4) Sm (fun d=>match d with|.inl d=>.inl ()|.inr d=>.inr d.1.1.1) qUr FD AI (e1 qW6) loops0
def vCu:=zJ 50 [.c (.dat false (.sl .i)),.c .i,.c (.fn 53)] (.c .bool) (fun k d=>J2 k d.1 d.2.1) (fun x=>(x,())) (fun d=>d.1)
theorem yZy:zD prog vCu:=fA f50 yK4 (e1 qW6) (qC vPq)
def qY3:zE:=sp [(0,.c (.dat false (.sl .i))),sI 3,(7,.c (.dat false (.sl .i))),sI 8,sI 9,(14,.c (.dat false .i)),sI 15,sI 16] []
def yLy:zE:=sp [(0,.c (.dat false (.sl .i))),(7,.c (.dat false (.sl .i))),sI 8,sI 9] []
def yEz (f:Sn)(d:qY3.den):=f d.1.1.1 d.1.2.1.1 d.1.2.2.1.1 d.1.2.2.2.1.1 d.1.2.2.2.2.1.1 d.1.2.2.2.2.2.1.1 d.1.2.2.2.2.2.2.1.1 d.1.2.2.2.2.2.2.2.1.1
def So:zX:=⟨[qY3],[(.exit 2,yLy),(.ret,yEt)],Sp,fun k d=>yEz (AJ k k) d,fun b x _ K=>match x with|.inl x=>K (.exit 2) (zL b yLy (((x.1,()),(x.2.1,()),(x.2.2.1,()),(x.2.2.2,()),()),()))|.inr x=>K .ret (zL b yEt (((x,()),()),()))⟩
def qZz (f:Sq)(d:yLy.den):=f d.1.1.1 d.1.2.1.1 d.1.2.2.1.1 d.1.2.2.2.1.1
def Sr:zX:=⟨[yLy],[(.exit 0,qVj),(.ret,yEt)],(Unit⊕Bool),fun k d=>qZz (FE k k) d,fun b x _ K=>match x with|.inl x=>K (.exit 0) (zL b qVj ((),()))|.inr x=>K .ret (zL b yEt (((x,()),()),()))⟩
def Ss:zY:=⟨[],[(5,So),(2,Sr)],[],false⟩
theorem vHv:zU prog 1000 0 33 (zO (zO (zS f54) 0) 0) So:=lp (A:=Ss) So (fun d=>match d with|.inl d=>.inl (d.1.1.1,d.1.2.1.1,d.1.2.2.1.1,d.1.2.2.2.1.1)|.inr d=>.inr d.1.1.1) yEz AJ AK e0 loops0
theorem vKa:zU prog 1000 0 33 (zO (zS f54) 0) Sr:=lp (A:=Ss) Sr (fun d=>match d with|.inl d=>.inl ()|.inr d=>.inr d.1.1.1) qZz FE AL e0 (qC vHv)
def yXx:=zJ 54 [.c (.dat false (.sl .i))] (.c .bool) (fun k d=>J3 k d.1) (fun x=>(x,())) (fun d=>d.1)
theorem vMv:zD prog yXx:=fA f54 Ss e0 (qC vKa)
def yYv:=zJ 17 [.agg wN] (.c .bool) (fun k d=>(yU (v9 k) d)) (fun x=>(x,())) (fun d=>d.1)
theorem Mb:zD prog yYv:=fA f17 ⟨[],[],[],false⟩ (e5 F7q vG6 Sg yZy vMv) loops0
def vR2:=zJ 56 [.c .i] (.c .bool) (fun k d=>R1 k d.1) (fun x=>(x,())) (fun d=>d.1)
theorem qYg:zD prog vR2:=fA f56 n0 (e1 fN) loops0
def yLb:zE:=sp [(0,.c (.dat false .i)),(1,.c (.lit (.fn 56 []))),sI 7,sI 8] []
def yLc (f:Se)(d:yLb.den):=f d.1.1.1 d.1.2.2.1.1 d.1.2.2.2.1.1
def Sv:zX:=⟨[yLb],[(.exit 0,qVj),(.ret,yId)],(Unit⊕Int),fun k d=>yLc (xy k k) d,fun b x _ K=>match x with|.inl x=>K (.exit 0) (zL b qVj ((),()))|.inr x=>K .ret (zL b yId (((x,()),()),()))⟩
def qU9:zY:=⟨[],[(2,Sv)],[],false⟩
theorem vH4:zU prog 1000 0 19 (zO (zS f112) 0) Sv:=lp (A:=qU9) Sv (fun d=>match d with|.inl d=>.inl ()|.inr d=>.inr d.1.1.1) yLc xy Du (e1 qYg) loops0
def vQa:=zJ 112 [.c (.dat false .i),.c (.fn 56)] (.c .i) (fun k d=>R2 k d.1) (fun x=>(x,())) (fun d=>d.1)
theorem vPz:zD prog vQa:=fA f112 qU9 (e1 qYg) (qC vH4)
def vSc:=zJ 55 [.c (.dat false .i),.c (.fn 56)] (.c .bool) (fun k d=>HF k d.1) (fun x=>(x,())) (fun d=>d.1)
theorem yH8:zD prog vSc:=fA f55 ⟨[],[],[],false⟩ (e1 vPz) loops0
def vDx:=zJ 158 [.c .i] (.c .bool) (fun k d=>QT k d.1) (fun x=>(x,())) (fun d=>d.1)
theorem vJd:zD prog vDx:=fA f158 n0 e0 loops0
def yUz:=zJ 159 [.c (.int .u64),.c (.int .u64)] (.tup [(false,[.int .u64]),(false,[.int .u64])]) (fun k d=>Gx k d.1 d.2.1) (fun x=>(x.1,x.2,())) (fun d=>(d.1,d.2.1))
theorem vNv:zD prog yUz:=fA f159 n0 e0 loops0
def yZg:=zJ 221 [.c (.int .u64)] (.c .i) (fun k d=>yPs k d.1) (fun x=>(x,())) (fun d=>d.1)
theorem vFu:zD prog yZg:=fA f221 n0 e0 loops0
def vDm:=zJ 193 [.c (.int .u64)] (.c .i) (fun k d=>qXw k d.1) (fun x=>(x,())) (fun d=>d.1)
theorem Sw:zD prog vDm:=fA f193 n0 (e1 vFu) loops0
def yH2:zE:=sp [(2,.c (.int .u64)),(8,.c (.int .u64)),(9,.c (.int .u64)),(10,.c (.int .u64)),(11,.c (.int .u64)),(13,.c (.int .u64)),(14,.c (.int .u64)),(15,.c (.int .u64)),(16,.c (.int .u64))] []
def yHa:zE:=sp [(2,.c (.int .u64)),(8,.c (.int .u64)),(9,.c (.int .u64)),(10,.c (.int .u64)),(11,.c (.int .u64)),(13,.c (.int .u64)),(14,.c (.int .u64)),(15,.c (.int .u64))] []
def yRf (f:Sx)(d:yH2.den):=f d.1.1.1 d.1.2.1.1 d.1.2.2.1.1 d.1.2.2.2.1.1 d.1.2.2.2.2.1.1 d.1.2.2.2.2.2.1.1 d.1.2.2.2.2.2.2.1.1 d.1.2.2.2.2.2.2.2.1.1 d.1.2.2.2.2.2.2.2.2.1.1
def Md:zX:=⟨[yH2],[(.exit 0,yHa)],qP,fun k d=>yRf (Sz k k) d,fun b x _ K=>K (.exit 0) (zL b yHa (((x.1,()),(x.2.1,()),(x.2.2.1,()),(x.2.2.2.1,()),(x.2.2.2.2.1,()),(x.2.2.2.2.2.1,()),(x.2.2.2.2.2.2.1,()),(x.2.2.2.2.2.2.2,()),()),()))⟩
def yO5:zE:=sp [(2,.c (.int .u64)),(8,.c (.int .u64)),(9,.c (.int .u64)),(10,.c (.int .u64)),(14,.c (.int .u64)),(15,.c (.int .u64)),(16,.c (.int .u64)),(17,.c (.int .u64)),(18,.c (.int .u64))] []
def qUg:zE:=sp [(2,.c (.int .u64)),(8,.c (.int .u64)),(14,.c (.int .u64)),(15,.c (.int .u64)),(17,.c (.int .u64)),(18,.c (.int .u64))] []
def yQx (f:SA)(d:yO5.den):=f d.1.1.1 d.1.2.1.1 d.1.2.2.1.1 d.1.2.2.2.1.1 d.1.2.2.2.2.1.1 d.1.2.2.2.2.2.1.1 d.1.2.2.2.2.2.2.1.1 d.1.2.2.2.2.2.2.2.1.1 d.1.2.2.2.2.2.2.2.2.1.1
def Me:zX:=⟨[yO5],[(.exit 2,qUg)],Ip,fun k d=>yQx (SC k k) d,fun b x _ K=>K (.exit 2) (zL b qUg (((x.1,()),(x.2.1,()),(x.2.2.1,()),(x.2.2.2.1,()),(x.2.2.2.2.1,()),(x.2.2.2.2.2,()),()),()))⟩
def SD:zY:=⟨[],[(17,Md),(24,Me)],[],true⟩
theorem yXe:zU prog 1000 0 135 (zO (zS f160) 0) Md:=lp (A:=SD) Md (fun d=>(d.1.1.1,d.1.2.1.1,d.1.2.2.1.1,d.1.2.2.2.1.1,d.1.2.2.2.2.1.1,d.1.2.2.2.2.2.1.1,d.1.2.2.2.2.2.2.1.1,d.1.2.2.2.2.2.2.2.1.1)) yRf Sz yF9 (e1 Sw) loops0
theorem vPu:zU prog 1000 0 135 (zO (zS f160) 1) Me:=lp (A:=SD) Me (fun d=>(d.1.1.1,d.1.2.1.1,d.1.2.2.1.1,d.1.2.2.2.1.1,d.1.2.2.2.2.1.1,d.1.2.2.2.2.2.1.1)) yQx SC qU8 (e1 Sw) loops0
def vEj:=zJ 160 [.c (.int .u64),.c (.int .u64),.c (.int .u64)] (.tup [(false,[.int .u64]),(false,[.int .u64])]) (fun k d=>KP k d.1 d.2.1 d.2.2.1) (fun x=>(x.1,x.2,())) (fun d=>(d.1,d.2.1))
theorem yYk:zD prog vEj:=fA f160 SD (e1 Sw) (nV (n:=2) (by kernel_rfl) fun i hi=>match i,hi with|0,_=>⟨Md,by kernel_rfl,yXe⟩|1,_=>⟨Me,by kernel_rfl,vPu⟩|i+2,hi=>absurd hi (by omega))
def vEw:=(65,JM)
theorem SE:zD prog vEw:=vCh (fn:=f65)
def yX4:=zJ 113 [.c .i,.c .i,.c .i] (.tup [(false,vJ),(false,[.bool])]) (fun k d=>KQ k d.1 d.2.1 d.2.2.1) (fun x=>(x.1,x.2,())) (fun d=>(d.1,d.2.1))
theorem qTy:zD prog yX4:=fA f113 n0 (e4 vJd vNv yYk SE) loops0
def qWz:zE:=sp [sI 4,(5,.c (.int .u64)),(9,.c (.dat false .i)),sI 10,sI 11] []
def qUe:zE:=sp [sI 4,(5,.c (.int .u64))] []
def yB6 (f:SF)(d:qWz.den):=f d.1.1.1 d.1.2.1.1 d.1.2.2.1.1 d.1.2.2.2.1.1 d.1.2.2.2.2.1.1
def SG:zX:=⟨[qWz],[(.exit 0,qUe)],vY,fun k d=>yB6 (BQ k k) d,fun b x _ K=>K (.exit 0) (zL b qUe (((x.1,()),(x.2,()),()),()))⟩
def qYa:zY:=⟨[],[(4,SG)],[],false⟩
theorem vHc:zU prog 1000 0 37 (zO (zS f20) 0) SG:=lp (A:=qYa) SG (fun d=>(d.1.1.1,d.1.2.1.1)) yB6 BQ BR (e1 SE) loops0
def vGl:=zJ 20 [.c (.dat false .i)] (.tup [(false,vJ),(false,[.bool])]) (fun k d=>BP k d.1) (fun x=>(x.1,x.2,())) (fun d=>(d.1,d.2.1))
theorem Mh:zD prog vGl:=fA f20 qYa (e1 SE) (qC vHc)
def yI7:zE:=⟨[(1,.c (.dat false .i)),(2,.c (.dat false .i)),sO 8 0,(25,.c (.dat false jM)),sI 26,sI 27],[oA .i],[(8,none,.i,false)]⟩
def yHw:zE:=sp [sO 8 0] [oA .i]
def yEu:zE:=sp [sI 6,(7,.c .bool)] []
def yMj (f:SH)(d:yI7.den):=f d.1.1.1 d.1.2.1.1 d.1.2.2.2.1.1 d.1.2.2.2.2.1.1 d.1.2.2.2.2.2.1.1 d.2.1
def SI:zX:=⟨[yI7],[(.exit 0,yHw),(.ret,yEu)],(AC⊕wV),fun k d=>yMj (BS k k) d,fun b x _ K=>match x with|.inl x=>K (.exit 0) (zL b yHw (((),()),(x,())))|.inr x=>K .ret (zL b yEu (((x.1,()),(x.2,()),()),()))⟩
def yGn:zY:=⟨[],[(5,SI)],[],true⟩
theorem yX1:zU prog 1000 0 57 (zO (zS f57) 0) SI:=lp (A:=yGn) SI (fun d=>match d with|.inl d=>.inl d.2.1|.inr d=>.inr (d.1.1.1,d.1.2.1.1)) yMj BS BU (e2 qTy Mh) loops0
def vNq:=zJ 57 [.c (.dat false jM),.c (.dat false .i),.c (.dat false .i)] (.tup [(false,vJ),(false,[.bool])]) (fun k d=>oE k d.1 d.2.1 d.2.2.1) (fun x=>(x.1,x.2,())) (fun d=>(d.1,d.2.1))
theorem tV:zD prog vNq:=fA f57 yGn (e2 qTy Mh) (qC yX1)
def vI0:=zJ 58 [.c .i] (.c .bool) (fun k d=>R3 k d.1) (fun x=>(x,())) (fun d=>d.1)
theorem yR6:zD prog vI0:=fA f58 n0 e0 loops0
def qV3:zE:=sp [(0,.c (.dat false .i)),(1,.c (.lit (.fn 58 []))),sI 7,sI 8] []
def yRy (f:Se)(d:qV3.den):=f d.1.1.1 d.1.2.2.1.1 d.1.2.2.2.1.1
def SK:zX:=⟨[qV3],[(.exit 0,qVj),(.ret,yId)],(Unit⊕Int),fun k d=>yRy (xz k k) d,fun b x _ K=>match x with|.inl x=>K (.exit 0) (zL b qVj ((),()))|.inr x=>K .ret (zL b yId (((x,()),()),()))⟩
def yNe:zY:=⟨[],[(2,SK)],[],false⟩
theorem vEh:zU prog 1000 0 19 (zO (zS f112) 0) SK:=lp (A:=yNe) SK (fun d=>match d with|.inl d=>.inl ()|.inr d=>.inr d.1.1.1) yRy xz Dv (e1 yR6) loops0
def vN8:=zJ 112 [.c (.dat false .i),.c (.fn 58)] (.c .i) (fun k d=>R4 k d.1) (fun x=>(x,())) (fun d=>d.1)
theorem vA3:zD prog vN8:=fA f112 yNe (e1 yR6) (qC vEh)
def vLz:=zJ 55 [.c (.dat false .i),.c (.fn 58)] (.c .bool) (fun k d=>LZ k d.1) (fun x=>(x,())) (fun d=>d.1)
theorem yJz:zD prog vLz:=fA f55 ⟨[],[],[],false⟩ (e1 vA3) loops0
def yQ5:zE:=sp [sP 2 0,sP 3 1,(28,.c (.dat false (.sl .i))),sI 29,sI 30] [oB iI,oB mq]
def yAb:zE:=sp [(4,.c .bool)] []
def yFb (f:SM)(d:yQ5.den):=f d.1.2.2.1.1 d.1.2.2.2.1.1 d.1.2.2.2.2.1.1 (qZ d.2.1) (qR d.2.2.1)
def SN:zX:=⟨[yQ5],[(.exit 0,qVj),(.ret,yAb)],(Unit⊕Bool),fun k d=>yFb (tO k k) d,fun b x _ K=>match x with|.inl x=>K (.exit 0) (zL b qVj ((),()))|.inr x=>K .ret (zL b yAb (((x,()),()),()))⟩
def yQh:zY:=⟨[],[(6,SN)],[],true⟩
theorem vB3:zU prog 1000 0 66 (zO (zS f18) 0) SN:=lp (A:=yQh) SN (fun d=>match d with|.inl d=>.inl ()|.inr d=>.inr d.1.1.1) yFb tO Dw (e3 yH8 tV yJz) loops0
def vFb:=zJ 18 [.agg fM,.agg kO] (.c .bool) (fun k d=>HG k (qZ d) (mo d)) (fun x=>(x,())) (fun d=>d.1)
theorem yN0:zD prog vFb:=fA f18 yQh (e3 yH8 tV yJz) (qC vB3)
def vRp:=zJ 94 [.agg vC,.ptr [.i]] (.c .bool) (fun k d=>(ka (QJ k) d)) (fun x=>(x,())) (fun d=>d.1)
theorem yPy:zD prog vRp:=fA f94 ⟨[],[],[],false⟩ e0 loops0
def qZf:zE:=sp [(0,.c (.dat false zF)),(1,.c (.lit (.fn 94 [1001000]))),sI 7,sI 8] [.robox [.i]]
def yDn (f:SO)(d:qZf.den):=f d.1.1.1 d.1.2.2.1.1 d.1.2.2.2.1.1 d.2.1.1
def SP:zX:=⟨[qZf],[(.exit 0,qVj),(.ret,yId)],(Unit⊕Int),fun k d=>yDn (BD k k) d,fun b x _ K=>match x with|.inl x=>K (.exit 0) (zL b qVj ((),()))|.inr x=>K .ret (zL b yId (((x,()),()),()))⟩
def yCw:zY:=⟨[],[(2,SP)],[],false⟩
theorem vRt:zU prog 1000 0 19 (zO (zS f93) 0) SP:=lp (A:=yCw) SP (fun d=>match d with|.inl d=>.inl ()|.inr d=>.inr d.1.1.1) yDn BD BE (e1 yPy) loops0
def yTp:=zJ 93 [.c (.dat false zF),.fn 94 [[.i]]] (.c .i) (fun k d=>QK k d.1 d.2.1) (fun x=>(x,())) (fun d=>d.1)
theorem vPw:zD prog yTp:=fA f93 yCw (e1 yPy) (qC vRt)
def vDe:=zJ 36 [.c (.dat false zF),.c .i] (.c .i) (fun k d=>me k d.1 d.2.1) (fun x=>(x,())) (fun d=>d.1)
theorem tW:zD prog vDe:=fA f36 ⟨[],[],[],false⟩ (e1 vPw) loops0
def vM9:=zJ 195 [.c .i] (.c .bool) (fun k d=>KG k d.1) (fun x=>(x,())) (fun d=>d.1)
theorem vIq:zD prog vM9:=fA f195 ⟨[],[],[],false⟩ e0 loops0
def yS7:=zJ 164 [.c .i,.c .i] (.c .i) (fun k d=>Gp k d.1 d.2.1) (fun x=>(x,())) (fun d=>d.1)
theorem yUn:zD prog yS7:=fA f164 ⟨[],[],[],false⟩ (e1 vIq) loops0
def yS0:zE:=sp [sI 3,(6,.c (.dat false .i)),sI 7,sI 8] []
def qXo:zE:=sp [sI 3] []
def yFv:zE:=sp [sI 2] []
def yCq (f:SQ)(d:yS0.den):=f d.1.1.1 d.1.2.1.1 d.1.2.2.1.1 d.1.2.2.2.1.1
def SR:zX:=⟨[yS0],[(.exit 0,qXo),(.ret,yFv)],(Int⊕Int),fun k d=>yCq (Gn k k) d,fun b x _ K=>match x with|.inl x=>K (.exit 0) (zL b qXo (((x,()),()),()))|.inr x=>K .ret (zL b yFv (((x,()),()),()))⟩
def qVf:zY:=⟨[],[(3,SR)],[],false⟩
theorem vQf:zU prog 1000 0 18 (zO (zS f163) 0) SR:=lp (A:=qVf) SR (fun d=>match d with|.inl d=>.inl d.1.1.1|.inr d=>.inr d.1.1.1) yCq Gn yJy e0 loops0
def vQi:=zJ 163 [.c (.dat false .i)] (.c .i) (fun k d=>KF k d.1) (fun x=>(x,())) (fun d=>d.1)
theorem vOc:zD prog vQi:=fA f163 qVf e0 (qC vQf)
def yYi:=zJ 116 [.agg vC,.agg vC] (.c .i) (fun k d=>(DP (BF k) d)) (fun x=>(x,())) (fun d=>d.1)
theorem DQ:zD prog yYi:=fA f116 ⟨[],[],[],false⟩ (e2 yUn vOc) loops0
def qXp:zE:=sp [(0,.c (.dat false zF)),(1,.c (.lit (.fn 116 []))),sI 5] []
def yO1 (f:SS)(d:qXp.den):=f d.1.1.1 d.1.2.2.1.1
def SU:zX:=⟨[qXp],[(.exit 0,qVj),(.ret,yAb)],(Unit⊕Bool),fun k d=>yO1 (HA k k) d,fun b x _ K=>match x with|.inl x=>K (.exit 0) (zL b qVj ((),()))|.inr x=>K .ret (zL b yAb (((x,()),()),()))⟩
def yQd:zY:=⟨[],[(2,SU)],[],true⟩
theorem vNy:zU prog 1000 0 25 (zO (zS f115) 0) SU:=lp (A:=yQd) SU (fun d=>match d with|.inl d=>.inl ()|.inr d=>.inr d.1.1.1) yO1 HA LW (e1 DQ) loops0
def yZ1:=zJ 115 [.c (.dat false zF),.c (.fn 116)] (.c .bool) (fun k d=>LV k d.1) (fun x=>(x,())) (fun d=>d.1)
theorem yEr:zD prog yZ1:=fA f115 yQd (e1 DQ) (qC vNy)
def yAo:zE:=sp [(0,.c (.dat false zF)),(5,.c (.dat false zF)),sI 6,sI 7] []
def yDl:zE:=sp [(0,.c (.dat false zF))] []
def qYv (f:SW)(d:yAo.den):=f d.1.1.1 d.1.2.1.1 d.1.2.2.1.1 d.1.2.2.2.1.1
def SX:zX:=⟨[yAo],[(.exit 0,yDl),(.ret,yEt)],SY,fun k d=>qYv (xw k k) d,fun b x _ K=>match x with|.inl x=>K (.exit 0) (zL b yDl (((x,()),()),()))|.inr x=>K .ret (zL b yEt (((x,()),()),()))⟩
def qU5:zY:=⟨[],[(2,SX)],[],false⟩
theorem vHe:zU prog 1000 0 26 (zO (zS f62) 0) SX:=lp (A:=qU5) SX (fun d=>match d with|.inl d=>.inl d.1.1.1|.inr d=>.inr d.1.1.1) qYv xw Dr (e2 tW yEr) loops0
def vKs:=zJ 62 [.c (.dat false zF)] (.c .bool) (fun k d=>Hz k d.1) (fun x=>(x,())) (fun d=>d.1)
theorem yWm:zD prog vKs:=fA f62 qU5 (e2 tW yEr) (qC vHe)
def qYe:zE:=sp [(0,.c (.dat false .i)),sI 3,(6,.c (.dat false .i)),sI 7,sI 8] []
def qWx:zE:=sp [(0,.c (.dat false .i))] []
def yB0 (f:SZ)(d:qYe.den):=f d.1.1.1 d.1.2.1.1 d.1.2.2.1.1 d.1.2.2.2.1.1 d.1.2.2.2.2.1.1
def S0:zX:=⟨[qYe],[(.exit 0,qWx),(.ret,yEt)],(AC⊕Bool),fun k d=>yB0 (HC k k) d,fun b x _ K=>match x with|.inl x=>K (.exit 0) (zL b qWx (((x,()),()),()))|.inr x=>K .ret (zL b yEt (((x,()),()),()))⟩
def yNo:zY:=⟨[],[(3,S0)],[],true⟩
theorem yYx:zU prog 1000 0 20 (zO (zS f63) 0) S0:=lp (A:=yNo) S0 (fun d=>match d with|.inl d=>.inl d.1.1.1|.inr d=>.inr d.1.1.1) yB0 HC Ds e0 loops0
def vH5:=zJ 63 [.c (.dat false .i)] (.c .bool) (fun k d=>HB k d.1) (fun x=>(x,())) (fun d=>d.1)
theorem yYq:zD prog vH5:=fA f63 yNo e0 (qC yYx)
def vNb:=zJ 60 [.agg wN,.agg vC] (.c .bool) (fun k d=>(oO (AR k) d)) (fun x=>(x,())) (fun d=>d.1)
theorem S1:zD prog vNb:=fA f60 ⟨[],[],[],false⟩ e0 loops0
def vB2:=zJ 194 [.c .i] (.c .bool) (fun k d=>KJ k d.1) (fun x=>(x,())) (fun d=>d.1)
theorem vEi:zD prog vB2:=fA f194 n0 e0 loops0
def vHz:=zJ 161 [.c .i,.c .i] (.c .bool) (fun k d=>KI k d.1 d.2.1) (fun x=>(x,())) (fun d=>d.1)
theorem qVm:zD prog vHz:=fA f161 n0 (e1 vEi) loops0
def vMl:=zJ 162 [.c .i] (.c .bool) (fun k d=>KL k d.1) (fun x=>(x,())) (fun d=>d.1)
theorem yRw:zD prog vMl:=fA f162 n0 e0 loops0
def yBi:zE:=sp [(0,.c (.dat false .i)),sI 1,sI 6,sI 7,sI 8] []
def yMb:zE:=sp [(0,.c (.dat false .i)),sI 1,sI 6,sI 7] []
def yIr (f:S2)(d:yBi.den):=f d.1.1.1 d.1.2.1.1 d.1.2.2.1.1 d.1.2.2.2.1.1 d.1.2.2.2.2.1.1
def S3:zX:=⟨[yBi],[(.exit 0,yMb)],S4,fun k d=>yIr (Gw k k) d,fun b x _ K=>K (.exit 0) (zL b yMb (((x.1,()),(x.2.1,()),(x.2.2.1,()),(x.2.2.2,()),()),()))⟩
def ySq:zY:=⟨[],[(3,S3)],[],true⟩
theorem vDb:zU prog 1000 0 54 (zO (zS f114) 0) S3:=lp (A:=ySq) S3 (fun d=>(d.1.1.1,d.1.2.1.1,d.1.2.2.1.1,d.1.2.2.2.1.1)) yIr Gw KK (e2 qVm yRw) loops0
def vIx:=zJ 114 [.c (.dat false .i),.c .i] (.tup [(false,vJ),(false,[.bool])]) (fun k d=>BN k d.1 d.2.1) (fun x=>(x.1,x.2,())) (fun d=>(d.1,d.2.1))
theorem qYq:zD prog vIx:=fA f114 ySq (e2 qVm yRw) (qC vDb)
def vD7:=zJ 61 [.c (.dat false .i),.c .i] (.c .bool) (fun k d=>KM k d.1 d.2.1) (fun x=>(x,())) (fun d=>d.1)
theorem yTn:zD prog vD7:=fA f61 n0 (e1 qYq) loops0
def vPn:=zJ 59 [.agg vC,.ptr kO] (.c .bool) (fun k d=>LY k (wC d) (yTv d)) (fun x=>(x,())) (fun d=>d.1)
theorem ySr:zD prog vPn:=fA f59 n0 (e3 S1 fN yTn) loops0
def yC4:zE:=sp [(0,.c (.dat false zF)),(1,.c (.lit (.fn 59 [1001000]))),sI 7,sI 8] [.robox mq]
def qY9 (f:S5)(d:yC4.den):=(oO (f d.1.1.1 d.1.2.2.1.1 d.1.2.2.2.1.1) d.2.1)
def S6:zX:=⟨[yC4],[(.exit 0,qVj),(.ret,yId)],(Unit⊕Int),fun k d=>qY9 (xx k k) d,fun b x _ K=>match x with|.inl x=>K (.exit 0) (zL b qVj ((),()))|.inr x=>K .ret (zL b yId (((x,()),()),()))⟩
def ySs:zY:=⟨[],[(2,S6)],[],false⟩
theorem yUa:zU prog 1000 0 19 (zO (zS f93) 0) S6:=lp (A:=ySs) S6 (fun d=>match d with|.inl d=>.inl ()|.inr d=>.inr d.1.1.1) qY9 xx Dt (e1 ySr) loops0
def vRw:=zJ 93 [.c (.dat false zF),.fn 59 [kO]] (.c .i) (fun k d=>(HV (R0 k) d)) (fun x=>(x,())) (fun d=>d.1)
theorem vG0:zD prog vRw:=fA f93 ySs (e1 ySr) (qC yUa)
def vKb:=zJ 64 [.c (.dat false zF),.fn 59 [kO]] (.c .bool) (fun k d=>(HV (LX k) d)) (fun x=>(x,())) (fun d=>d.1)
theorem yUe:zD prog vKb:=fA f64 ⟨[],[],[],false⟩ (e1 vG0) loops0
def vRn:=zJ 19 [.agg kO] (.c .bool) (fun k d=>HD k (qR d)) (fun x=>(x,())) (fun d=>d.1)
theorem yO3:zD prog vRn:=fA f19 n0 (e3 yWm yYq yUe) loops0
def yUo:=zJ 21 [.agg fM,.c .i] (.c .bool) (fun k d=>(gU (xa k) d)) (fun x=>(x,())) (fun d=>d.1)
theorem Mi:zD prog yUo:=fA f21 ⟨[],[],[],false⟩ e0 loops0
def yC0:zE:=⟨[sP 2 0,sP 3 1,sO 5 2,(44,.c (.dat false yD)),sI 45,sI 46],[oB iI,oB mq,oA .i],[(5,none,.i,false)]⟩
def yOl:zE:=sp [sP 2 0,sP 3 1,sO 5 2] [oB iI,oB mq,oA .i]
def qZ4 (f:S7)(d:yC0.den):=f d.1.2.2.2.1.1 d.1.2.2.2.2.1.1 d.1.2.2.2.2.2.1.1 (qZ d.2.1) (qR d.2.2.1) d.2.2.2.1
def S8:zX:=⟨[yC0],[(.exit 0,yOl)],S9,fun k d=>qZ4 (Dx k k) d,fun b x _ K=>K (.exit 0) (zL b yOl (((),(),(),()),((jZ x.1 ()),(jJ x.2.1 ()),x.2.2,())))⟩
def qU6:zY:=⟨[],[(5,S8)],[],true⟩
theorem vOp:zU prog 1000 0 92 (zO (zS f7) 0) S8:=lp (A:=qU6) S8 (fun d=>((qZ d.2.1),(qR d.2.2.1),d.2.2.2.1)) qZ4 Dx Dy (e6 fN Mb yN0 yO3 Mh Mi) loops0
def qPn:=zJ 7 [.agg fM,.agg kO] (.c .bool) (fun k d=>L1 k (qZ d) (mo d)) (fun x=>(x,())) (fun d=>d.1)
theorem vSb:zD prog qPn:=fA f7 qU6 (e6 fN Mb yN0 yO3 Mh Mi) (qC vOp)
def yAf:zE:=sp [(0,.c (.dat false (.sl .i))),sI 1,sI 5] []
def qZ5 (f:Ta)(d:yAf.den):=f d.1.1.1 d.1.2.1.1 d.1.2.2.1.1
def Tb:zX:=⟨[yAf],[(.exit 0,qVj),(.ret,yAb)],(Unit⊕Bool),fun k d=>qZ5 (Fx k k) d,fun b x _ K=>match x with|.inl x=>K (.exit 0) (zL b qVj ((),()))|.inr x=>K .ret (zL b yAb (((x,()),()),()))⟩
def yB2:zY:=⟨[],[(4,Tb)],[],false⟩
theorem vKt:zU prog 1000 0 22 (zO (zS f66) 0) Tb:=lp (A:=yB2) Tb (fun d=>match d with|.inl d=>.inl ()|.inr d=>.inr d.1.1.1) qZ5 Fx Aw e0 loops0
def vOu:=zJ 66 [.c (.dat false (.sl .i)),.c .i] (.c .bool) (fun k d=>Fw k d.1 d.2.1) (fun x=>(x,())) (fun d=>d.1)
theorem Tc:zD prog vOu:=fA f66 yB2 e0 (qC vKt)
def yXh:=zJ 67 [.agg lC] (.c .bool) (fun k d=>Fu k d.1 d.2.1 d.2.2.1) (fun x=>(x,())) (fun d=>d.1)
theorem Mj:zD prog yXh:=fA f67 ⟨[],[],[],false⟩ e0 loops0
def vJ1:=zJ 68 [.c .i] (.c .bool) (fun k d=>Fv k d.1) (fun x=>(x,())) (fun d=>d.1)
theorem Td:zD prog vJ1:=fA f68 ⟨[],[],[],false⟩ e0 loops0
def yC8:zE:=sp [sP 1 0,sI 3,sI 4,sI 5] [oB wU]
def yCd:zE:=sp [sP 1 0,sI 3,sI 4] [oB wU]
def yM9 (f:Te)(d:yC8.den):=(yU (f d.1.2.1.1 d.1.2.2.1.1 d.1.2.2.2.1.1) d.2.1)
def Tf:zX:=⟨[yC8],[(.exit 2,yCd),(.ret,yEt)],Tg,fun k d=>yM9 (Ax k k) d,fun b x _ K=>match x with|.inl x=>K (.exit 2) (zL b yCd (((),(x.1,()),(x.2.1,()),()),((xj x ()),())))|.inr x=>K .ret (zL b yEt (((x,()),()),()))⟩
def yO2 (f:Th)(d:yCd.den):=(yU (f d.1.2.1.1 d.1.2.2.1.1) d.2.1)
def Ti:zX:=⟨[yCd],[(.exit 0,qVj),(.ret,yEt)],(Unit⊕Bool),fun k d=>yO2 (Az k k) d,fun b x _ K=>match x with|.inl x=>K (.exit 0) (zL b qVj ((),()))|.inr x=>K .ret (zL b yEt (((x,()),()),()))⟩
def Tj:zY:=⟨[],[(10,Tf),(5,Ti)],[],false⟩
theorem vRk:zU prog 1000 0 114 (zO (zO (zS f22) 0) 0) Tf:=lp (A:=Tj) Tf (fun d=>match d with|.inl d=>.inl (d.1.2.1.1,d.1.2.2.1.1,(rp d.2.1))|.inr d=>.inr d.1.1.1) yM9 Ax Ay (e3 Tc Mj Td) loops0
theorem vE2:zU prog 1000 0 114 (zO (zS f22) 0) Ti:=lp (A:=Tj) Ti (fun d=>match d with|.inl d=>.inl ()|.inr d=>.inr d.1.1.1) yO2 Az AA (e3 Tc Mj Td) (qC vRk)
def yY7:=zJ 22 [.agg wN] (.c .bool) (fun k d=>(yU (AB k) d)) (fun x=>(x,())) (fun d=>d.1)
theorem HW:zD prog yY7:=fA f22 Tj (e3 Tc Mj Td) (qC vE2)
def vHo:=zJ 196 [.c .i] (.c (.own .i)) (fun k d=>Lk k d.1) (fun x=>(x,())) (fun d=>d.1)
theorem Tk:zD prog vHo:=fA f196 n0 e0 loops0
def yRh:zE:=sp [sO 0 0,sI 3] [oA .i]
def yRo:zE:=sp [sO 0 0] [oA .i]
def yOa (f:Int→AC→Option AC)(d:yRh.den):=f d.1.2.1.1 d.2.1
def Tl:zX:=⟨[yRh],[(.exit 0,yRo)],AC,fun k d=>yOa (Tm k k) d,fun b x _ K=>K (.exit 0) (zL b yRo (((),()),(x,())))⟩
def ySa:zY:=⟨[],[(2,Tl)],[],true⟩
theorem yWl:zU prog 1000 0 35 (zO (zS f197) 0) Tl:=lp (A:=ySa) Tl (fun d=>d.2.1) yOa Tm yNg e0 loops0
def vFg:=vX 197 [.c (.own .i)] (.c (.own .i)) [] 0 (fun k d=>CA k d.1) (fun x=>(x,())) (fun d=>d.1)
theorem HX:zD prog vFg:=fX f197 ySa 0 e0 (qC yWl)
def yLg:zE:=sp [sI 1,sO 5 0,sO 6 1,sI 7,sI 8] [oA .i,oA .i]
def yH1:zE:=sp [sI 1,sO 5 0,sO 6 1,sI 7] [oA .i,oA .i]
def yK2 (f:Tn)(d:yLg.den):=f d.1.1.1 d.1.2.2.2.1.1 d.1.2.2.2.2.1.1 d.2.1 d.2.2.1
def To:zX:=⟨[yLg],[(.exit 2,yH1)],Tp,fun k d=>yK2 (Tq k k) d,fun b x _ K=>K (.exit 2) (zL b yH1 (((x.1,()),(),(),(x.2.1,()),()),(x.2.2.1,x.2.2.2,())))⟩
def yGp:zE:=sp [sO 6 0] [oA .i]
def qWw (f:Ts)(d:yH1.den):=f d.1.1.1 d.1.2.2.2.1.1 d.2.1 d.2.2.1
def Tt:zX:=⟨[yH1],[(.exit 0,yGp)],AC,fun k d=>qWw (Lh k k) d,fun b x _ K=>K (.exit 0) (zL b yGp (((),()),(x,())))⟩
def Tu:zY:=⟨[],[(7,To),(4,Tt)],[],true⟩
theorem yS8:zU prog 1000 0 47 (zO (zO (zS f165) 0) 0) To:=lp (A:=Tu) To (fun d=>(d.1.1.1,d.1.2.2.2.1.1,d.2.1,d.2.2.1)) yK2 Tq yAk (e2 Tk HX) loops0
theorem vBd:zU prog 1000 0 47 (zO (zS f165) 0) Tt:=lp (A:=Tu) Tt (fun d=>d.2.1) qWw Lh yMy (e2 Tk HX) (qC yS8)
def yUy:=zJ 165 [.c .i,.c .i] (.c (.own .i)) (fun k d=>Lj k d.1 d.2.1) (fun x=>(x,())) (fun d=>d.1)
theorem vEe:zD prog yUy:=fA f165 Tu (e2 Tk HX) (qC vBd)
def qUv:zE:=sp [sO 0 0,sI 1,sI 5] [oA .i]
def yDj (f:Int→Int→AC→Option AC)(d:qUv.den):=f d.1.2.1.1 d.1.2.2.1.1 d.2.1
def Tv:zX:=⟨[qUv],[(.exit 0,yRo)],AC,fun k d=>yDj (Lf k k) d,fun b x _ K=>K (.exit 0) (zL b yRo (((),()),(x,())))⟩
def yRe:zY:=⟨[],[(2,Tv)],[],true⟩
theorem vAu:zU prog 1000 0 23 (zO (zS f166) 0) Tv:=lp (A:=yRe) Tv (fun d=>d.2.1) yDj Lf yHb (e1 HX) loops0
def vGa:=vX 166 [.c (.own .i),.c (.p .i)] (.c (.own .i)) [] 0 (fun k d=>Le k d.1 d.2.1) (fun x=>(x,())) (fun d=>d.1)
theorem yW6:zD prog vGa:=fX f166 yRe 0 (e1 HX) (qC vAu)
def yDp:zE:=sp [sO 0 0,sI 1,sI 6,sI 7] [oA .i]
def qXz (f:Tw)(d:yDp.den):=f d.1.2.1.1 d.1.2.2.1.1 d.1.2.2.2.1.1 d.2.1
def Mk:zX:=⟨[yDp],[(.exit 0,yRo)],AC,fun k d=>qXz (G0 k k) d,fun b x _ K=>K (.exit 0) (zL b yRo (((),()),(x,())))⟩
def yD8:zE:=sp [sO 0 0,sI 9] [oA .i]
def yFk:zE:=sp [sI 4,(5,.c .bool)] []
def yIy (f:Tx)(d:yD8.den):=f d.1.2.1.1 d.2.1
def Mm:zX:=⟨[yD8],[(.exit 2,yRo),(.ret,yFk)],(AC⊕wV),fun k d=>yIy (CB k k) d,fun b x _ K=>match x with|.inl x=>K (.exit 2) (zL b yRo (((),()),(x,())))|.inr x=>K .ret (zL b yFk (((x.1,()),(x.2,()),()),()))⟩
def Tz:zY:=⟨[],[(3,Mk),(9,Mm)],[],true⟩
theorem yUx:zU prog 1000 0 66 (zO (zS f167) 0) Mk:=lp (A:=Tz) Mk (fun d=>d.2.1) qXz G0 qYz e0 loops0
theorem vHx:zU prog 1000 0 66 (zO (zS f167) 1) Mm:=lp (A:=Tz) Mm (fun d=>match d with|.inl d=>.inl d.2.1|.inr d=>.inr (d.1.1.1,d.1.2.1.1)) yIy CB qV0 e0 loops0
def vR9:=vX 167 [.c (.own .i),.c (.p .i)] (.tup [(false,vJ),(false,[.bool])]) [] 0 (fun k d=>Lg k d.1 d.2.1) (fun x=>(x.1,x.2,())) (fun d=>(d.1,d.2.1))
theorem vGv:zD prog vR9:=fX f167 Tz 0 e0 (nV (n:=2) (by kernel_rfl) fun i hi=>match i,hi with|0,_=>⟨Mk,by kernel_rfl,yUx⟩|1,_=>⟨Mm,by kernel_rfl,vHx⟩|i+2,hi=>absurd hi (by omega))
def yTe:=zJ 117 [.c .i,.c .i,.c .i] (.tup [(false,vJ),(false,[.bool])]) (fun k d=>Lr k d.1 d.2.1 d.2.2.1) (fun x=>(x.1,x.2,())) (fun d=>(d.1,d.2.1))
theorem yJo:zD prog yTe:=fA f117 n0 (e3 vEe yW6 vGv) loops0
def vEp:=zJ 118 [.c .i,.c .i] (.tup [(false,vJ),(false,[.bool])]) (fun k d=>CE k d.1 d.2.1) (fun x=>(x.1,x.2,())) (fun d=>(d.1,d.2.1))
theorem TA:zD prog vEp:=fA f118 n0 e0 loops0
def qUx:zE:=sp [(0,.c (.dat false jM)),(1,.c (.dat false .i)),(2,.c (.dat false .i)),sI 8,sI 9] []
def yCr:zE:=sp [sI 8] []
def yNk (f:TB)(d:qUx.den):=f d.1.1.1 d.1.2.1.1 d.1.2.2.1.1 d.1.2.2.2.1.1 d.1.2.2.2.2.1.1
def TC:zX:=⟨[qUx],[(.exit 0,yCr),(.ret,yEu)],(Int⊕wV),fun k d=>yNk (G4 k k) d,fun b x _ K=>match x with|.inl x=>K (.exit 0) (zL b yCr (((x,()),()),()))|.inr x=>K .ret (zL b yEu (((x.1,()),(x.2,()),()),()))⟩
def yN8:zY:=⟨[],[(5,TC)],[],true⟩
theorem vBy:zU prog 1000 0 63 (zO (zS f69) 0) TC:=lp (A:=yN8) TC (fun d=>match d with|.inl d=>.inl d.1.1.1|.inr d=>.inr (d.1.1.1,d.1.2.1.1)) yNk G4 CF (e2 yJo TA) loops0
def vL5:=zJ 69 [.c (.dat false jM),.c (.dat false .i),.c (.dat false .i)] (.tup [(false,vJ),(false,[.bool])]) (fun k d=>tF k d.1 d.2.1 d.2.2.1) (fun x=>(x.1,x.2,())) (fun d=>(d.1,d.2.1))
theorem xH:zD prog vL5:=fA f69 yN8 (e2 yJo TA) (qC vBy)
def qXm:zE:=sp [sP 2 0,sP 3 1,sI 5] [oB iI,oB mq]
def yC3:zE:=sp [sP 2 0,sP 3 1] [oB iI,oB mq]
def qW2 (f:TD)(d:qXm.den):=f d.1.2.2.1.1 (qZ d.2.1) (qR d.2.2.1)
def Mn:zX:=⟨[qXm],[(.exit 0,yC3),(.ret,yAb)],TE,fun k d=>qW2 (tS k k) d,fun b x _ K=>match x with|.inl x=>K (.exit 0) (zL b yC3 (((),(),()),((jZ x.1 ()),(jJ x.2 ()),())))|.inr x=>K .ret (zL b yAb (((x,()),()),()))⟩
def yD6:zE:=sp [sP 2 0,sP 3 1,sI 6,sI 7] [oB iI,oB mq]
def yIk:zE:=sp [sP 2 0,sP 3 1,sI 6] [oB iI,oB mq]
def yKt (f:TF)(d:yD6.den):=f d.1.2.2.1.1 d.1.2.2.2.1.1 (qZ d.2.1) (qR d.2.2.1)
def TG:zX:=⟨[yD6],[(.exit 4,yIk),(.ret,yAb)],TH,fun k d=>yKt (xD k k) d,fun b x _ K=>match x with|.inl x=>K (.exit 4) (zL b yIk (((),(),(x.1,()),()),((jZ x.2.1 ()),(jJ x.2.2 ()),())))|.inr x=>K .ret (zL b yAb (((x,()),()),()))⟩
def yDy (f:TI)(d:yIk.den):=f d.1.2.2.1.1 (qZ d.2.1) (qR d.2.2.1)
def Mo:zX:=⟨[yIk],[(.exit 2,qVj),(.ret,yAb)],(Unit⊕Bool),fun k d=>yDy (tT k k) d,fun b x _ K=>match x with|.inl x=>K (.exit 2) (zL b qVj ((),()))|.inr x=>K .ret (zL b yAb (((x,()),()),()))⟩
def Mp:zY:=⟨[],[(4,Mn),(14,TG),(9,Mo)],[],true⟩
theorem yUb:zU prog 1000 0 122 (zO (zS f23) 0) Mn:=lp (A:=Mp) Mn (fun d=>match d with|.inl d=>.inl ((qZ d.2.1),(qR d.2.2.1))|.inr d=>.inr d.1.1.1) qW2 tS DK (e1 xH) loops0
theorem yY5:zU prog 1000 0 122 (zO (zO (zS f23) 1) 0) TG:=lp (A:=Mp) TG (fun d=>match d with|.inl d=>.inl (d.1.2.2.1.1,(qZ d.2.1),(qR d.2.2.1))|.inr d=>.inr d.1.1.1) yKt xD DL (e1 xH) loops0
theorem vNr:zU prog 1000 0 122 (zO (zS f23) 1) Mo:=lp (A:=Mp) Mo (fun d=>match d with|.inl d=>.inl ()|.inr d=>.inr d.1.1.1) yDy tT DM (e1 xH) (qC yY5)
def vDq:=zJ 23 [.agg fM,.agg kO] (.c .bool) (fun k d=>HR k (qZ d) (mo d)) (fun x=>(x,())) (fun d=>d.1)
theorem yQl:zD prog vDq:=fA f23 Mp (e1 xH) (nV (n:=2) (by kernel_rfl) fun i hi=>match i,hi with|0,_=>⟨Mn,by kernel_rfl,yUb⟩|1,_=>⟨Mo,by kernel_rfl,vNr⟩|i+2,hi=>absurd hi (by omega))
def yP3:zE:=sp [(0,.c (.dat false zF)),sI 1,sI 5] []
def yN3 (f:TJ)(d:yP3.den):=f d.1.1.1 d.1.2.1.1 d.1.2.2.1.1
def TK:zX:=⟨[yP3],[(.exit 0,qVj),(.ret,yId)],(Unit⊕Int),fun k d=>yN3 (BA k k) d,fun b x _ K=>match x with|.inl x=>K (.exit 0) (zL b qVj ((),()))|.inr x=>K .ret (zL b yId (((x,()),()),()))⟩
def yO7:zY:=⟨[],[(2,TK)],[],false⟩
theorem vF8:zU prog 1000 0 20 (zO (zS f42) 0) TK:=lp (A:=yO7) TK (fun d=>match d with|.inl d=>.inl ()|.inr d=>.inr d.1.1.1) yN3 BA BB e0 loops0
def vLf:=zJ 42 [.c (.dat false zF),.c .i] (.c .i) (fun k d=>j6 k d.1 d.2.1) (fun x=>(x,())) (fun d=>d.1)
theorem DR:zD prog vLf:=fA f42 yO7 e0 (qC vF8)
def vPs:=zJ 119 [.agg vC,.agg vC] (.c .bool) (fun k d=>(DP (CD k) d)) (fun x=>(x,())) (fun d=>d.1)
theorem DS:zD prog vPs:=fA f119 ⟨[],[],[],false⟩ e0 loops0
def yJ0:zE:=sp [(0,.c (.dat false zF)),sI 3] []
def yGv (f:TL)(d:yJ0.den):=f d.1.1.1 d.1.2.1.1
def TM:zX:=⟨[yJ0],[(.exit 0,yDl),(.ret,yEt)],SY,fun k d=>yGv (tQ k k) d,fun b x _ K=>match x with|.inl x=>K (.exit 0) (zL b yDl (((x,()),()),()))|.inr x=>K .ret (zL b yEt (((x,()),()),()))⟩
def yOv:zY:=⟨[],[(2,TM)],[],false⟩
theorem vNo:zU prog 1000 0 39 (zO (zS f70) 0) TM:=lp (A:=yOv) TM (fun d=>match d with|.inl d=>.inl d.1.1.1|.inr d=>.inr d.1.1.1) yGv tQ DD (e2 DR DS) loops0
def vNh:=zJ 70 [.c (.dat false zF)] (.c .bool) (fun k d=>HL k d.1) (fun x=>(x,())) (fun d=>d.1)
theorem qXt:zD prog vNh:=fA f70 yOv (e2 DR DS) (qC vNo)
def yLl:zE:=sp [(0,.c (.dat false .i)),sI 3] []
def yR5 (f:TO)(d:yLl.den):=f d.1.1.1 d.1.2.1.1
def TP:zX:=⟨[yLl],[(.exit 0,qWx),(.ret,yEt)],(AC⊕Bool),fun k d=>yR5 (xB k k) d,fun b x _ K=>match x with|.inl x=>K (.exit 0) (zL b qWx (((x,()),()),()))|.inr x=>K .ret (zL b yEt (((x,()),()),()))⟩
def yQ1:zY:=⟨[],[(2,TP)],[],true⟩
theorem yZh:zU prog 1000 0 34 (zO (zS f71) 0) TP:=lp (A:=yQ1) TP (fun d=>match d with|.inl d=>.inl d.1.1.1|.inr d=>.inr d.1.1.1) yR5 xB DF e0 loops0
def vBj:=zJ 71 [.c (.dat false .i)] (.c .bool) (fun k d=>HN k d.1) (fun x=>(x,())) (fun d=>d.1)
theorem yBa:zD prog vBj:=fA f71 yQ1 e0 (qC yZh)
def yT9:=zJ 72 [.agg wN,.agg vC] (.c .bool) (fun k d=>(oO (J7 k) d)) (fun x=>(x,())) (fun d=>d.1)
theorem Mq:zD prog yT9:=fA f72 ⟨[],[],[],false⟩ e0 loops0
def ySf:zE:=sp [(0,.c (.dat false .i)),sI 1,sI 5] []
def yF8 (f:TQ)(d:ySf.den):=f d.1.1.1 d.1.2.1.1 d.1.2.2.1.1
def TR:zX:=⟨[ySf],[(.exit 0,qVj),(.ret,yAb)],(Unit⊕Bool),fun k d=>yF8 (oL k k) d,fun b x _ K=>match x with|.inl x=>K (.exit 0) (zL b qVj ((),()))|.inr x=>K .ret (zL b yAb (((x,()),()),()))⟩
def yKa:zY:=⟨[],[(2,TR)],[],true⟩
theorem yU0:zU prog 1000 0 18 (zO (zS f73) 0) TR:=lp (A:=yKa) TR (fun d=>match d with|.inl d=>.inl ()|.inr d=>.inr d.1.1.1) yF8 oL oM e0 loops0
def vOy:=zJ 73 [.c (.dat false .i),.c .i] (.c .bool) (fun k d=>xh k d.1 d.2.1) (fun x=>(x,())) (fun d=>d.1)
theorem Mr:zD prog vOy:=fA f73 yKa e0 (qC yU0)
def yE8:zE:=sp [sP 1 0,sI 3] [oB mq]
def qV1 (f:TS)(d:yE8.den):=f d.1.2.1.1 (qR d.2.1)
def TT:zX:=⟨[yE8],[(.exit 0,qVj),(.ret,yEt)],(Unit⊕Bool),fun k d=>qV1 (tR k k) d,fun b x _ K=>match x with|.inl x=>K (.exit 0) (zL b qVj ((),()))|.inr x=>K .ret (zL b yEt (((x,()),()),()))⟩
def qU0:zY:=⟨[],[(4,TT)],[],true⟩
theorem vNg:zU prog 1000 0 57 (zO (zS f24) 0) TT:=lp (A:=qU0) TT (fun d=>match d with|.inl d=>.inl ()|.inr d=>.inr d.1.1.1) qV1 tR DI (e4 qXt yBa Mq Mr) loops0
def vBs:=zJ 24 [.agg kO] (.c .bool) (fun k d=>HO k (qR d)) (fun x=>(x,())) (fun d=>d.1)
theorem yJ2:zD prog vBs:=fA f24 qU0 (e4 qXt yBa Mq Mr) (qC vNg)
def yWu:=zJ 74 [.agg [.i,.i],.c .i] (.agg [.i,.i]) (fun k d=>L4 k d.1 d.2.1 d.2.2.1) (fun x=>(x.1,x.2,())) (fun d=>(d.1,d.2.1))
theorem yF1:zD prog yWu:=fA f74 ⟨[],[],[],false⟩ e0 loops0
def yRt:zE:=sp [(0,.c (.dat false .i)),sP 4 0,sI 5] [oB [.i,.i]]
def yFh:zE:=sp [sP 4 0] [oB [.i,.i]]
def yHx (f:TU)(d:yRt.den):=f d.1.1.1 d.1.2.2.1.1 d.2.1.1 d.2.1.2.1
def TV:zX:=⟨[yRt],[(.exit 0,yFh)],vY,fun k d=>yHx (HK k k) d,fun b x _ K=>K (.exit 0) (zL b yFh (((),()),((x.1,x.2,()),())))⟩
def yRb:zY:=⟨[],[(3,TV)],[],false⟩
theorem vG8:zU prog 1000 0 32 (zO (zS f25) 0) TV:=lp (A:=yRb) TV (fun d=>(d.2.1.1,d.2.1.2.1)) yHx HK DB (e1 yF1) loops0
def vFh:=zJ 25 [.c (.dat false .i)] (.tup [(false,vJ),(false,[.bool])]) (fun k d=>HJ k d.1) (fun x=>(x.1,x.2,())) (fun d=>(d.1,d.2.1))
theorem yAw:zD prog vFh:=fA f25 yRb (e1 yF1) (qC vG8)
def qVl:zE:=⟨[sP 2 0,sP 3 1,sO 5 2,sI 6],[oB iI,oB mq,oA .i],[(5,none,.i,false)]⟩
def yLx (f:TW)(d:qVl.den):=f d.1.2.2.2.1.1 (qZ d.2.1) (qR d.2.2.1) d.2.2.2.1
def TX:zX:=⟨[qVl],[(.exit 0,yOl)],S9,fun k d=>yLx (xE k k) d,fun b x _ K=>K (.exit 0) (zL b yOl (((),(),(),()),((jZ x.1 ()),(jJ x.2.1 ()),x.2.2,())))⟩
def qYd:zY:=⟨[],[(5,TX)],[],true⟩
theorem vKc:zU prog 1000 0 102 (zO (zS f8) 0) TX:=lp (A:=qYd) TX (fun d=>((qZ d.2.1),(qR d.2.2.1),d.2.2.2.1)) yLx xE DN (e4 HW yQl yJ2 yAw) loops0
def qJ3:=zJ 8 [.agg fM,.agg kO] (.c .bool) (fun k d=>L5 k (qZ d) (mo d)) (fun x=>(x,())) (fun d=>d.1)
theorem vOs:zD prog qJ3:=fA f8 qYd (e4 HW yQl yJ2 yAw) (qC vKc)
def yAj:=zJ 9 [.c .i] (.agg [.i,.own jM,.i,.i,.i]) (fun k d=>qZ8 k d.1) (fun x=>(jZ x ())) (fun d=>(qZ d))
theorem yWq:zD prog yAj:=fA f9 n0 e0 loops0
def vHq:=zJ 120 [.c .i] (.c .bool) (fun k d=>F1 k d.1) (fun x=>(x,())) (fun d=>d.1)
theorem Ms:zD prog vHq:=fA f120 ⟨[],[],[],false⟩ e0 loops0
def yJ4:zE:=sp [sI 1,sO 5 0,sI 13,sI 14] [oA .i]
def yB8:zE:=sp [sO 5 0] [oA .i]
def yDs (f:Tw)(d:yJ4.den):=f d.1.1.1 d.1.2.2.1.1 d.1.2.2.2.1.1 d.2.1
def T0:zX:=⟨[yJ4],[(.exit 0,yB8)],AC,fun k d=>yDs (F2 k k) d,fun b x _ K=>K (.exit 0) (zL b yB8 (((),()),(x,())))⟩
def yAx:zY:=⟨[],[(5,T0)],[],false⟩
theorem vEc:zU prog 1000 0 23 (zO (zS f76) 0) T0:=lp (A:=yAx) T0 (fun d=>d.2.1) yDs F2 Bc (e1 Ms) loops0
def yWx:=zJ 76 [.c .i,.c .i] (.c (.own .i)) (fun k d=>wg k d.1 d.2.1) (fun x=>(x,())) (fun d=>d.1)
theorem xI:zD prog yWx:=fA f76 yAx (e1 Ms) (qC vEc)
def yMp:zE:=sp [sI 0,sI 1,sO 5 0,sI 13,sI 14] [.mat]
def yDf:zE:=sp [sO 5 0] [.mat]
def yN2 (f:T1)(d:yMp.den):=f d.1.1.1 d.1.2.1.1 d.1.2.2.2.1.1 d.1.2.2.2.2.1.1 d.2.1
def T2:zX:=⟨[yMp],[(.exit 0,yDf)],EQ,fun k d=>yN2 (F3 k k) d,fun b x _ K=>K (.exit 0) (zL b yDf (((),()),(x,())))⟩
def yEc:zY:=⟨[11],[(5,T2)],[],false⟩
theorem yVu:zU prog 1000 0 25 (zO (zS f75) 0) T2:=lp (A:=yEc) T2 (fun d=>d.2.1) yN2 F3 Be (e2 Ms xI) loops0
def vEs:=zJ 75 [.c .i,.c .i] (.c (.mat)) (fun k d=>Bd k d.1 d.2.1) (fun x=>(x,())) (fun d=>d.1)
theorem HY:zD prog vEs:=fA f75 yEc (e2 Ms xI) (qC yVu)
def yCe:zE:=⟨[sP 1 0,sP 2 1,sI 3,sP 4 2,(20,.c (.dat false jM)),sI 21,sI 22],[oB iI,oB iT,oB qWt,oA yD,.mat,oA .i,.mat,oA .i],[(4,some 5,.i,false)]⟩
def yMl:zE:=sp [sP 1 0,sP 2 1,sI 3,sP 4 2] [oB iI,oB iT,oB qWt,oA yD,.mat,oA .i,.mat,oA .i]
def yMa (f:T3)(d:yCe.den):=f d.1.2.2.1.1 d.1.2.2.2.2.1.1 d.1.2.2.2.2.2.1.1 d.1.2.2.2.2.2.2.1.1 (qZ d.2.1) (d.2.2.1.1,d.2.2.1.2.1,d.2.2.1.2.2.1) (d.2.2.2.1.1,d.2.2.2.1.2.1,d.2.2.2.1.2.2.1) d.2.2.2.2.1 d.2.2.2.2.2.1 d.2.2.2.2.2.2.1 d.2.2.2.2.2.2.2.1 d.2.2.2.2.2.2.2.2.1
def Mt:zX:=⟨[yCe],[(.exit 0,yMl)],T4,fun k d=>yMa (T5 k k) d,fun b x _ K=>K (.exit 0) (zL b yMl (((),(),(x.1,()),(),()),((jZ x.2.1 ()),(x.2.2.1.1,x.2.2.1.2.1,x.2.2.1.2.2,()),(x.2.2.2.1.1,x.2.2.2.1.2.1,x.2.2.2.1.2.2,()),x.2.2.2.2.1,x.2.2.2.2.2.1,x.2.2.2.2.2.2.1,x.2.2.2.2.2.2.2.1,x.2.2.2.2.2.2.2.2,())))⟩
def yRp:zE:=⟨[sP 1 0,sP 2 1,sP 4 2,sI 34,sI 35],[oB iI,oB iT,oB [.i,.lit (.osl 1001003 none),.lit (.osl 1001004 none),.lit (.osl 1001005 none),.lit (.osl 1001006 none),.lit (.osl 1001007 none),.lit (.osl 1001008 none),.lit .nsl,.lit .nsl,.i,.bool],oA yD,.mat,oA .i,.mat,oA .i,.mat],[(4,some 6,(.sl .i),true)]⟩
def yP7:zE:=sp [sP 2 0,sP 4 1] [oB iT,oB [.i,.lit (.osl 1001002 none),.lit (.osl 1001003 none),.lit (.osl 1001004 none),.lit (.osl 1001005 none),.lit (.osl 1001006 none),.lit (.osl 1001007 none),.lit .nsl,.lit .nsl,.i,.bool],oA yD,.mat,oA .i,.mat,oA .i,.mat]
def yBv (f:T6)(d:yRp.den):=f d.1.2.2.2.1.1 d.1.2.2.2.2.1.1 (qZ d.2.1) (d.2.2.1.1,d.2.2.1.2.1,d.2.2.1.2.2.1) (d.2.2.2.1.1,d.2.2.2.1.2.1,d.2.2.2.1.2.2.1) d.2.2.2.2.1 d.2.2.2.2.2.1 d.2.2.2.2.2.2.1 d.2.2.2.2.2.2.2.1 d.2.2.2.2.2.2.2.2.1 d.2.2.2.2.2.2.2.2.2.1
def Mu:zX:=⟨[yRp],[(.exit 2,yP7)],T7,fun k d=>yBv (T8 k k) d,fun b x _ K=>K (.exit 2) (zL b yP7 (((),(),()),((x.1.1,x.1.2.1,x.1.2.2,()),(x.2.1.1,x.2.1.2.1,x.2.1.2.2,()),x.2.2.1,x.2.2.2.1,x.2.2.2.2.1,x.2.2.2.2.2.1,x.2.2.2.2.2.2.1,x.2.2.2.2.2.2.2,())))⟩
def T9:zY:=⟨[43,44],[(4,Mt),(9,Mu)],[],true⟩
theorem vAe:zU prog 1000 0 48 (zO (zS f27) 0) Mt:=lp (A:=T9) Mt (fun d=>(d.1.2.2.1.1,(qZ d.2.1),(d.2.2.1.1,d.2.2.1.2.1,d.2.2.1.2.2.1),(d.2.2.2.1.1,d.2.2.2.1.2.1,d.2.2.2.1.2.2.1),d.2.2.2.2.1,d.2.2.2.2.2.1,d.2.2.2.2.2.2.1,d.2.2.2.2.2.2.2.1,d.2.2.2.2.2.2.2.2.1)) yMa T5 yG4 (e2 HY xI) loops0
theorem vD8:zU prog 1000 0 48 (zO (zS f27) 1) Mu:=lp (A:=T9) Mu (fun d=>((d.2.1.1,d.2.1.2.1,d.2.1.2.2.1),(d.2.2.1.1,d.2.2.1.2.1,d.2.2.1.2.2.1),d.2.2.2.1,d.2.2.2.2.1,d.2.2.2.2.2.1,d.2.2.2.2.2.2.1,d.2.2.2.2.2.2.2.1,d.2.2.2.2.2.2.2.2.1)) yBv T8 ySi (e2 HY xI) loops0
def yLr:=zJ 27 [.agg fM] (.agg [.i,.own yD,.mat,.own .i,.mat,.own .i,.mat,.own zF,.own .i,.i,.bool]) (fun k d=>qVw k (qZ d)) (fun x=>(jJ x ())) (fun d=>(qR d))
theorem yXq:zD prog yLr:=fA f27 T9 (e2 HY xI) (nV (n:=2) (by kernel_rfl) fun i hi=>match i,hi with|0,_=>⟨Mt,by kernel_rfl,vAe⟩|1,_=>⟨Mu,by kernel_rfl,vD8⟩|i+2,hi=>absurd hi (by omega))
def qYh:zE:=sp [(1,.c (.dat false .i)),sP 4 0,sP 5 1,sI 6] [oB vW,oB vW]
def yD0:zE:=sp [sP 4 0,sP 5 1] [oB vW,oB vW]
def yK7 (f:Ua)(d:qYh.den):=(kb (kb (f d.1.1.1 d.1.2.2.2.1.1) d.2.1) d.2.2.1)
def Ub:zX:=⟨[qYh],[(.exit 0,yD0)],Uc,fun k d=>yK7 (Mv k k) d,fun b x _ K=>K (.exit 0) (zL b yD0 (((),(),()),((gQ x ()),(yK0 x ()),())))⟩
def yH0:zY:=⟨[],[(3,Ub)],[],false⟩
theorem vLj:zU prog 1000 0 27 (zO (zS f29) 0) Ub:=lp (A:=yH0) Ub (fun d=>(gQ d.2.1 (wC d.2.2.1))) yK7 Mv yDz e0 loops0
def yAi:=zJ 29 [.c .i,.c (.dat false .i)] (.agg oP) (fun k d=>jA k d.1 d.2.1) (fun x=>(gh x ())) (fun d=>(wC d))
theorem oQ:zD prog yAi:=fA f29 yH0 e0 (qC vLj)
def qWc:=zJ 28 [.c .i,.c .i,.c (.dat false .i)] (.agg [.i,.i,.i,.i,.i,.i,.i,.i]) (fun k d=>Ud k d.1 d.2.1 d.2.2.1) (fun x=>(Mw x ())) (fun d=>(DT d))
theorem yVa:zD prog qWc:=fA f28 n0 (e1 oQ) loops0
def vMp:=zJ 77 [.c .i] (.c .bool) (fun k d=>LM k d.1) (fun x=>(x,())) (fun d=>d.1)
theorem vNd:zD prog vMp:=fA f77 n0 e0 loops0
def yT4:=zJ 78 [.c .i] (.c .bool) (fun k d=>Hu k d.1) (fun x=>(x,())) (fun d=>d.1)
theorem vGh:zD prog yT4:=fA f78 n0 e0 loops0
def vAt:=zJ 121 [.c .i] (.c .i) (fun k d=>LL k d.1) (fun x=>(x,())) (fun d=>d.1)
theorem yF0:zD prog vAt:=fA f121 n0 e0 loops0
def yO9:zE:=sp [(13,.c (.dat true .i)),sI 14,sI 15] []
def qX4 (f:TQ)(d:yO9.den):=f d.1.1.1 d.1.2.1.1 d.1.2.2.1.1
def Uf:zX:=⟨[yO9],[(.exit 0,qVj),(.ret,yEt)],(Unit⊕Bool),fun k d=>qX4 (qz k k) d,fun b x _ K=>match x with|.inl x=>K (.exit 0) (zL b qVj ((),()))|.inr x=>K .ret (zL b yEt (((x,()),()),()))⟩
def yGy:zY:=⟨[],[(5,Uf)],[],true⟩
theorem yZo:zU prog 1000 0 22 (zO (zS f79) 0) Uf:=lp (A:=yGy) Uf (fun d=>match d with|.inl d=>.inl ()|.inr d=>.inr d.1.1.1) qX4 qz tJ (e1 yF0) loops0
def vJ6:=zJ 79 [.agg vC] (.c .bool) (fun k d=>tK k (wC d)) (fun x=>(x,())) (fun d=>d.1)
theorem yZb:zD prog vJ6:=fA f79 yGy (e1 yF0) (qC yZo)
def vJj:=zJ 30 [.agg fM,.agg kO,.agg DU] (.c .i) (fun k d=>tL k (qZ d) (mo d) (xG d)) (fun x=>(x,())) (fun d=>d.1)
theorem vRu:zD prog vJj:=fA f30 n0 (e3 vNd vGh yZb) loops0
def vPy:=zJ 123 [.agg vC,.ptr [.i]] (.c .bool) (fun k d=>(ka (Q7 k) d)) (fun x=>(x,())) (fun d=>d.1)
theorem yRa:zD prog vPy:=fA f123 ⟨[],[],[],false⟩ e0 loops0
def yGg:zE:=⟨[(1,.c (.lit (.fn 123 [1001000]))),sO 5 1,(8,.c (.dat false zF)),sI 9,sI 10],[.robox [.i],oA zF],[(5,none,zF,false)]⟩
def yMz:zE:=sp [sO 5 0] [oA zF]
def yQj (f:Ug)(d:yGg.den):=f d.1.2.2.1.1 d.1.2.2.2.1.1 d.1.2.2.2.2.1.1 d.2.1.1 d.2.2.1
def Uh:zX:=⟨[yGg],[(.exit 0,yMz)],Ui,fun k d=>yQj (GM k k) d,fun b x _ K=>K (.exit 0) (zL b yMz (((),()),(x,())))⟩
def ySz:zY:=⟨[],[(3,Uh)],[],false⟩
theorem vAp:zU prog 1000 0 23 (zO (zS f122) 0) Uh:=lp (A:=ySz) Uh (fun d=>d.2.1) yQj GM Cb (e1 yRa) loops0
def vM4:=zJ 122 [.c (.dat false zF),.fn 123 [[.i]]] (.c (.own zF)) (fun k d=>Q6 k d.1 d.2.1) (fun x=>(x,())) (fun d=>d.1)
theorem vJh:zD prog vM4:=fA f122 ySz (e1 yRa) (qC vAp)
def yVm:=zJ 80 [.c (.dat false zF),.c .i] (.c (.own zF)) (fun k d=>GL k d.1 d.2.1) (fun x=>(x,())) (fun d=>d.1)
theorem HZ:zD prog yVm:=fA f80 ⟨[],[],[],false⟩ (e1 vJh) loops0
def vCt:=vX 32 [.ptr true [.p .i,.p (.nil),.p .i,.p .i,.p .i,.p .i,.p (.nil),.p (.nil),.p (.nil),.p (.nil),.p (.nil),.p (.nil),.p (.nil),.p (.nil),.p .i,.p .bool,.p .i,.p (.nil)],.c (.p .i),.c (.p (.dat false .i))] (.tup []) [[.i,.own jM,.i,.i,.i,.i,.own yD,.mat,.own .i,.mat,.own .i,.mat,.own zF,.own .i,.i,.bool,.i,.own yM]] 0 (fun k d=>yKj k (d.1,(Mx d (d.2.2.2.2.2.2.2.2.2.2.2.2.2.2.1,d.2.2.2.2.2.2.2.2.2.2.2.2.2.2.2.1,d.2.2.2.2.2.2.2.2.2.2.2.2.2.2.2.2.1))) d.2.2.2.2.2.2.2.2.2.2.2.2.2.2.2.2.2.2.1 d.2.2.2.2.2.2.2.2.2.2.2.2.2.2.2.2.2.2.2.1) (fun x=>(jL x ())) (fun d=>(fm d))
theorem yUl:zD prog vCt:=fX f32 n0 1 e0 loops0
def vCs:=zJ 31 [.agg kO,.c .i] (.c (.own yM)) (fun k d=>LS k (qR d) d.2.2.2.2.2.2.2.2.2.2.2.1) (fun x=>(x,())) (fun d=>d.1)
theorem vAz:zD prog vCs:=fA f31 n0 (e2 HZ yUl) loops0
def yW7:=vX 32 [.ptr true tX,.c (.p .i),.c (.p (.dat false .i))] (.tup []) [iU] 0 (fun k d=>LU k (iV d) d.2.2.2.2.2.2.2.2.2.2.2.2.2.2.2.2.2.2.1 d.2.2.2.2.2.2.2.2.2.2.2.2.2.2.2.2.2.2.2.1) (fun x=>(jL x ())) (fun d=>(fm d))
theorem yIv:zD prog yW7:=fX f32 n0 1 e0 loops0
def vBc:=zJ 198 [.agg fM,.c .i] (.c .bool) (fun k d=>GW k (qZ d) d.2.2.2.2.2.1) (fun x=>(x,())) (fun d=>d.1)
theorem yXd:zD prog vBc:=fA f198 n0 e0 loops0
def yYp:=zJ 168 [.agg fM,.c .i,.agg vC] (.c .bool) (fun k d=>La k (qZ d) d.2.2.2.2.2.1 (Uj d)) (fun x=>(x,())) (fun d=>d.1)
theorem vKu:zD prog yYp:=fA f168 n0 (e1 yXd) loops0
def vKq:=zJ 129 [.agg fM,.c .i,.c .i] (.c .i) (fun k d=>xc k (qZ d) d.2.2.2.2.2.1 d.2.2.2.2.2.2.1) (fun x=>(x,())) (fun d=>d.1)
theorem Uk:zD prog vKq:=fA f129 n0 e0 loops0
def vAo:=zJ 124 [.agg fM,.c .i,.agg vC] (.c .i) (fun k d=>Cx k (qZ d) d.2.2.2.2.2.1 (Uj d)) (fun x=>(x,())) (fun d=>d.1)
theorem yG9:zD prog vAo:=fA f124 n0 (e2 vKu Uk) loops0
def yV9:=vv 170 false .i (.own .i) mX
theorem H0:zD prog yV9:=fC f170 ⟨[],[],[],false⟩ e0 loops0
theorem yTk (A X:Option Addr)(n c vc:Nat)(w w':World)(rv:Value)(hr:(Builtin.append_ #[27,27] 27 #[.slice A n c,.slice X 1 vc]).run prog w=.ok rv w'):
    Calls prog 169 #[.slice A n c,.int .i64 n,.slice X 1 vc] w fun e mb=>e=.returned rv∧mb=w':=by
  have t0:prog.underlying 27=some (.slice 2):=by kernel_rfl
  have t3:prog.underlying 3=some (.int .i64):=by kernel_rfl
  have z0:∀w,(Go.sizeOf 2).run prog w=.ok 1 w:=fun w=>by kernel_rfl
  have u0:=run_underlying t0;have u3:=run_underlying t3
  go_enter Proofs.Tryz.func169,Proofs.Tryz.ntmps169
  go_wp2_with (at_builtin;refine Lib.wpList_append_run _ rfl _ _ _ _ rfl _ _ rfl rfl _ _ hr ?_)
  all_goals (go_ret;exact⟨rfl,rfl⟩)
theorem vQe:JN prog 169 27 3 1 where
  ends:=yTk
  grow B off n c i X vo vc N G w w1 w2 w3 hi hnc aS GZ hG hz hA hB:=by
    simp only[Nat.mul_one] at hA hB;have t0:prog.underlying 27=some (.slice 2):=by kernel_rfl
    have t3:prog.underlying 3=some (.int .i64):=by kernel_rfl
    have z0:∀w,(Go.sizeOf 2).run prog w=.ok 1 w:=fun w=>by kernel_rfl
    have u0:=run_underlying t0;have u3:=run_underlying t3;have mixed:prog.follows .mixedOrders=true:=fl;have Ul:¬((i:Int)=(n:Int)):=by omega
    have nX:IntKind.i64.wrap ((i:Int)+1)=(i:Int)+1:=by rw[IntKind.wrap_i64];omega
    have gE:(0:Int)≤(i:Int)+1:=by omega
    have dZ:i≤n:=by omega
    have fh:((i:Int)+1).toNat=i+1:=by omega
    have Um:¬(c=i):=by omega
    have hz3:(c:Int)<(n:Int)+1:=by omega
    have Un:(i:Int)≤(n:Int):=by omega
    have hGi:¬(G=i):=by omega
    have Uo:¬(G=i+1):=by omega
    go_enter Proofs.Tryz.func169,Proofs.Tryz.ntmps169
    go_wp2_with (first
      |(at_builtin;refine Lib.wpList_append_run _ rfl _ _ _ _ rfl _ _ rfl rfl _ _ hz ?_)
      |(at_builtin;refine JR _ rfl _ _ 27 27 rfl _ _ rfl rfl (hA _) ?_))
    go_region_law_o (refine JS rfl _ _ 27 27 rfl (.slice (some ⟨N,(i+1),none⟩) (n+1-(i+1)) (G-(i+1))) (.slice (some ⟨B,off+i,none⟩) (n-i) (c-i)) (by simp[Act.eval,Act.put]) (by simp[Act.eval,Act.put]) (hB (G-(i+1)) (c-i)) ?_)
    go_wp2
    go_ret
    exact⟨rfl,rfl⟩
  shift B off n c i X vo vc w w1 w2 hi aS GZ nR hA hB:=by
    simp only[Nat.mul_one] at hA hB;have t0:prog.underlying 27=some (.slice 2):=by kernel_rfl
    have t3:prog.underlying 3=some (.int .i64):=by kernel_rfl
    have z0:∀w,(Go.sizeOf 2).run prog w=.ok 1 w:=fun w=>by kernel_rfl
    have u0:=run_underlying t0;have u3:=run_underlying t3;have mixed:prog.follows .mixedOrders=true:=fl;have Ul:¬((i:Int)=(n:Int)):=by omega
    have nX:IntKind.i64.wrap ((i:Int)+1)=(i:Int)+1:=by rw[IntKind.wrap_i64];omega
    have gE:(0:Int)≤(i:Int)+1:=by omega
    have dZ:i≤n:=by omega
    have fh:((i:Int)+1).toNat=i+1:=by omega
    have Um:¬(c=i):=by omega
    have re:=fun lb cb=>qXi (P:=prog) (fo:=199) (tb:=4) (e:=2) (size:=1) Proofs.Tryz.func199 (by kernel_rfl) (by kernel_rfl) (by kernel_rfl) (by kernel_rfl) t0 z0 nR vo (off+(i+1)) vc lb cb
    have hb2:¬(c=i+1):=by omega
    have Un:(i:Int)≤(n:Int)+1:=by omega
    go_enter Proofs.Tryz.func169,Proofs.Tryz.ntmps169
    go_wp2_with (simp only[re])
    go_region_law_o (refine JS rfl _ _ 27 27 rfl (.slice (some ⟨B,off+(i+1),none⟩) (n-i) (c-(i+1))) (.slice (some ⟨B,off+i,none⟩) (n+1-i) (c-i)) (by simp[Act.eval,Act.put]) (by simp[Act.eval,Act.put]) (hA _ _) ?_)
    go_wp2_with (at_builtin;refine JR _ rfl _ _ 27 27 rfl _ _ rfl rfl (hB _) ?_)
    go_ret
    exact⟨rfl,rfl⟩
def vFy:Nat×lZ:=(169,PS .i 8)
theorem vH9:zD prog vFy:=yDr (e:=2) (fn:=f169) vQe
def vCf:=zJ 125 [.c (.dat true .i),.c .i] (.tup [(false,[.fro .i]),(false,vJ)]) (fun k d=>BO k d.1 d.2.1) (fun x=>(x.1,x.2,())) (fun d=>(d.1,d.2.1))
theorem yHn:zD prog vCf:=fA f125 n0 (e3 qYq H0 vH9) loops0
def vKe:=vv 172 false zF (.own zF) sX
theorem My:zD prog vKe:=fC f172 ⟨[],[],[],false⟩ e0 loops0
theorem vCd (A X:Option Addr)(n c vc:Nat)(w w':World)(rv:Value)(hr:(Builtin.append_ #[30,30] 30 #[.slice A n c,.slice X 1 vc]).run prog w=.ok rv w'):
    Calls prog 171 #[.slice A n c,.int .i64 n,.slice X 1 vc] w fun e mb=>e=.returned rv∧mb=w':=by
  have t0:prog.underlying 30=some (.slice 97):=by kernel_rfl
  have t3:prog.underlying 3=some (.int .i64):=by kernel_rfl
  have z0:∀w,(Go.sizeOf 97).run prog w=.ok 7 w:=fun w=>by kernel_rfl
  have u0:=run_underlying t0;have u3:=run_underlying t3
  go_enter Proofs.Tryz.func171,Proofs.Tryz.ntmps171
  go_wp2_with (at_builtin;refine Lib.wpList_append_run _ rfl _ _ _ _ rfl _ _ rfl rfl _ _ hr ?_)
  all_goals (go_ret;exact⟨rfl,rfl⟩)
theorem vCe:JN prog 171 30 3 7 where
  ends:=vCd
  grow B off n c i X vo vc N G w w1 w2 w3 hi hnc aS GZ hG hz hA hB:=by
    have t0:prog.underlying 30=some (.slice 97):=by kernel_rfl
    have t3:prog.underlying 3=some (.int .i64):=by kernel_rfl
    have z0:∀w,(Go.sizeOf 97).run prog w=.ok 7 w:=fun w=>by kernel_rfl
    have u0:=run_underlying t0;have u3:=run_underlying t3;have mixed:prog.follows .mixedOrders=true:=fl;have Ul:¬((i:Int)=(n:Int)):=by omega
    have nX:IntKind.i64.wrap ((i:Int)+1)=(i:Int)+1:=by rw[IntKind.wrap_i64];omega
    have gE:(0:Int)≤(i:Int)+1:=by omega
    have dZ:i≤n:=by omega
    have fh:((i:Int)+1).toNat=i+1:=by omega
    have Um:¬(c=i):=by omega
    have hz3:(c:Int)<(n:Int)+1:=by omega
    have Un:(i:Int)≤(n:Int):=by omega
    have hGi:¬(G=i):=by omega
    have Uo:¬(G=i+1):=by omega
    go_enter Proofs.Tryz.func171,Proofs.Tryz.ntmps171
    go_wp2_with (first
      |(at_builtin;refine Lib.wpList_append_run _ rfl _ _ _ _ rfl _ _ rfl rfl _ _ hz ?_)
      |(at_builtin;refine JR _ rfl _ _ 30 30 rfl _ _ rfl rfl (hA _) ?_))
    go_region_law_o (refine JS rfl _ _ 30 30 rfl (.slice (some ⟨N,(i+1)*7,none⟩) (n+1-(i+1)) (G-(i+1))) (.slice (some ⟨B,off+i*7,none⟩) (n-i) (c-i)) (by simp[Act.eval,Act.put]) (by simp[Act.eval,Act.put]) (hB (G-(i+1)) (c-i)) ?_)
    go_wp2
    go_ret
    exact⟨rfl,rfl⟩
  shift B off n c i X vo vc w w1 w2 hi aS GZ nR hA hB:=by
    have t0:prog.underlying 30=some (.slice 97):=by kernel_rfl
    have t3:prog.underlying 3=some (.int .i64):=by kernel_rfl
    have z0:∀w,(Go.sizeOf 97).run prog w=.ok 7 w:=fun w=>by kernel_rfl
    have u0:=run_underlying t0;have u3:=run_underlying t3;have mixed:prog.follows .mixedOrders=true:=fl;have Ul:¬((i:Int)=(n:Int)):=by omega
    have nX:IntKind.i64.wrap ((i:Int)+1)=(i:Int)+1:=by rw[IntKind.wrap_i64];omega
    have gE:(0:Int)≤(i:Int)+1:=by omega
    have dZ:i≤n:=by omega
    have fh:((i:Int)+1).toNat=i+1:=by omega
    have Um:¬(c=i):=by omega
    have re:=fun lb cb=>qXi (P:=prog) (fo:=201) (tb:=4) (e:=97) (size:=7) Proofs.Tryz.func201 (by kernel_rfl) (by kernel_rfl) (by kernel_rfl) (by kernel_rfl) t0 z0 nR vo (off+(i+1)*7) vc lb cb
    have hb2:¬(c=i+1):=by omega
    have Un:(i:Int)≤(n:Int)+1:=by omega
    go_enter Proofs.Tryz.func171,Proofs.Tryz.ntmps171
    go_wp2_with (simp only[re])
    go_region_law_o (refine JS rfl _ _ 30 30 rfl (.slice (some ⟨B,off+(i+1)*7,none⟩) (n-i) (c-(i+1))) (.slice (some ⟨B,off+i*7,none⟩) (n+1-i) (c-i)) (by simp[Act.eval,Act.put]) (by simp[Act.eval,Act.put]) (hA _ _) ?_)
    go_wp2_with (at_builtin;refine JR _ rfl _ _ 30 30 rfl _ _ rfl rfl (hB _) ?_)
    go_ret
    exact⟨rfl,rfl⟩
def vMr:Nat×lZ:=(171,PS zF 56)
theorem Mz:zD prog vMr:=yDr (e:=97) (fn:=f171) vCe
def yKr:zE:=sp [(0,.c (.dat true zF)),sP 3 0,sI 6] [oB vW]
def yMh (f:Uq)(d:yKr.den):=f d.1.1.1 d.1.2.2.1.1 (wC d.2.1)
def Ur:zX:=⟨[yKr],[(.exit 1,yKr)],Us,fun k d=>yMh (Gs k k) d,fun b x _ K=>K (.exit 1) (zL b yKr (((x.1,()),(),(x.2.1,()),()),((gh x.2.2 ()),())))⟩
def yG8:zY:=⟨[],[(6,Ur)],[],true⟩
theorem vMu:zU prog 1000 0 40 (zO (zS f126) 0) Ur:=lp (A:=yG8) Ur (fun d=>(d.1.1.1,d.1.2.2.1.1,(wC d.2.1))) yMh Gs BI (e4 tW DQ My Mz) loops0
def vD4:=zJ 126 [.c (.dat true zF),.agg vC] (.tup [(false,[.fro zF]),(false,vJ)]) (fun k d=>sY k d.1 (MA d)) (fun x=>(x.1,x.2,())) (fun d=>(d.1,d.2.1))
theorem MB:zD prog vD4:=fA f126 yG8 (e4 tW DQ My Mz) (qC vMu)
def vJv:=vX 81 [.ptr true tY,.agg H2] (.c .i) [iU] 0 (fun k d=>Lb k (fm d) (yHg d)) (fun x=>(x.1,(jL x.2 ()))) (fun d=>(d.1,(kP d)))
theorem vJb:zD prog vJv:=fX f81 n0 1 (e4 fN yG9 yHn MB) loops0
def vFr:=zJ 127 [.ptr Ut,.c .i] (.tup [(true,oP),(false,vJ)]) (fun k d=>Uu k (fm d) d.2.2.2.2.2.2.2.2.2.2.2.2.2.2.2.2.2.2.1) (fun x=>(gh x.1 (x.2,()))) (fun d=>((wC d),d.2.2.2.2.2.2.2.1))
theorem ySd:zD prog vFr:=fA f127 n0 (e1 tW) loops0
def vIa:=vX 173 [.c (.own zF),.c (.p .i),.c (.p .i)] (.c (.own zF)) [] 0 (fun k d=>Gm k d.1 d.2.1 d.2.2.1) (fun x=>(x,())) (fun d=>d.1)
theorem yEo:zD prog vIa:=fX f173 ⟨[],[],[],false⟩ 0 e0 loops0
def vC0:=zJ 128 [.c (.dat true zF),.c .i] (.tup [(false,[.fro zF]),(true,oP),(false,vJ)]) (fun k d=>nf k d.1 d.2.1) (fun x=>(MC x ())) (fun d=>(MD d))
theorem nq:zD prog vC0:=fA f128 ⟨[],[],[],false⟩ (e3 tW My yEo) loops0
def vP0:=vX 32 [.ptr true tY,.c (.p .i),.c (.p (.dat false .i))] (.tup []) [iU] 0 (fun k d=>tu k (fm d) d.2.2.2.2.2.2.2.2.2.2.2.2.2.2.2.2.2.2.1 d.2.2.2.2.2.2.2.2.2.2.2.2.2.2.2.2.2.2.2.1) (fun x=>(jL x ())) (fun d=>(fm d))
theorem yC2:zD prog vP0:=fX f32 n0 1 e0 loops0
def vMi:=zJ 130 [.c (.dat true zF),.c .i,.c .i] (.tup [(false,[.fro zF]),(false,vJ)]) (fun k d=>BJ k d.1 d.2.1 d.2.2.1) (fun x=>(x.1,x.2,())) (fun d=>(d.1,d.2.1))
theorem yKy:zD prog vMi:=fA f130 n0 (e2 nq MB) loops0
def yVf:=zJ 128 [.c (.dat false zF),.c .i] (.tup [(false,[.own zF]),(true,oP),(false,vJ)]) (fun k d=>QQ k d.1 d.2.1) (fun x=>(MC x ())) (fun d=>(MD d))
theorem qUs:zD prog yVf:=fA f128 ⟨[],[],[],false⟩ (e3 tW My yEo) loops0
def qYx:zE:=sp [sO 6 0,sP 7 1,sI 9] [oA zF,oB vW]
def yE0 (f:Uv)(d:qYx.den):=f d.1.2.2.1.1 d.2.1 (wC d.2.2.1)
def Uw:zX:=⟨[qYx],[(.exit 0,qYx)],Ux,fun k d=>yE0 (Gv k k) d,fun b x _ K=>K (.exit 0) (zL b qYx (((),(),(x.1,()),()),(x.2.1,(gh x.2.2 ()),())))⟩
def yIm:zY:=⟨[],[(5,Uw)],[],true⟩
theorem vOw:zU prog 1000 0 41 (zO (zS f131) 0) Uw:=lp (A:=yIm) Uw (fun d=>(d.1.2.2.1.1,d.2.1,(wC d.2.2.1))) yE0 Gv BL (e3 qUs DQ Mz) loops0
def vEl:=zJ 131 [.c (.dat true zF),.c .i] (.tup [(false,[.fro zF]),(false,vJ)]) (fun k d=>BM k d.1 d.2.1) (fun x=>(x.1,x.2,())) (fun d=>(d.1,d.2.1))
theorem yHk:zD prog vEl:=fA f131 yIm (e3 qUs DQ Mz) (qC vOw)
def vGn:=zJ 132 [.c (.dat true zF),.c .i] (.tup [(false,[.fro zF]),(false,vJ)]) (fun k d=>BK k d.1 d.2.1) (fun x=>(x.1,x.2,())) (fun d=>(d.1,d.2.1))
theorem yKs:zD prog vGn:=fA f132 n0 (e2 nq MB) loops0
def vL9:=vX 82 [.ptr true tY,.agg vC] (.c .i) [iU] 0 (fun k d=>xd k (fm d) (DV d)) (fun x=>(x.1,(jL x.2 ()))) (fun d=>(d.1,(kP d)))
theorem vLo:zD prog vL9:=fX f82 n0 1 (e8 ySd nq yC2 fN Uk yKy yHk yKs) loops0
def vEg:=vv 174 false yD (.own yD) Qe
theorem vDo:zD prog vEg:=fC f174 ⟨[],[],[],false⟩ e0 loops0
def yZ2:=vv 136 true (.sl .i) (.jun) Qd
theorem yAm:zD prog yZ2:=fC f136 ⟨[],[],[],false⟩ e0 loops0
def yLa:zE:=sp [sO 3 0,(8,.c (.dat true (.sl .i))),sI 9,sI 10] [.pmat]
def yHf:zE:=sp [sO 3 0] [.pmat]
def yCn (f:Uy)(d:yLa.den):=f d.1.2.1.1 d.1.2.2.1.1 d.1.2.2.2.1.1 d.2.1.1 d.2.1.2
def Uz:zX:=⟨[yLa],[(.exit 0,yHf)],(EQ×Nat),fun k d=>yCn (FH k k) d,fun b x _ K=>K (.exit 0) (zL b yHf (((),()),((x.1,x.2),())))⟩
def qVi:zY:=⟨[],[(3,Uz)],[],false⟩
theorem vA0:zU prog 1000 0 22 (zO (zS f175) 0) Uz:=lp (A:=qVi) Uz (fun d=>d.2.1) yCn FH AN (e2 yAm H0) loops0
def vAd:=zJ 175 [.c (.dat true (.sl .i))] (.c (.mat)) (fun k d=>FI k d.1) (fun x=>(x,())) (fun d=>d.1)
theorem vAy:zD prog vAd:=fA f175 qVi (e2 yAm H0) (qC vA0)
def vJk:=zJ 133 [.agg [.dat false yD,.dat true (.sl .i),.dat false .i,.dat true (.sl .i)]] (.agg [.own yD,.mat,.own .i,.mat]) (fun k d=>(yU (eP k) d)) (fun x=>(rq x ())) (fun d=>(rp d))
theorem mr:zD prog vJk:=fA f133 ⟨[],[],[],false⟩ (e3 vDo vAy H0) loops0
def vI3:=zJ 134 [.ptr Ut,.c .i] (.c .bool) (fun k d=>UA k (fm d) d.2.2.2.2.2.2.2.2.2.2.2.2.2.2.2.2.2.2.1) (fun x=>(x,())) (fun d=>d.1)
theorem qTx:zD prog vI3:=fA f134 n0 (e1 fN) loops0
def vOh:=vX 83 [.ptr true tY,.agg vC] (.c .i) [iU] 0 (fun k d=>xe k (fm d) (DV d)) (fun x=>(x.1,(jL x.2 ()))) (fun d=>(d.1,(kP d)))
theorem vHy:zD prog vOh:=fX f83 n0 1 (e3 mr qTx fN) loops0
def yYd:=zJ 135 [.ptr Ut,.c .i] (.c .bool) (fun k d=>H3 k (fm d) d.2.2.2.2.2.2.2.2.2.2.2.2.2.2.2.2.2.2.1) (fun x=>(x,())) (fun d=>d.1)
theorem DW:zD prog yYd:=fA f135 n0 (e1 fN) loops0
def vEn:=vv 136 true (.sl .i) (.own (.sl .i)) Cz
theorem qZm:zD prog vEn:=fC f136 ⟨[],[],[],false⟩ e0 loops0
def vMz:=zJ 137 [.c (.dat false .i),.c .i,.c .i] (.c (.own .i)) (fun k d=>nj k d.1 d.2.1 d.2.2.1) (fun x=>(x,())) (fun d=>d.1)
theorem DX:zD prog vMz:=fA f137 n0 (e1 H0) loops0
def vMq:=vX 84 [.ptr true tY,.c (.p .i),.c (.p .i)] (.c .i) [iU] 0 (fun k d=>Lc k (fm d) d.2.2.2.2.2.2.2.2.2.2.2.2.2.2.2.2.2.2.1 d.2.2.2.2.2.2.2.2.2.2.2.2.2.2.2.2.2.2.2.1) (fun x=>(x.1,(jL x.2 ()))) (fun d=>(d.1,(kP d)))
theorem vN9:zD prog vMq:=fX f84 n0 1 (e6 DW fN qZm DX tV mr) loops0
def vGo:=zJ 203 [.c .i,.c .i] (.tup [(false,vJ),(false,[.bool])]) (fun k d=>Ld k d.1 d.2.1) (fun x=>(x.1,x.2,())) (fun d=>(d.1,d.2.1))
theorem vCn:zD prog vGo:=fA f203 ⟨[],[],[],false⟩ e0 loops0
def vDj:=zJ 176 [.agg lC,.c .i] (.tup [(true,[.i,.i,.i]),(false,vJ)]) (fun k d=>GY k (d.1,d.2.1,d.2.2.1) d.2.2.2.1) (fun x=>(x.1.1,x.1.2.1,x.1.2.2,x.2,())) (fun d=>((d.1,d.2.1,d.2.2.1),d.2.2.2.1))
theorem yPg:zD prog vDj:=fA f176 n0 (e2 vCn F4q) loops0
def yZr:=zJ 138 [.agg lC,.c .i] (.tup [(true,[.i,.i,.i]),(false,vJ)]) (fun k d=>CM k (d.1,d.2.1,d.2.2.1) d.2.2.2.1) (fun x=>(x.1.1,x.1.2.1,x.1.2.2,x.2,())) (fun d=>((d.1,d.2.1,d.2.2.1),d.2.2.2.1))
theorem yHz:zD prog yZr:=fA f138 n0 (e1 yPg) loops0
def vF3:=zJ 177 [.agg lC,.c .i] (.c .i) (fun k d=>(yU (sR k) d)) (fun x=>(x,())) (fun d=>d.1)
theorem ME:zD prog vF3:=fA f177 ⟨[],[],[],false⟩ e0 loops0
def yZw:=zJ 139 [.agg lC,.c .i,.c .i] (.tup [(true,[.i,.i,.i]),(false,vJ)]) (fun k d=>CN k (d.1,d.2.1,d.2.2.1) d.2.2.2.1 d.2.2.2.2.1) (fun x=>(x.1.1,x.1.2.1,x.1.2.2,x.2,())) (fun d=>((d.1,d.2.1,d.2.2.1),d.2.2.2.1))
theorem yRl:zD prog yZw:=fA f139 n0 (e2 yPg ME) loops0
def vJa:=zJ 140 [.agg lC,.c .i] (.c .i) (fun k d=>CO k (d.1,d.2.1,d.2.2.1) d.2.2.2.1) (fun x=>(x,())) (fun d=>d.1)
theorem yQ6:zD prog vJa:=fA f140 n0 e0 loops0
def vFj:=vX 85 [.ptr true tY,.c (.p .i),.c (.p .i),.c (.p .i)] (.c .i) [iU] 0 (fun k d=>UB k (fm d) d.2.2.2.2.2.2.2.2.2.2.2.2.2.2.2.2.2.2.1 d.2.2.2.2.2.2.2.2.2.2.2.2.2.2.2.2.2.2.2.1 d.2.2.2.2.2.2.2.2.2.2.2.2.2.2.2.2.2.2.2.2.1) (fun x=>(x.1,(jL x.2 ()))) (fun d=>(d.1,(kP d)))
theorem vO9:zD prog vFj:=fX f85 n0 1 (e5 fN yHz yRl yQ6 mr) loops0
def yNf:zE:=sp [sP 0 0,sO 7 2,sP 8 3,(40,.c (.dat true (.sl .i))),sI 41,sI 42] [oB UC,oA yM,oA .i,oB qVn,oA yD,.mat,oA .i,.mat]
def yKw:zE:=sp [sP 0 0,sO 7 2,sP 8 3] [oB UC,oA yM,oA .i,oB qVn,oA yD,.mat,oA .i,.mat]
def qU7:zE:=sp [sP 0 0,sI 6] [oB UC,oA yM]
def qUw (f:UD)(d:yNf.den):=f d.1.2.2.2.1.1 d.1.2.2.2.2.1.1 d.1.2.2.2.2.2.1.1 (iV d.2.1) d.2.2.1 d.2.2.2.1 d.2.2.2.2.2.1 d.2.2.2.2.2.2.1 d.2.2.2.2.2.2.2.1 d.2.2.2.2.2.2.2.2.1
def UE:zX:=⟨[yNf],[(.exit 0,yKw),(.ret,qU7)],UF,fun k d=>qUw (UG k k) d,fun b x _ K=>match x with|.inl x=>K (.exit 0) (zL b yKw (((),(),(),()),((vA x.1 ()),x.2.1,x.2.2.1,(),x.2.2.2.1,x.2.2.2.2.1,x.2.2.2.2.2.1,x.2.2.2.2.2.2,())))|.inr x=>K .ret (zL b qU7 (((),(x.1,()),()),((vA x.2.1 ()),x.2.2,())))⟩
def qZj:zY:=⟨[],[(6,UE)],[],true⟩
theorem vFz:zU prog 1000 1 81 (zO (zS f86) 0) UE:=lp (A:=qZj) UE (fun d=>match d with|.inl d=>.inl ((iV d.2.1),d.2.2.1,d.2.2.2.1,d.2.2.2.2.2.1,d.2.2.2.2.2.2.1,d.2.2.2.2.2.2.2.1,d.2.2.2.2.2.2.2.2.1)|.inr d=>.inr (d.1.2.1.1,(iV d.2.1),d.2.2.1)) qUw UG qZv (e5 DW fN DX mr tV) loops0
def yUf:=vX 86 [.ptr true tY,.c (.p .i),.c (.p .i)] (.c .i) [iU] 0 (fun k d=>qV8 k (fm d) d.2.2.2.2.2.2.2.2.2.2.2.2.2.2.2.2.2.2.1 d.2.2.2.2.2.2.2.2.2.2.2.2.2.2.2.2.2.2.2.1) (fun x=>(x.1,(jL x.2 ()))) (fun d=>(d.1,(kP d)))
theorem vN7:zD prog yUf:=fX f86 qZj 1 (e5 DW fN DX mr tV) (qC vFz)
def vLt:=vX 33 [.ptr true tY,.agg vC] (.c .i) [iU] 0 (fun k d=>LP k (fm d) (DV d)) (fun x=>(x.1,(jL x.2 ()))) (fun d=>(d.1,(kP d)))
theorem vNl:zD prog vLt:=fX f33 n0 1 (e6 vJb vLo vHy vN9 vO9 vN7) loops0
def vMw:=zJ 89 [.c .i,.c .i,.c (.dat false .i)] (.agg [.i,.i,.i,.i,.i,.i,.i,.i]) (fun k d=>nn k d.1 d.2.1 d.2.2.1) (fun x=>(Mw x ())) (fun d=>(DT d))
theorem tZ:zD prog vMw:=fA f89 ⟨[],[],[],false⟩ e0 loops0
def yOs:zE:=⟨[sP 1 0,sP 2 1,sO 4 2,(10,.c (.dat true zF)),sI 11,sI 12],[oB mu,oB iT,oA yM],[(4,none,yM,false)]⟩
def yHv:zE:=sp [sP 1 0,sP 2 1,sO 4 2] [oB mu,oB iT,oA yM]
def yPn (f:UH)(d:yOs.den):=(oO (f d.1.2.2.2.1.1 d.1.2.2.2.2.1.1 d.1.2.2.2.2.2.1.1) d.2.1) d.2.2.1.1 d.2.2.1.2.1 d.2.2.1.2.2.1 d.2.2.2.1
def MF:zX:=⟨[yOs],[(.exit 0,yHv)],UI,fun k d=>yPn (Cp k k) d,fun b x _ K=>K (.exit 0) (zL b yHv (((),(),(),()),((ua x ()),(x.2.2.2.2.2.2.2.2.2.2.2.1,x.2.2.2.2.2.2.2.2.2.2.2.2.1,x.2.2.2.2.2.2.2.2.2.2.2.2.2.1,()),x.2.2.2.2.2.2.2.2.2.2.2.2.2.2,())))⟩
def qZt:zE:=sp [sP 1 0,sP 2 1,sO 4 2,(28,.c (.dat true yD)),sI 29,sI 30] [oB mu,oB iT,oA yM]
def qX5 (f:UJ)(d:qZt.den):=(oO (f d.1.2.2.2.1.1 d.1.2.2.2.2.1.1 d.1.2.2.2.2.2.1.1) d.2.1) d.2.2.1.1 d.2.2.1.2.1 d.2.2.1.2.2.1 d.2.2.2.1
def MG:zX:=⟨[qZt],[(.exit 2,yHv)],UI,fun k d=>qX5 (GU k k) d,fun b x _ K=>K (.exit 2) (zL b yHv (((),(),(),()),((ua x ()),(x.2.2.2.2.2.2.2.2.2.2.2.1,x.2.2.2.2.2.2.2.2.2.2.2.2.1,x.2.2.2.2.2.2.2.2.2.2.2.2.2.1,()),x.2.2.2.2.2.2.2.2.2.2.2.2.2.2,())))⟩
def UL:zY:=⟨[],[(3,MF),(8,MG)],[],false⟩
theorem yZt:zU prog 1000 0 48 (zO (zS f87) 0) MF:=lp (A:=UL) MF (fun d=>(ua d.2.1 (d.2.2.1.1,d.2.2.1.2.1,d.2.2.1.2.2.1,d.2.2.2.1))) yPn Cp Cq (e1 tZ) loops0
theorem vMm:zU prog 1000 0 48 (zO (zS f87) 1) MG:=lp (A:=UL) MG (fun d=>(ua d.2.1 (d.2.2.1.1,d.2.2.1.2.1,d.2.2.1.2.2.1,d.2.2.2.1))) qX5 GU Ct (e1 tZ) loops0
def vEa:=zJ 87 [.agg rr] (.tup [(true,[.i,.fro yD,.fro (.sl .i),.fro .i,.fro (.sl .i),.fro .i,.fro (.sl .i),.own zF,.fro .i,.i,.bool]),(false,[.own yM])]) (fun k d=>(oO (K9 k) d)) (fun x=>(DY x ())) (fun d=>(DZ d))
theorem qZh:zD prog vEa:=fA f87 UL (e1 tZ) (nV (n:=2) (by kernel_rfl) fun i hi=>match i,hi with|0,_=>⟨MF,by kernel_rfl,yZt⟩|1,_=>⟨MG,by kernel_rfl,vMm⟩|i+2,hi=>absurd hi (by omega))
def vNe:=zJ 88 [.agg vC,.c .i] (.c .bool) (fun k d=>(ka (Rc k) d)) (fun x=>(x,())) (fun d=>d.1)
theorem yRi:zD prog vNe:=fA f88 ⟨[],[],[],false⟩ e0 loops0
def yV6:=zJ 90 [.agg fM,.c .i] (.c .bool) (fun k d=>(gU (Cw k) d)) (fun x=>(x,())) (fun d=>d.1)
theorem yDg:zD prog yV6:=fA f90 ⟨[],[],[],false⟩ e0 loops0
def vOq:=zJ 210 [.agg vC,.c .i] (.c .bool) (fun k d=>(ka (Qz k) d)) (fun x=>(x,())) (fun d=>d.1)
theorem vBl:zD prog vOq:=fA f210 ⟨[],[],[],false⟩ e0 loops0
def vOa:=zJ 209 [.agg vC,.ptr [.i]] (.c .bool) (fun k d=>(ka (Qy k) d)) (fun x=>(x,())) (fun d=>d.1)
theorem yI1:zD prog vOa:=fA f209 ⟨[],[],[],false⟩ (e1 vBl) loops0
def yB7:zE:=⟨[(1,.c (.lit (.fn 209 [1001000]))),sO 5 1,(8,.c (.dat false zF)),sI 9,sI 10],[.robox [.i],oA zF],[(5,none,zF,false)]⟩
def yOc (f:Ug)(d:yB7.den):=f d.1.2.2.1.1 d.1.2.2.2.1.1 d.1.2.2.2.2.1.1 d.2.1.1 d.2.2.1
def UN:zX:=⟨[yB7],[(.exit 0,yMz)],Ui,fun k d=>yOc (Gd k k) d,fun b x _ K=>K (.exit 0) (zL b yMz (((),()),(x,())))⟩
def yD9:zY:=⟨[],[(3,UN)],[],false⟩
theorem vG2:zU prog 1000 0 23 (zO (zS f122) 0) UN:=lp (A:=yD9) UN (fun d=>d.2.1) yOc Gd Bp (e1 yI1) loops0
def vP8:=zJ 122 [.c (.dat false zF),.fn 209 [[.i]]] (.c (.own zF)) (fun k d=>Qx k d.1 d.2.1) (fun x=>(x,())) (fun d=>d.1)
theorem vF2:zD prog vP8:=fA f122 yD9 (e1 yI1) (qC vG2)
def vBw:=zJ 182 [.c (.dat false zF),.c .i] (.c (.own zF)) (fun k d=>Bo k d.1 d.2.1) (fun x=>(x,())) (fun d=>d.1)
theorem xJ:zD prog vBw:=fA f182 ⟨[],[],[],false⟩ (e1 vF2) loops0
def vDi:=zJ 237 [.agg vC,.ptr vC] (.c .bool) (fun k d=>(DP (QD k) d)) (fun x=>(x,())) (fun d=>d.1)
theorem yNi:zD prog vDi:=fA f237 ⟨[],[],[],false⟩ e0 loops0
def yL8:zE:=sp [(0,.c (.dat false zF)),(1,.c (.lit (.fn 237 [1001000]))),sI 7,sI 8] [.robox vW]
def yPa (f:UP)(d:yL8.den):=(kb (f d.1.1.1 d.1.2.2.1.1 d.1.2.2.2.1.1) d.2.1)
def UQ:zX:=⟨[yL8],[(.exit 0,qVj),(.ret,yId)],(Unit⊕Int),fun k d=>yPa (Gj k k) d,fun b x _ K=>match x with|.inl x=>K (.exit 0) (zL b qVj ((),()))|.inr x=>K .ret (zL b yId (((x,()),()),()))⟩
def qVk:zY:=⟨[],[(2,UQ)],[],false⟩
theorem vM7:zU prog 1000 0 19 (zO (zS f93) 0) UQ:=lp (A:=qVk) UQ (fun d=>match d with|.inl d=>.inl ()|.inr d=>.inr d.1.1.1) yPa Gj Bx (e1 yNi) loops0
def yV5:=zJ 93 [.c (.dat false zF),.fn 237 [vC]] (.c .i) (fun k d=>(ka (QE k) d)) (fun x=>(x,())) (fun d=>d.1)
theorem vHw:zD prog yV5:=fA f93 qVk (e1 yNi) (qC vM7)
def yVh:=zJ 64 [.c (.dat false zF),.fn 237 [vC]] (.c .bool) (fun k d=>(ka (KB k) d)) (fun x=>(x,())) (fun d=>d.1)
theorem vKy:zD prog yVh:=fA f64 ⟨[],[],[],false⟩ (e1 vHw) loops0
def vNk:=vX 236 [.agg vC,.ptr true [.map],.ptr false [.p (.dat false zF)]] (.c .bool) [[.map]] 0 (fun k d=>(MH (QG k) d)) (fun x=>(x.1,x.2,())) (fun d=>(d.1,d.2.1))
theorem qX9:zD prog vNk:=fX f236 ⟨[],[],[],false⟩ 3 (e1 vKy) loops0
def yCc:zE:=⟨[(1,.c (.lit (.fn 236 [1001000,1001002]))),sO 5 3,(8,.c (.dat false zF)),sI 9,sI 10],[oB [.lit (.map 1001001)],.imap,.robox [.dat false zF],oA zF],[(5,none,zF,false)]⟩
def yE7:zE:=sp [(1,.c (.lit (.fn 236 [1001000,1001002]))),sO 5 3] [oB [.lit (.map 1001001)],.imap,.robox [.dat false zF],oA zF]
def qUo (f:UR)(d:yCc.den):=f d.1.2.2.1.1 d.1.2.2.2.1.1 d.1.2.2.2.2.1.1 d.2.2.1 d.2.2.2.1.1 d.2.2.2.2.1
def US:zX:=⟨[yCc],[(.exit 0,yE7)],UT,fun k d=>qUo (By k k) d,fun b x _ K=>K (.exit 0) (zL b yE7 (((),(),()),((),x.1,(x.2.1,()),x.2.2,())))⟩
def qV2:zY:=⟨[],[(3,US)],[],false⟩
theorem vCb:zU prog 1000 2 23 (zO (zS f122) 0) US:=lp (A:=qV2) US (fun d=>(d.2.2.1,d.2.2.2.1.1,d.2.2.2.2.1)) qUo By Bz (e1 qX9) loops0
def yWv:=vX 122 [.c (.p (.dat false zF)),.fn 236 [(true,[.map]),(false,[.p (.dat false zF)])]] (.c (.own zF)) [[.map]] 0 (fun k d=>QF k d.1 d.2.1 d.2.2.1) (fun x=>(x.1,x.2,())) (fun d=>(d.1,d.2.1))
theorem yV0:zD prog yWv:=fX f122 qV2 2 (e1 qX9) (qC vCb)
def yW5:=zJ 224 [.c (.dat false zF),.c .i] (.c (.own zF)) (fun k d=>Gk k d.1 d.2.1) (fun x=>(x,())) (fun d=>d.1)
theorem H4:zD prog yW5:=fA f224 ⟨[],[],[],false⟩ (e2 xJ yV0) loops0
def yXv:=zJ 238 [.agg vC,.ptr wN] (.c .bool) (fun k d=>(oO (Qu k) d)) (fun x=>(x,())) (fun d=>d.1)
theorem yM6:zD prog yXv:=fA f238 ⟨[],[],[],false⟩ (e1 S1) loops0
def qUa:zE:=sp [(0,.c (.dat false zF)),(1,.c (.lit (.fn 238 [1001000]))),sI 7,sI 8] [.robox wU]
def yPr (f:UU)(d:qUa.den):=(yU (f d.1.1.1 d.1.2.2.1.1 d.1.2.2.2.1.1) d.2.1)
def UW:zX:=⟨[qUa],[(.exit 0,qVj),(.ret,yId)],(Unit⊕Int),fun k d=>yPr (Ga k k) d,fun b x _ K=>match x with|.inl x=>K (.exit 0) (zL b qVj ((),()))|.inr x=>K .ret (zL b yId (((x,()),()),()))⟩
def yNt:zY:=⟨[],[(2,UW)],[],false⟩
theorem vPg:zU prog 1000 0 19 (zO (zS f93) 0) UW:=lp (A:=yNt) UW (fun d=>match d with|.inl d=>.inl ()|.inr d=>.inr d.1.1.1) yPr Ga Bn (e1 yM6) loops0
def vLy:=zJ 93 [.c (.dat false zF),.fn 238 [wN]] (.c .i) (fun k d=>(iW (Qv k) d)) (fun x=>(x,())) (fun d=>d.1)
theorem yZ0:zD prog vLy:=fA f93 yNt (e1 yM6) (qC vPg)
def vGx:=zJ 64 [.c (.dat false zF),.fn 238 [wN]] (.c .bool) (fun k d=>(iW (Kx k) d)) (fun x=>(x,())) (fun d=>d.1)
theorem vOr:zD prog vGx:=fA f64 ⟨[],[],[],false⟩ (e1 yZ0) loops0
def qWf:zE:=sp [sP 4 0,sP 5 1,(15,.c (.dat false zF)),sI 16,sI 17] [oB [.lit .nsl,.lit .nsl,.lit .nsl],oB UX,oA .i,oA .i,.mat]
def yQp:zE:=sp [sP 4 0,sP 5 1] [oB [.lit .nsl,.lit .nsl,.lit .nsl],oB UX,oA .i,oA .i,.mat]
def yAl (f:UY)(d:qWf.den):=f d.1.2.2.1.1 d.1.2.2.2.1.1 d.1.2.2.2.2.1.1 d.2.2.2.1 d.2.2.2.2.1 d.2.2.2.2.2.1
def UZ:zX:=⟨[qWf],[(.exit 0,yQp)],U0,fun k d=>yAl (F6 k k) d,fun b x _ K=>K (.exit 0) (zL b yQp (((),(),()),((),(),x.1,x.2.1,x.2.2,())))⟩
def qW4:zY:=⟨[],[(3,UZ)],[],false⟩
theorem vNa:zU prog 1000 0 84 (zO (zS f226) 0) UZ:=lp (A:=qW4) UZ (fun d=>(d.2.2.2.1,d.2.2.2.2.1,d.2.2.2.2.2.1)) yAl F6 Bf (e2 xI HY) loops0
def yZk:=zJ 226 [.c .i,.c (.dat false zF)] (.agg [.own .i,.own .i,.mat]) (fun k d=>Ks k d.1 d.2.1) (fun x=>(x.1,x.2.1,x.2.2,())) (fun d=>(d.1,d.2.1,d.2.2.1))
theorem yEe:zD prog yZk:=fA f226 qW4 (e2 xI HY) (qC vNa)
def vKr:=zJ 227 [.agg vC,.ptr [.i]] (.c .bool) (fun k d=>(ka (Qo k) d)) (fun x=>(x,())) (fun d=>d.1)
theorem ySb:zD prog vKr:=fA f227 ⟨[],[],[],false⟩ e0 loops0
def yF2:zE:=sp [(0,.c (.dat false zF)),(1,.c (.lit (.fn 227 [1001000]))),sI 7,sI 8] [.robox [.i]]
def yOg (f:SO)(d:yF2.den):=f d.1.1.1 d.1.2.2.1.1 d.1.2.2.2.1.1 d.2.1.1
def U2:zX:=⟨[yF2],[(.exit 0,qVj),(.ret,yId)],(Unit⊕Int),fun k d=>yOg (F7 k k) d,fun b x _ K=>match x with|.inl x=>K (.exit 0) (zL b qVj ((),()))|.inr x=>K .ret (zL b yId (((x,()),()),()))⟩
def yQy:zY:=⟨[],[(2,U2)],[],false⟩
theorem vPl:zU prog 1000 0 19 (zO (zS f93) 0) U2:=lp (A:=yQy) U2 (fun d=>match d with|.inl d=>.inl ()|.inr d=>.inr d.1.1.1) yOg F7 Bg (e1 ySb) loops0
def vGt:=zJ 93 [.c (.dat false zF),.fn 227 [[.i]]] (.c .i) (fun k d=>Qp k d.1 d.2.1) (fun x=>(x,())) (fun d=>d.1)
theorem vLv:zD prog vGt:=fA f93 yQy (e1 ySb) (qC vPl)
def vJ8:=zJ 64 [.c (.dat false zF),.fn 227 [[.i]]] (.c .bool) (fun k d=>Kt k d.1 d.2.1) (fun x=>(x,())) (fun d=>d.1)
theorem yIp:zD prog vJ8:=fA f64 ⟨[],[],[],false⟩ (e1 vLv) loops0
def yL7:zE:=sp [sI 5,(12,.c (.dat false .i)),sI 13,sI 14] []
def qXe:zE:=sp [sI 5] []
def yEk (f:Int→AC→Int→Int→Option Int)(d:yL7.den):=f d.1.1.1 d.1.2.1.1 d.1.2.2.1.1 d.1.2.2.2.1.1
def U3:zX:=⟨[yL7],[(.exit 0,qXe)],Int,fun k d=>yEk (Ba k k) d,fun b x _ K=>K (.exit 0) (zL b qXe (((x,()),()),()))⟩
def yDc:zY:=⟨[],[(3,U3)],[],false⟩
theorem vSe:zU prog 1000 0 23 (zO (zS f239) 0) U3:=lp (A:=yDc) U3 (fun d=>d.1.1.1) yEk Ba Bb e0 loops0
def vN2:=zJ 239 [.agg wN,.c .i] (.c .i) (fun k d=>(iW (Kp k) d)) (fun x=>(x,())) (fun d=>d.1)
theorem yPp:zD prog vN2:=fA f239 yDc e0 (qC vSe)
def yWz:=zJ 240 [.c .i,.c .i] (.c .bool) (fun k d=>Bi k d.1 d.2.1) (fun x=>(x,())) (fun d=>d.1)
theorem U4:zD prog yWz:=fA f240 ⟨[],[],[],false⟩ e0 loops0
def vF1:=zJ 241 [.agg vC,.ptr [.i],.ptr lC,.ptr MI,.ptr [.i],.ptr wN] (.c .bool) (fun k d=>(yX9 (Qq k) d)) (fun x=>(x,())) (fun d=>d.1)
theorem yMs:zD prog vF1:=fA f241 ⟨[],[],[],false⟩ (e2 ME U4) loops0
def qT7:zE:=sp [(0,.c (.dat false zF)),(1,.c (.lit (.fn 241 [1001000,1001001,1001002,1001003,1001004]))),sI 7,sI 8] [.robox [.i],.robox [.i,.i,.i],.robox U5,.robox [.i],.robox wU]
def yD1 (f:U6)(d:qT7.den):=(yU (f d.1.1.1 d.1.2.2.1.1 d.1.2.2.2.1.1 d.2.1.1 d.2.2.1.1 d.2.2.1.2.1 d.2.2.1.2.2.1 d.2.2.2.1.1 d.2.2.2.1.2.1 d.2.2.2.1.2.2.1 d.2.2.2.2.1.1) d.2.2.2.2.2.1)
def U7:zX:=⟨[qT7],[(.exit 0,qVj),(.ret,yId)],(Unit⊕Int),fun k d=>yD1 (F9 k k) d,fun b x _ K=>match x with|.inl x=>K (.exit 0) (zL b qVj ((),()))|.inr x=>K .ret (zL b yId (((x,()),()),()))⟩
def yFx:zY:=⟨[],[(2,U7)],[],false⟩
theorem yXu:zU prog 1000 0 19 (zO (zS f93) 0) U7:=lp (A:=yFx) U7 (fun d=>match d with|.inl d=>.inl ()|.inr d=>.inr d.1.1.1) yD1 F9 Bj (e1 yMs) loops0
def vCq:=zJ 93 [.c (.dat false zF),.fn 241 [[.i],lC,MI,[.i],wN]] (.c .i) (fun k d=>(U8 (Qr k) d)) (fun x=>(x,())) (fun d=>d.1)
theorem yVk:zD prog vCq:=fA f93 yFx (e1 yMs) (qC yXu)
def vAk:=zJ 64 [.c (.dat false zF),.fn 241 [[.i],lC,MI,[.i],wN]] (.c .bool) (fun k d=>(U8 (Ku k) d)) (fun x=>(x,())) (fun d=>d.1)
theorem yR8:zD prog vAk:=fA f64 ⟨[],[],[],false⟩ (e1 yVk) loops0
def yBo:zE:=sp [(3,.c (.dat false zF)),sP 4 0,sP 5 1,sP 6 2,sP 9 3,sP 10 4,sI 11,(39,.c (.dat false .i)),sI 40,sI 41] [oB U5,oB wU,oB [.i],oB [.i,.i,.i],oB [.i]]
def yP1:zE:=sp [(3,.c (.dat false zF)),sP 4 0,sP 5 1,sP 6 2,sP 9 3,sP 10 4,sI 11] [oB U5,oB wU,oB [.i],oB [.i,.i,.i],oB [.i]]
def qUf (f:U9)(d:yBo.den):=(yU (f d.1.1.1 d.1.2.2.2.2.2.2.1.1 d.1.2.2.2.2.2.2.2.1.1 d.1.2.2.2.2.2.2.2.2.1.1 d.1.2.2.2.2.2.2.2.2.2.1.1 d.2.1.1 d.2.1.2.1 d.2.1.2.2.1) d.2.2.1) d.2.2.2.1.1 d.2.2.2.2.1.1 d.2.2.2.2.1.2.1 d.2.2.2.2.1.2.2.1 d.2.2.2.2.2.1.1
def Va:zX:=⟨[yBo],[(.exit 0,yP1)],Vb,fun k d=>qUf (wi k k) d,fun b x _ K=>K (.exit 0) (zL b yP1 (((x.1,()),(),(),(),(),(),(x.2.1,()),()),((x.2.2.1,x.2.2.2.1,x.2.2.2.2.1,()),(vG4 x ()),(x.2.2.2.2.2.2.2.2.2.1,()),(x.2.2.2.2.2.2.2.2.2.2.1,x.2.2.2.2.2.2.2.2.2.2.2.1,x.2.2.2.2.2.2.2.2.2.2.2.2.1,()),(x.2.2.2.2.2.2.2.2.2.2.2.2.2,()),())))⟩
def yHc:zY:=⟨[],[(7,Va)],[],false⟩
theorem yXr:zU prog 1000 0 59 (zO (zS f228) 0) Va:=lp (A:=yHc) Va (fun d=>(d.1.1.1,d.1.2.2.2.2.2.2.1.1,d.2.1.1,d.2.1.2.1,d.2.1.2.2.1,(vG d.2.2.1 (d.2.2.2.1.1,d.2.2.2.2.1.1,d.2.2.2.2.1.2.1,d.2.2.2.2.1.2.2.1,d.2.2.2.2.2.1.1)))) qUf wi Bk (e3 yPp U4 yR8) loops0
def vFk:=zJ 228 [.agg MI,.agg wN,.c .i,.c (.dat false zF)] (.c .bool) (fun k d=>(MH (Kw k) d)) (fun x=>(x,())) (fun d=>d.1)
theorem qXu:zD prog vFk:=fA f228 yHc (e3 yPp U4 yR8) (qC yXr)
def yI8:zE:=⟨[(1,.c (.dat false zF)),sP 2 0,sP 5 1,sO 6 5,sI 16,sI 17],[oB wU,oB UX,oA .i,oA .i,.mat,oA .i],[(6,none,.i,false)]⟩
def yBf (f:Vc)(d:yI8.den):=(yU (f d.1.1.1 d.1.2.2.2.2.1.1 d.1.2.2.2.2.2.1.1) d.2.1) d.2.2.2.1 d.2.2.2.2.1 d.2.2.2.2.2.1 d.2.2.2.2.2.2.1
def Vd:zX:=⟨[yI8],[(.exit 0,yGp)],AC,fun k d=>yBf (Bl k k) d,fun b x _ K=>K (.exit 0) (zL b yGp (((),()),(x,())))⟩
def qZ0:zY:=⟨[],[(4,Vd)],[],false⟩
theorem vR7:zU prog 1000 0 37 (zO (zS f206) 0) Vd:=lp (A:=qZ0) Vd (fun d=>d.2.1) yBf Bl Bm (e3 yEe yIp qXu) loops0
def yYc:=zJ 206 [.agg wN,.c (.dat false zF)] (.c (.own .i)) (fun k d=>(iW (wj k) d)) (fun x=>(x,())) (fun d=>d.1)
theorem H5:zD prog yYc:=fA f206 qZ0 (e3 yEe yIp qXu) (qC vR7)
def vB9:=zJ 225 [.agg wN,.c (.dat false zF)] (.c .bool) (fun k d=>(iW (wk k) d)) (fun x=>(x,())) (fun d=>d.1)
theorem H6:zD prog vB9:=fA f225 ⟨[],[],[],false⟩ (e2 vOr H5) loops0
def vMg:=zJ 211 [.agg vC,.ptr wN] (.c .bool) (fun k d=>(oO (Qg k) d)) (fun x=>(x,())) (fun d=>d.1)
theorem yQz:zD prog vMg:=fA f211 ⟨[],[],[],false⟩ (e1 S1) loops0
def qVh:zE:=sp [(0,.c (.dat false zF)),(1,.c (.lit (.fn 211 [1001000]))),sI 7,sI 8] [.robox wU]
def yQk (f:UU)(d:qVh.den):=(yU (f d.1.1.1 d.1.2.2.1.1 d.1.2.2.2.1.1) d.2.1)
def Vf:zX:=⟨[qVh],[(.exit 0,qVj),(.ret,yId)],(Unit⊕Int),fun k d=>yQk (FR k k) d,fun b x _ K=>match x with|.inl x=>K (.exit 0) (zL b qVj ((),()))|.inr x=>K .ret (zL b yId (((x,()),()),()))⟩
def qZo:zY:=⟨[],[(2,Vf)],[],false⟩
theorem yTj:zU prog 1000 0 19 (zO (zS f93) 0) Vf:=lp (A:=qZo) Vf (fun d=>match d with|.inl d=>.inl ()|.inr d=>.inr d.1.1.1) yQk FR AT (e1 yQz) loops0
def vI4:=zJ 93 [.c (.dat false zF),.fn 211 [wN]] (.c .i) (fun k d=>(iW (Qh k) d)) (fun x=>(x,())) (fun d=>d.1)
theorem vAx:zD prog vI4:=fA f93 qZo (e1 yQz) (qC yTj)
def yVj:=zJ 64 [.c (.dat false zF),.fn 211 [wN]] (.c .bool) (fun k d=>(iW (J8 k) d)) (fun x=>(x,())) (fun d=>d.1)
theorem yLo:zD prog yVj:=fA f64 ⟨[],[],[],false⟩ (e1 vAx) loops0
def yGl:zE:=sp [sP 2 0,sP 4 1,sP 7 2,(24,.c (.dat false zF)),sI 25,sI 26] [oB vU,oB lD,oB oR,oA yD,.mat,oA .i,.mat]
def yF3:zE:=sp [sP 2 0,sP 4 1,sP 7 2] [oB vU,oB lD,oB oR,oA yD,.mat,oA .i,.mat]
def yGd (f:Vg)(d:yGl.den):=(yU (f d.1.2.2.2.1.1 d.1.2.2.2.2.1.1 d.1.2.2.2.2.2.1.1) d.2.1) d.2.2.2.2.1 d.2.2.2.2.2.1 d.2.2.2.2.2.2.1 d.2.2.2.2.2.2.2.1
def Vh:zX:=⟨[yGl],[(.exit 0,yF3)],Vi,fun k d=>yGd (AW k k) d,fun b x _ K=>K (.exit 0) (zL b yF3 (((),(),(),()),((vG x ()),(),(),x.2.2.2.2.1,x.2.2.2.2.2.1,x.2.2.2.2.2.2.1,x.2.2.2.2.2.2.2,())))⟩
def qTw:zY:=⟨[],[(6,Vh)],[],false⟩
theorem yVt:zU prog 1000 0 104 (zO (zS f183) 0) Vh:=lp (A:=qTw) Vh (fun d=>(vG d.2.1 (d.2.2.2.2.1,d.2.2.2.2.2.1,d.2.2.2.2.2.2.1,d.2.2.2.2.2.2.2.1))) yGd AW AY (e4 yLo mr ME Mb) loops0
def vNc:=zJ 183 [.agg iJ,.c (.dat false zF)] (.tup [(true,kQ),(false,vJ)]) (fun k d=>(iW (mZ k) d)) (fun x=>(jZ x ())) (fun d=>(qZ d))
theorem xK:zD prog vNc:=fA f183 qTw (e4 yLo mr ME Mb) (qC yVt)
def yNr:zE:=sp [sP 3 0,sP 6 1,sP 7 2,sO 15 3,sI 16,sI 17] [oB vU,oB vW,oB lD,oA zF]
def qV9:zE:=sp [sP 3 0,sP 6 1,sP 7 2] [oB vU,oB vW,oB lD]
def qZb:zE:=sp [sP 6 0,sP 7 1,(8,.c .bool)] [oB vW,oB vU]
def yEa (f:Vj)(d:yNr.den):=(kb (yU (f d.1.2.2.2.2.1.1 d.1.2.2.2.2.2.1.1) d.2.1) d.2.2.1) d.2.2.2.2.1
def Vk:zX:=⟨[yNr],[(.exit 0,qV9),(.ret,qZb)],Vl,fun k d=>yEa (GA k k) d,fun b x _ K=>match x with|.inl x=>K (.exit 0) (zL b qV9 (((),(),(),()),((vG x ()),(vQ6 x ()),(),())))|.inr x=>K .ret (zL b qZb (((),(),(x.1,()),()),((Vm x ()),(yZ7 x ()),())))⟩
def qUm:zY:=⟨[],[(2,Vk)],[],false⟩
theorem vGp:zU prog 1000 0 40 (zO (zS f204) 0) Vk:=lp (A:=qUm) Vk (fun d=>match d with|.inl d=>.inl (vG d.2.1 (wC d.2.2.1))|.inr d=>.inr (d.1.2.2.1.1,(gQ d.2.1 (rp d.2.2.1)))) yEa GA BY (e3 H4 H6 xK) loops0
def vEo:=zJ 204 [.agg iJ,.c (.dat true zF),.c .i] (.tup [(true,oP),(true,kQ),(false,[.bool])]) (fun k d=>(gU (KT k) d)) (fun x=>(DY x ())) (fun d=>(DZ d))
theorem yLp:zD prog vEo:=fA f204 qUm (e3 H4 H6 xK) (qC vGp)
def yGu:zE:=⟨[sI 2,sP 6 0,(7,.c (.dat true zF)),sO 8 1],[oB vU,oA zF],[(8,none,zF,false)]⟩
def qYm:zE:=sp [sP 6 0,(7,.c (.dat true zF)),sO 8 1] [oB vU,oA zF]
def yJn (f:Vn)(d:yGu.den):=(yU (f d.1.1.1 d.1.2.2.1.1) d.2.1) d.2.2.1
def Vo:zX:=⟨[yGu],[(.ret,qYm)],Vp,fun k d=>yJn (GB k k) d,fun b x _ K=>K .ret (zL b qYm (((),(x.1,()),(),()),((fO x ()),x.2.2.2.2.2,())))⟩
def yOb:zY:=⟨[],[(2,Vo)],[],false⟩
theorem vF6:zU prog 1000 0 40 (zO (zS f178) 0) Vo:=lp (A:=yOb) Vo (fun d=>(d.1.2.1.1,(vG d.2.1 d.2.2.1))) yJn GB B1 (e2 yLp nq) loops0
def vSa:=zJ 178 [.agg iJ,.c (.dat true zF),.c .i] (.tup [(true,kQ),(false,[.fro zF]),(false,[.own zF])]) (fun k d=>(gU (KU k) d)) (fun x=>(lE x ())) (fun d=>(kR d))
theorem yA7:zD prog vSa:=fA f178 yOb (e2 yLp nq) (qC vF6)
def yNj:zE:=sp [sP 3 0,sP 6 1,sO 8 2,sP 10 3,sO 18 2,sI 19,sI 20,sO 24 2,sI 25,sI 26] [oB vU,oB MJ,oA zF,oB vW]
def qT8:zE:=sp [sP 3 0,sP 6 1,sO 8 2,sO 18 2,sI 19,sI 20] [oB vU,oB MJ,oA zF]
def qYt:zE:=sp [sP 6 0,(7,.c .bool)] [oB qT3]
def yFn (f:Vq)(d:yNj.den):=(kb ((DP (yU (f d.1.2.2.2.2.2.1.1 d.1.2.2.2.2.2.2.1.1 d.1.2.2.2.2.2.2.2.2.1.1 d.1.2.2.2.2.2.2.2.2.2.1.1) d.2.1) d.2.2.1) d.2.2.2.1) d.2.2.2.2.1)
def Vr:zX:=⟨[yNj],[(.exit 2,qT8),(.ret,qYt)],Vs,fun k d=>yFn (GC k k) d,fun b x _ K=>match x with|.inl x=>K (.exit 2) (zL b qT8 (((),(),(),(),(x.1,()),(x.2.1,()),()),((Mx x ()),(vQr x ()),x.2.2.2.2.2.2.2.2.2.2.2.2.2.2.2.2.2.2.2.2,())))|.inr x=>K .ret (zL b qYt (((),(x.1,()),()),((Vt x ()),())))⟩
def yRm:zE:=sp [sP 6 0] [oB MJ]
def qUt (f:Vu)(d:qT8.den):=(DP (yU (f d.1.2.2.2.2.1.1 d.1.2.2.2.2.2.1.1) d.2.1) d.2.2.1) d.2.2.2.1
def Vv:zX:=⟨[qT8],[(.exit 0,yRm),(.ret,qYt)],Vw,fun k d=>qUt (GG k k) d,fun b x _ K=>match x with|.inl x=>K (.exit 0) (zL b yRm (((),()),((Vx x ()),())))|.inr x=>K .ret (zL b qYt (((),(x.1,()),()),((Vt x ()),())))⟩
def Vy:zY:=⟨[],[(6,Vr),(3,Vv)],[],false⟩
theorem yVo:zU prog 1000 0 74 (zO (zO (zS f205) 0) 0) Vr:=lp (A:=Vy) Vr (fun d=>match d with|.inl d=>.inl (d.1.2.2.2.2.1.1,d.1.2.2.2.2.2.1.1,(vG d.2.1 (Vz d.2.2.1 d.2.2.2.1)))|.inr d=>.inr (d.1.2.1.1,(fm d.2.1))) yFn GC B4 (e3 H4 H6 xK) loops0
theorem vPf:zU prog 1000 0 74 (zO (zS f205) 0) Vv:=lp (A:=Vy) Vv (fun d=>match d with|.inl d=>.inl (yIz d.2.1)|.inr d=>.inr (d.1.2.1.1,(fm d.2.1))) qUt GG B5 (e3 H4 H6 xK) (qC yVo)
def yWn:=zJ 205 [.agg iJ,.c (.dat true zF),.c .i] (.tup [(true,[.i,.i,.i,.i,.i,.i,.i,.i,.i,.i,.i,.i,.i,.i,.fro yD,.fro (.sl .i),.fro .i,.fro (.sl .i)]),(false,[.bool])]) (fun k d=>(gU (KW k) d)) (fun x=>(ub x ())) (fun d=>(MK d))
theorem VA:zD prog yWn:=fA f205 Vy (e3 H4 H6 xK) (qC vPf)
def yC9:zE:=⟨[sI 2,sP 6 0,(7,.c (.dat true zF)),sO 8 1,sO 33 2,sI 34,sI 35],[oB vU,oA zF,oA zF],[(8,none,zF,false)]⟩
def yAy:zE:=sp [sI 2,sP 6 0,(7,.c (.dat true zF)),sO 8 1] [oB vU,oA zF]
def qYj (f:VB)(d:yC9.den):=(yU (f d.1.1.1 d.1.2.2.1.1 d.1.2.2.2.2.2.1.1 d.1.2.2.2.2.2.2.1.1) d.2.1) d.2.2.1 d.2.2.2.1
def VC:zX:=⟨[yC9],[(.exit 2,yAy)],VD,fun k d=>qYj (tc k k) d,fun b x _ K=>K (.exit 2) (zL b yAy (((x.1,()),(),(x.2.1,()),(),()),((Mx x ()),x.2.2.2.2.2.2,())))⟩
def yCj (f:Vn)(d:yGu.den):=(yU (f d.1.1.1 d.1.2.2.1.1) d.2.1) d.2.2.1
def VF:zX:=⟨[yGu],[(.ret,qYm)],Vp,fun k d=>yCj (GH k k) d,fun b x _ K=>K .ret (zL b qYm (((),(x.1,()),(),()),((fO x ()),x.2.2.2.2.2,())))⟩
def VH:zY:=⟨[],[(7,VC),(2,VF)],[],false⟩
theorem vHh:zU prog 1000 0 52 (zO (zO (zS f179) 0) 0) VC:=lp (A:=VH) VC (fun d=>(d.1.1.1,d.1.2.2.1.1,(vG d.2.1 d.2.2.1))) qYj tc td (e2 VA nq) loops0
theorem yZu:zU prog 1000 0 52 (zO (zS f179) 0) VF:=lp (A:=VH) VF (fun d=>(d.1.2.1.1,(vG d.2.1 d.2.2.1))) yCj GH B6 (e2 VA nq) (qC vHh)
def yWo:=zJ 179 [.agg iJ,.c (.dat true zF),.c .i] (.tup [(true,kQ),(false,[.fro zF]),(false,[.own zF])]) (fun k d=>(gU (KX k) d)) (fun x=>(lE x ())) (fun d=>(kR d))
theorem qXk:zD prog yWo:=fA f179 VH (e2 VA nq) (qC yZu)
def yM5 (f:Vn)(d:yGu.den):=(yU (f d.1.1.1 d.1.2.2.1.1) d.2.1) d.2.2.1
def VJ:zX:=⟨[yGu],[(.ret,qYm)],Vp,fun k d=>yM5 (GO k k) d,fun b x _ K=>K .ret (zL b qYm (((),(x.1,()),(),()),((fO x ()),x.2.2.2.2.2,())))⟩
def yOj:zY:=⟨[],[(2,VJ)],[],false⟩
theorem vPd:zU prog 1000 0 40 (zO (zS f141) 0) VJ:=lp (A:=yOj) VJ (fun d=>(d.1.2.1.1,(vG d.2.1 d.2.2.1))) yM5 GO K4 (e2 yA7 qXk) loops0
def vO7:=zJ 141 [.agg iJ,.c (.dat true zF),.c .i] (.tup [(true,kQ),(false,[.fro zF]),(false,[.own zF])]) (fun k d=>(gU (GP k) d)) (fun x=>(lE x ())) (fun d=>(kR d))
theorem vE4:zD prog vO7:=fA f141 yOj (e2 yA7 qXk) (qC vPd)
def vR3:=vv 207 false .i (.own .i) Q3
theorem vFw:zD prog vR3:=fC f207 ⟨[],[],[],false⟩ e0 loops0
def vE7:=vX 208 [.agg vC,.ptr true [.own .i]] (.c .bool) [[.own .i]] 0 (fun k d=>(ka (Q5 k) d)) (fun x=>(x.1,x.2,())) (fun d=>(d.1,d.2.1))
theorem yIs:zD prog vE7:=fX f208 ⟨[],[],[],false⟩ 2 e0 loops0
def yNh:zE:=⟨[(1,.c (.lit (.fn 208 [1001000]))),sO 5 2,(8,.c (.dat false zF)),sI 9,sI 10],[oB [.lit (.osl 1001001 none)],oA .i,oA zF],[(5,none,zF,false)]⟩
def yKq:zE:=sp [(1,.c (.lit (.fn 208 [1001000]))),sO 5 2] [oB [.lit (.osl 1001001 none)],oA .i,oA zF]
def yRj (f:VL)(d:yNh.den):=f d.1.2.2.1.1 d.1.2.2.2.1.1 d.1.2.2.2.2.1.1 d.2.2.1 d.2.2.2.1
def VM:zX:=⟨[yNh],[(.exit 0,yKq)],VN,fun k d=>yRj (B9 k k) d,fun b x _ K=>K (.exit 0) (zL b yKq (((),(),()),((),x.1,x.2,())))⟩
def yOw:zY:=⟨[],[(3,VM)],[],false⟩
theorem vOb:zU prog 1000 2 23 (zO (zS f122) 0) VM:=lp (A:=yOw) VM (fun d=>(d.2.2.1,d.2.2.2.1)) yRj B9 Ca (e1 yIs) loops0
def vD3:=vX 122 [.c (.p (.dat false zF)),.fn 208 [(true,[.own .i])]] (.c (.own zF)) [[.own .i]] 0 (fun k d=>Q4 k d.1 d.2.1) (fun x=>(x.1,x.2,())) (fun d=>(d.1,d.2.1))
theorem vGi:zD prog vD3:=fX f122 yOw 2 (e1 yIs) (qC vOb)
def yW8:=zJ 181 [.c (.dat false zF),.c (.dat false .i)] (.c (.own zF)) (fun k d=>B8 k d.1 d.2.1) (fun x=>(x,())) (fun d=>d.1)
theorem D2:zD prog yW8:=fA f181 ⟨[],[],[],false⟩ (e2 vFw vGi) loops0
def yGr:zE:=⟨[sP 3 0,sO 6 1,sI 7,sO 8 2,sI 18,sI 19],[oB wU,oA .i,oA zF],[(6,none,.i,false)]⟩
def qWn:zE:=sp [sP 3 0,sO 6 1,sI 7,sO 8 2] [oB wU,oA .i,oA zF]
def yI4 (f:VO)(d:yGr.den):=(yU (f d.1.2.2.1.1 d.1.2.2.2.2.1.1 d.1.2.2.2.2.2.1.1) d.2.1) d.2.2.1 d.2.2.2.1
def ML:zX:=⟨[yGr],[(.exit 0,qWn)],VP,fun k d=>yI4 (w5 k k) d,fun b x _ K=>K (.exit 0) (zL b qWn (((),(),(x.1,()),(),()),((fO x ()),x.2.2.2.2.2.1,x.2.2.2.2.2.2,())))⟩
def qZg:zE:=sp [sP 3 0,sO 6 1,sI 7,sO 8 2,sO 42 3,sI 43,sI 44] [oB wU,oA .i,oA zF,oA .i]
def yLq (f:VQ)(d:qZg.den):=(yU (f d.1.2.2.1.1 d.1.2.2.2.2.2.1.1 d.1.2.2.2.2.2.2.1.1) d.2.1) d.2.2.1 d.2.2.2.1 d.2.2.2.2.1
def VR:zX:=⟨[qZg],[(.exit 4,qWn)],VP,fun k d=>yLq (Cd k k) d,fun b x _ K=>K (.exit 4) (zL b qWn (((),(),(x.1,()),(),()),((fO x ()),x.2.2.2.2.2.1,x.2.2.2.2.2.2,())))⟩
def yNz:zE:=sp [sO 6 0,sI 7] [oA .i]
def qUz (f:VU)(d:qWn.den):=(yU (f d.1.2.2.1.1) d.2.1) d.2.2.1 d.2.2.2.1
def MM:zX:=⟨[qWn],[(.ret,yNz)],(Int×AC),fun k d=>qUz (GN k k) d,fun b x _ K=>K .ret (zL b yNz (((),(x.1,()),()),(x.2,())))⟩
def MN:zY:=⟨[],[(3,ML),(12,VR),(7,MM)],[],false⟩
theorem vRf:zU prog 1000 0 55 (zO (zS f180) 0) ML:=lp (A:=MN) ML (fun d=>(d.1.2.2.1.1,(vG d.2.1 (d.2.2.1,d.2.2.2.1)))) yI4 w5 Cc (e4 xJ HZ D2 H5) loops0
theorem vDk:zU prog 1000 0 55 (zO (zO (zS f180) 1) 0) VR:=lp (A:=MN) VR (fun d=>(d.1.2.2.1.1,(vG d.2.1 (d.2.2.1,d.2.2.2.1)))) yLq Cd Ce (e4 xJ HZ D2 H5) loops0
theorem vGr:zU prog 1000 0 55 (zO (zS f180) 1) MM:=lp (A:=MN) MM (fun d=>(d.1.2.1.1,d.2.1)) qUz GN Cf (e4 xJ HZ D2 H5) (qC vDk)
def vOn:=zJ 180 [.agg wN,.c (.dat false zF),.c .i] (.tup [(false,[.own .i]),(false,vJ)]) (fun k d=>(gU (K1 k) d)) (fun x=>(x.1,x.2,())) (fun d=>(d.1,d.2.1))
theorem yQ3:zD prog vOn:=fA f180 MN (e4 xJ HZ D2 H5) (nV (n:=2) (by kernel_rfl) fun i hi=>match i,hi with|0,_=>⟨ML,by kernel_rfl,vRf⟩|1,_=>⟨MM,by kernel_rfl,vGr⟩|i+2,hi=>absurd hi (by omega))
def yOo:zE:=sp [sP 6 0,(7,.c (.dat true zF)),sO 11 1,sO 38 1,sI 39,sI 40] [oB vU,oA zF]
def yOy:zE:=sp [sP 6 0,(7,.c (.dat true zF)),sO 11 1] [oB vU,oA zF]
def yA8 (f:VV)(d:yOo.den):=(yU (f d.1.2.1.1 d.1.2.2.2.2.1.1 d.1.2.2.2.2.2.1.1) d.2.1) d.2.2.1
def VW:zX:=⟨[yOo],[(.exit 0,yOy)],Vp,fun k d=>yA8 (w6 k k) d,fun b x _ K=>K (.exit 0) (zL b yOy (((),(x.1,()),(),()),((fO x ()),x.2.2.2.2.2,())))⟩
def qWy:zY:=⟨[],[(8,VW)],[],false⟩
theorem vJl:zU prog 1000 0 56 (zO (zS f142) 0) VW:=lp (A:=qWy) VW (fun d=>(d.1.2.1.1,(vG d.2.1 d.2.2.1))) yA8 w6 Cg (e5 yQ3 xJ D2 xK nq) loops0
def vHa:=zJ 142 [.agg iJ,.c (.dat true zF),.c .i] (.tup [(true,kQ),(false,[.fro zF]),(false,[.own zF])]) (fun k d=>(gU (w7 k) d)) (fun x=>(lE x ())) (fun d=>(kR d))
theorem vO4:zD prog vHa:=fA f142 qWy (e5 yQ3 xJ D2 xK nq) (qC vJl)
def vF9:=zJ 91 [.agg iJ,.c (.dat true zF),.c .i,.c .bool] (.tup [(true,kQ),(false,[.fro zF]),(false,[.own zF])]) (fun k d=>(kb (tj k) d)) (fun x=>(lE x ())) (fun d=>(kR d))
theorem vLn:zD prog vF9:=fA f91 ⟨[],[],[],false⟩ (e2 vE4 vO4) loops0
def yRn:zE:=⟨[sO 3 0,sP 5 1,(8,.c (.dat false zF)),sI 9,sI 10,sO 18 2,sI 19,sI 20],[oA yM,oB vW,oA .i],[(3,none,yM,false)]⟩
def yC5:zE:=sp [sO 3 0,(8,.c (.dat false zF)),sI 9,sI 10] [oA yM]
def qZs (f:VY)(d:yRn.den):=(kb (f d.1.2.2.1.1 d.1.2.2.2.1.1 d.1.2.2.2.2.1.1 d.1.2.2.2.2.2.2.1.1 d.1.2.2.2.2.2.2.2.1.1 d.2.1) d.2.2.1) d.2.2.2.1
def qOp:zX:=⟨[yRn],[(.exit 2,yC5)],VZ,fun k d=>qZs (tm k k) d,fun b x _ K=>K (.exit 2) (zL b yC5 (((),(x.1,()),(x.2.1,()),(x.2.2.1,()),()),(x.2.2.2,())))⟩
def yAq:zE:=⟨[sO 3 0,(8,.c (.dat false zF)),sI 9,sI 10],[oA yM],[(3,none,yM,false)]⟩
def ySm:zE:=sp [sO 3 0] [oA yM]
def ySn (f:V0)(d:yAq.den):=f d.1.2.1.1 d.1.2.2.1.1 d.1.2.2.2.1.1 d.2.1
def V1:zX:=⟨[yAq],[(.exit 0,ySm)],V2,fun k d=>ySn (GQ k k) d,fun b x _ K=>K (.exit 0) (zL b ySm (((),()),(x,())))⟩
def V3:zY:=⟨[],[(6,qOp),(3,V1)],[],false⟩
theorem vRo:zU prog 1000 0 41 (zO (zO (zS f92) 0) 0) qOp:=lp (A:=V3) qOp (fun d=>(d.1.2.1.1,d.1.2.2.1.1,d.1.2.2.2.1.1,d.2.1)) qZs tm tn (e1 tZ) loops0
theorem vRq:zU prog 1000 0 41 (zO (zS f92) 0) V1:=lp (A:=V3) V1 (fun d=>d.2.1) ySn GQ Cl (e1 tZ) (qC vRo)
def yUi:=zJ 92 [.c (.dat false zF)] (.c (.own yM)) (fun k d=>K5 k d.1) (fun x=>(x,())) (fun d=>d.1)
theorem vB5:zD prog yUi:=fA f92 V3 (e1 tZ) (qC vRq)
def vB4:=zJ 35 [.agg rr,.c .bool] (.tup [(true,xL),(false,[.own yM])]) (fun k d=>(HV (qg k) d)) (fun x=>(DY x ())) (fun d=>(DZ d))
theorem V4:zD prog vB4:=fA f35 ⟨[],[],[],false⟩ (e2 vLn vB5) loops0
def yRv:zE:=⟨[sP 2 0,sP 3 1,sP 4 2,sO 6 3,sO 7 4,(27,.c (.dat true zF)),sI 28,sI 29],[oB iI,oB mu,oB iT,oA yM,oA zF],[(6,none,yM,false),(7,none,zF,false)]⟩
def yLe:zE:=sp [sP 2 0,sP 3 1,sP 4 2,sO 6 3,sO 7 4] [oB iI,oB mu,oB iT,oA yM,oA zF]
def qZr (f:V5)(d:yRv.den):=(oO (iW (f d.1.2.2.2.2.2.1.1 d.1.2.2.2.2.2.2.1.1 d.1.2.2.2.2.2.2.2.1.1) d.2.1) d.2.2.1) d.2.2.2.1.1 d.2.2.2.1.2.1 d.2.2.2.1.2.2.1 d.2.2.2.2.1 d.2.2.2.2.2.1
def V6:zX:=⟨[yRv],[(.exit 0,yLe)],V7,fun k d=>qZr (Cu k k) d,fun b x _ K=>K (.exit 0) (zL b yLe (((),(),(),(),(),()),((xM x ()),(vKx x ()),(x.2.2.2.2.2.2.2.2.2.2.2.2.2.2.2.2.1,x.2.2.2.2.2.2.2.2.2.2.2.2.2.2.2.2.2.1,x.2.2.2.2.2.2.2.2.2.2.2.2.2.2.2.2.2.2.1,()),x.2.2.2.2.2.2.2.2.2.2.2.2.2.2.2.2.2.2.2.1,x.2.2.2.2.2.2.2.2.2.2.2.2.2.2.2.2.2.2.2.2,())))⟩
def yJs:zY:=⟨[],[(9,V6)],[],false⟩
theorem vNn:zU prog 1000 0 66 (zO (zS f34) 0) V6:=lp (A:=yJs) V6 (fun d=>(xM d.2.1 (ua d.2.2.1 (d.2.2.2.1.1,d.2.2.2.1.2.1,d.2.2.2.1.2.2.1,d.2.2.2.2.1,d.2.2.2.2.2.1)))) qZr Cu Cv (e6 Mi qZh yRi tZ yDg V4) loops0
def yZ9:=zJ 34 [.agg fM,.agg rr] (.tup [(true,xL),(false,[.own yM])]) (fun k d=>(qXj (tq k) d)) (fun x=>(DY x ())) (fun d=>(DZ d))
theorem vLs:zD prog yZ9:=fA f34 yJs (e6 Mi qZh yRi tZ yDg V4) (qC vNn)
def yUp:=vX 81 [.ptr true tX,.agg H2] (.c .i) [iU] 0 (fun k d=>yJ1 k (iV d) (yHg d)) (fun x=>(x.1,(jL x.2 ()))) (fun d=>(d.1,(kP d)))
theorem yV7:zD prog yUp:=fX f81 n0 1 (e4 fN yG9 yHn MB) loops0
def vA4:=vX 82 [.ptr true tX,.agg vC] (.c .i) [iU] 0 (fun k d=>MO k (iV d) (DV d)) (fun x=>(x.1,(jL x.2 ()))) (fun d=>(d.1,(kP d)))
theorem yTf:zD prog vA4:=fX f82 n0 1 (e8 ySd nq yIv fN Uk yKy yHk yKs) loops0
def vIc:=vX 83 [.ptr true tX,.agg vC] (.c .i) [iU] 0 (fun k d=>MP k (iV d) (DV d)) (fun x=>(x.1,(jL x.2 ()))) (fun d=>(d.1,(kP d)))
theorem vL1:zD prog vIc:=fX f83 n0 1 (e3 mr qTx fN) loops0
def vFp:=vX 84 [.ptr true tX,.c (.p .i),.c (.p .i)] (.c .i) [iU] 0 (fun k d=>yNv k (iV d) d.2.2.2.2.2.2.2.2.2.2.2.2.2.2.2.2.2.2.1 d.2.2.2.2.2.2.2.2.2.2.2.2.2.2.2.2.2.2.2.1) (fun x=>(x.1,(jL x.2 ()))) (fun d=>(d.1,(kP d)))
theorem vCo:zD prog vFp:=fX f84 n0 1 (e6 DW fN qZm DX tV mr) loops0
def vJm:=vX 85 [.ptr true tX,.c (.p .i),.c (.p .i),.c (.p .i)] (.c .i) [iU] 0 (fun k d=>CL k (iV d) d.2.2.2.2.2.2.2.2.2.2.2.2.2.2.2.2.2.2.1 d.2.2.2.2.2.2.2.2.2.2.2.2.2.2.2.2.2.2.2.1 d.2.2.2.2.2.2.2.2.2.2.2.2.2.2.2.2.2.2.2.2.1) (fun x=>(x.1,(jL x.2 ()))) (fun d=>(d.1,(kP d)))
theorem vPo:zD prog vJm:=fX f85 n0 1 (e5 fN yHz yRl yQ6 mr) loops0
def yOt:zE:=sp [sP 0 0,sO 7 1,sP 8 2,(40,.c (.dat true (.sl .i))),sI 41,sI 42] [oB V8,oA .i,oB oR,oA yD,.mat,oA .i,.mat]
def qY4:zE:=sp [sP 0 0,sO 7 1,sP 8 2] [oB V8,oA .i,oB oR,oA yD,.mat,oA .i,.mat]
def yIg:zE:=sp [sP 0 0,sI 6] [oB V8]
def yOn (f:Wa)(d:yOt.den):=f d.1.2.2.2.1.1 d.1.2.2.2.2.1.1 d.1.2.2.2.2.2.1.1 (iV d.2.1) d.2.2.1 d.2.2.2.2.1 d.2.2.2.2.2.1 d.2.2.2.2.2.2.1 d.2.2.2.2.2.2.2.1
def Wb:zX:=⟨[yOt],[(.exit 0,qY4),(.ret,yIg)],Wc,fun k d=>yOn (qq k k) d,fun b x _ K=>match x with|.inl x=>K (.exit 0) (zL b qY4 (((),(),(),()),((vA x.1 ()),x.2.1,(),x.2.2.1,x.2.2.2.1,x.2.2.2.2.1,x.2.2.2.2.2,())))|.inr x=>K .ret (zL b yIg (((),(x.1,()),()),((vA x.2 ()),())))⟩
def yFl:zY:=⟨[],[(6,Wb)],[],true⟩
theorem yTd:zU prog 1000 1 81 (zO (zS f86) 0) Wb:=lp (A:=yFl) Wb (fun d=>match d with|.inl d=>.inl ((iV d.2.1),d.2.2.1,d.2.2.2.2.1,d.2.2.2.2.2.1,d.2.2.2.2.2.2.1,d.2.2.2.2.2.2.2.1)|.inr d=>.inr (d.1.2.1.1,(iV d.2.1))) yOn qq CQ (e5 DW fN DX mr tV) loops0
def yZx:=vX 86 [.ptr true tX,.c (.p .i),.c (.p .i)] (.c .i) [iU] 0 (fun k d=>Lu k (iV d) d.2.2.2.2.2.2.2.2.2.2.2.2.2.2.2.2.2.2.1 d.2.2.2.2.2.2.2.2.2.2.2.2.2.2.2.2.2.2.2.1) (fun x=>(x.1,(jL x.2 ()))) (fun d=>(d.1,(kP d)))
theorem vF0:zD prog yZx:=fX f86 yFl 1 (e5 DW fN DX mr tV) (qC yTd)
def vG3:=vX 33 [.ptr true tX,.agg vC] (.c .i) [iU] 0 (fun k d=>Dq k (iV d) (DV d)) (fun x=>(x.1,(jL x.2 ()))) (fun d=>(d.1,(kP d)))
theorem vRj:zD prog vG3:=fX f33 n0 1 (e6 yV7 yTf vL1 vCo vPo vF0) loops0
def qJa:=zJ 11 [.agg H7,.agg rr,.agg DU] (.tup [(true,xL),(false,[.own yM]),(false,vJ)]) (fun k d=>Hy k (qZ d) (mo d) (xG d)) (fun x=>(jJ x.1 (x.2.1,x.2.2,()))) (fun d=>((qR d),d.2.2.2.2.2.2.2.2.2.2.2.1,d.2.2.2.2.2.2.2.2.2.2.2.2.1))
theorem yPq:zD prog qJa:=fA f11 n0 (e9 vRu vAz yIv vNl vLs V4 tW yC2 vRj) loops0
def yMg:=zJ 26 [.agg H7,.agg rr,.agg DU] (.tup [(true,xL),(false,[.own yM]),(false,vJ)]) (fun k d=>Wd k (qZ d) (mo d) (xG d)) (fun x=>(jJ x.1 (x.2.1,x.2.2,()))) (fun d=>((qR d),d.2.2.2.2.2.2.2.2.2.2.2.1,d.2.2.2.2.2.2.2.2.2.2.2.2.1))
theorem vKz:zD prog yMg:=fA f26 n0 (e1 yPq) loops0
def qLh:=zJ 10 [] (.c .bool) (fun k d=>R7 k) (fun x=>(x,())) (fun d=>d.1)
theorem vGs:zD prog qLh:=fA f10 n0 (Ar (l:=[yAj,yLr,qWc,yMg,yAi]) (eqT:=fun t=>[39].any (Nat.beq t)) (Es (fun t h=>E2 (p:=fun t=>prog.keyTypeAt 8 t&& !prog.eqGuardType prog.depth t) (l:=[39]) (List.forall_mem_cons.2 ⟨by kernel_rfl,List.forall_mem_nil _⟩) t h)) fl ⟨yWq,yXq,yVa,vKz,oQ,trivial⟩) loops0
def vIh:=zJ 95 [.c .i] (.c .bool) (fun k d=>LN k d.1) (fun x=>(x,())) (fun d=>d.1)
theorem vFn:zD prog vIh:=fA f95 n0 e0 loops0
def vHi:=zJ 143 [.c .i] (.c .i) (fun k d=>RY k d.1) (fun x=>(x,())) (fun d=>d.1)
theorem yDh:zD prog vHi:=fA f143 n0 e0 loops0
def yDa:zE:=sp [sP 1 0,sI 3,sI 4] [oB vW]
def yD3 (f:We)(d:yDa.den):=f d.1.2.1.1 d.1.2.2.1.1 (wC d.2.1)
def Wg:zX:=⟨[yDa],[(.exit 0,qXo),(.ret,yEt)],(Int⊕Bool),fun k d=>yD3 (Dm k k) d,fun b x _ K=>match x with|.inl x=>K (.exit 0) (zL b qXo (((x,()),()),()))|.inr x=>K .ret (zL b yEt (((x,()),()),()))⟩
def yQ4:zY:=⟨[],[(3,Wg)],[],true⟩
theorem vMn:zU prog 1000 0 21 (zO (zS f96) 0) Wg:=lp (A:=yQ4) Wg (fun d=>match d with|.inl d=>.inl d.1.1.1|.inr d=>.inr d.1.1.1) yD3 Dm RX (e1 yDh) loops0
def vQw:=zJ 96 [.agg vC] (.c .bool) (fun k d=>Dn k (wC d)) (fun x=>(x,())) (fun d=>d.1)
theorem vCy:zD prog vQw:=fA f96 yQ4 (e1 yDh) (qC vMn)
def vKp:=zJ 97 [.c .i] (.c .bool) (fun k d=>LO k d.1) (fun x=>(x,())) (fun d=>d.1)
theorem vJf:zD prog vKp:=fA f97 n0 e0 loops0
def vOk:=zJ 37 [.agg fM,.agg DU] (.c .bool) (fun k d=>xr k (qZ d) (vQk d)) (fun x=>(x,())) (fun d=>d.1)
theorem vMk:zD prog vOk:=fA f37 n0 (e3 vFn vCy vJf) loops0
def yBp:zE:=⟨[(0,.c (.dat false zF)),sI 1,sO 5 0,sI 6],[oA zF],[(5,none,zF,false)]⟩
def yE1 (f:Wh)(d:yBp.den):=f d.1.1.1 d.1.2.1.1 d.1.2.2.2.1.1 d.2.1
def Wi:zX:=⟨[yBp],[(.exit 0,yMz)],Ui,fun k d=>yE1 (Gf k k) d,fun b x _ K=>K (.exit 0) (zL b yMz (((),()),(x,())))⟩
def yBk:zY:=⟨[],[(3,Wi)],[],false⟩
theorem vF7:zU prog 1000 0 28 (zO (zS f38) 0) Wi:=lp (A:=yBk) Wi (fun d=>d.2.1) yE1 Gf Bt e0 loops0
def Wk:=zJ 38 [.c (.dat false zF),.c .i] (.c (.own zF)) (fun k d=>pZ k d.1 d.2.1) (fun x=>(x,())) (fun d=>d.1)
theorem uc:zD prog Wk:=fA f38 yBk e0 (qC vF7)
def yXw:=zJ 98 [.agg fM,.c .i] (.c .bool) (fun k d=>LK k (qZ d) d.2.2.2.2.2.1) (fun x=>(x,())) (fun d=>d.1)
theorem MQ:zD prog yXw:=fA f98 n0 e0 loops0
def vB0:=zJ 99 [.agg vC,.c .i] (.c .bool) (fun k d=>(ka (RP k) d)) (fun x=>(x,())) (fun d=>d.1)
theorem MR:zD prog vB0:=fA f99 ⟨[],[],[],false⟩ e0 loops0
def vFs:=zJ 100 [.c (.dat true zF),.c .i] (.tup [(false,[.fro zF]),(true,oP),(false,vJ)]) (fun k d=>lz k d.1 d.2.1) (fun x=>(MC x ())) (fun d=>(MD d))
theorem ke:zD prog vFs:=fA f100 ⟨[],[],[],false⟩ (e1 DR) loops0
def yXf:=zJ 101 [.agg fM,.c .i] (.c .bool) (fun k d=>Ht k (qZ d) d.2.2.2.2.2.1) (fun x=>(x,())) (fun d=>d.1)
theorem MS:zD prog yXf:=fA f101 n0 e0 loops0
def yU8:=zJ 216 [.agg vC,.c .i] (.c .bool) (fun k d=>(ka (QB k) d)) (fun x=>(x,())) (fun d=>d.1)
theorem yMx:zD prog yU8:=fA f216 ⟨[],[],[],false⟩ e0 loops0
def qWi (f:Wh)(d:yBp.den):=f d.1.1.1 d.1.2.1.1 d.1.2.2.2.1.1 d.2.1
def Wm:zX:=⟨[yBp],[(.exit 0,yMz)],Ui,fun k d=>qWi (Ge k k) d,fun b x _ K=>K (.exit 0) (zL b yMz (((),()),(x,())))⟩
def yAu:zY:=⟨[],[(3,Wm)],[],false⟩
theorem vDf:zU prog 1000 0 27 (zO (zS f191) 0) Wm:=lp (A:=yAu) Wm (fun d=>d.2.1) qWi Ge Br (e1 yMx) loops0
def Wo:=zJ 191 [.c (.dat false zF),.c .i] (.c (.own zF)) (fun k d=>Bq k d.1 d.2.1) (fun x=>(x,())) (fun d=>d.1)
theorem xN:zD prog Wo:=fA f191 yAu (e1 yMx) (qC vDf)
def yAe:zE:=sp [sO 5 0,sO 6 1,sI 7,sO 8 2,(9,.c .bool),sI 10] [oA zF,oA zF,oA zF]
def qX6:zE:=sp [sO 5 0,sO 6 1,sI 7,sO 8 2,(9,.c .bool)] [oA zF,oA zF,oA zF]
def yGi (f:Wp)(d:yAe.den):=f d.1.2.2.1.1 d.1.2.2.2.2.1.1 d.1.2.2.2.2.2.1.1 d.2.1 d.2.2.1 d.2.2.2.1
def Wq:zX:=⟨[yAe],[(.exit 2,qX6)],Wr,fun k d=>yGi (Bu k k) d,fun b x _ K=>K (.exit 2) (zL b qX6 (((),(),(x.1,()),(),(x.2.1,()),()),(x.2.2.1,x.2.2.2.1,x.2.2.2.2,())))⟩
def yPo:zE:=⟨[sO 5 0,sO 6 1,sI 7],[oA zF,oA zF],[(6,none,zF,false)]⟩
def yHr:zE:=sp [sO 6 0] [oA zF]
def yIh (f:Ws)(d:yPo.den):=f d.1.2.2.1.1 d.2.1 d.2.2.1
def Wt:zX:=⟨[yPo],[(.exit 0,yHr)],Ui,fun k d=>yIh (Gh k k) d,fun b x _ K=>K (.exit 0) (zL b yHr (((),()),(x,())))⟩
def vP7:Env:=⟨prog,fun t=>[97].any (Nat.beq t),jP [Wo,Wk]⟩
theorem Wv:wY vP7:=Ar (l:=[Wo,Wk]) (eqT:=fun t=>[97].any (Nat.beq t)) (Es (fun t h=>E2 (p:=fun t=>prog.keyTypeAt 8 t&& !prog.eqGuardType prog.depth t) (l:=[97]) (List.forall_mem_cons.2 ⟨by kernel_rfl,List.forall_mem_nil _⟩) t h)) fl ⟨xN,uc,trivial⟩
def Ww:zY:=⟨[],[(9,Wq),(4,Wt)],[],false⟩
theorem vRc:zU prog 1000 0 61 (zO (zO (zS f229) 0) 0) Wq:=lp (A:=Ww) Wq (fun d=>(d.1.2.2.1.1,d.1.2.2.2.2.1.1,d.2.1,d.2.2.1,d.2.2.2.1)) yGi Bu Bv Wv loops0
theorem vDt:zU prog 1000 0 61 (zO (zS f229) 0) Wt:=lp (A:=Ww) Wt (fun d=>d.2.1) yIh Gh Bw Wv (qC vRc)
def vIf:=zJ 229 [.c (.dat false zF),.c .i] (.c (.own zF)) (fun k d=>Gg k d.1 d.2.1) (fun x=>(x,())) (fun d=>d.1)
theorem H8:zD prog vIf:=fA f229 Ww Wv (qC vDt)
def yN9:zE:=sp [(1,.c (.dat false zF)),sP 2 0,sI 5] [oB wU]
def yFz:zE:=sp [(1,.c (.dat false zF))] []
def yD5 (f:Wx)(d:yN9.den):=(yU (f d.1.1.1 d.1.2.2.1.1) d.2.1)
def Wy:zX:=⟨[yN9],[(.exit 0,yFz),(.ret,yAb)],SY,fun k d=>yD5 (FU k k) d,fun b x _ K=>match x with|.inl x=>K (.exit 0) (zL b yFz (((x,()),()),()))|.inr x=>K .ret (zL b yAb (((x,()),()),()))⟩
def yMf:zY:=⟨[],[(2,Wy)],[],false⟩
theorem vDv:zU prog 1000 0 22 (zO (zS f217) 0) Wy:=lp (A:=yMf) Wy (fun d=>match d with|.inl d=>.inl d.1.1.1|.inr d=>.inr d.1.1.1) yD5 FU AU (e1 Mq) loops0
def yXi:=zJ 217 [.agg wN,.c (.dat false zF)] (.c .bool) (fun k d=>(iW (FT k) d)) (fun x=>(x,())) (fun d=>d.1)
theorem MU:zD prog yXi:=fA f217 yMf (e1 Mq) (qC vDv)
def yNs:zE:=⟨[(0,.c (.dat false (.sl .i))),sO 3 0,sI 4],[.mat],[(3,none,(.sl .i),true)]⟩
def yF5:zE:=sp [sO 3 0] [.mat]
def yIe (f:WA)(d:yNs.den):=f d.1.1.1 d.1.2.2.1.1 d.2.1
def WB:zX:=⟨[yNs],[(.exit 0,yF5)],EQ,fun k d=>yIe (FF k k) d,fun b x _ K=>K (.exit 0) (zL b yF5 (((),()),(x,())))⟩
def qVs:zY:=⟨[18,19],[(3,WB)],[],false⟩
theorem vJz:zU prog 1000 0 21 (zO (zS f186) 0) WB:=lp (A:=qVs) WB (fun d=>d.2.1) yIe FF AM e0 loops0
def yWk:=zJ 186 [.c (.dat false (.sl .i))] (.c (.mat)) (fun k d=>FG k d.1) (fun x=>(x,())) (fun d=>d.1)
theorem vL3:zD prog yWk:=fA f186 qVs e0 (qC vJz)
def vDc:=zJ 153 [.agg wN] (.agg [.own yD,.mat,.own .i,.mat]) (fun k d=>(yU (mc k) d)) (fun x=>(rq x ())) (fun d=>(rp d))
theorem ud:zD prog vDc:=fA f153 ⟨[],[],[],false⟩ (e1 vL3) loops0
def qVd:zE:=sp [(0,.c (.dat false zF)),sI 1,sI 6,sI 7,sI 8] []
def yM1:zE:=sp [sI 6,sI 7] []
def yGq (f:WC)(d:qVd.den):=f d.1.1.1 d.1.2.1.1 d.1.2.2.1.1 d.1.2.2.2.1.1 d.1.2.2.2.2.1.1
def WD:zX:=⟨[qVd],[(.exit 0,yM1)],vY,fun k d=>yGq (FX k k) d,fun b x _ K=>K (.exit 0) (zL b yM1 (((x.1,()),(x.2,()),()),()))⟩
def yJj:zY:=⟨[],[(3,WD)],[],false⟩
theorem vEk:zU prog 1000 0 46 (zO (zS f232) 0) WD:=lp (A:=yJj) WD (fun d=>(d.1.1.1,d.1.2.1.1)) yGq FX A0 e0 loops0
def vC1:=zJ 232 [.c (.dat false zF),.c .i] (.tup [(false,vJ),(false,vJ)]) (fun k d=>FW k d.1 d.2.1) (fun x=>(x.1,x.2,())) (fun d=>(d.1,d.2.1))
theorem WE:zD prog vC1:=fA f232 yJj e0 (qC vEk)
def vN0:=zJ 219 [.c (.dat false zF),.c .i] (.c .i) (fun k d=>Kg k d.1 d.2.1) (fun x=>(x,())) (fun d=>d.1)
theorem WG:zD prog vN0:=fA f219 ⟨[],[],[],false⟩ (e1 WE) loops0
def vLr:=zJ 218 [.agg lC,.c .i] (.c .i) (fun k d=>(yU (FY k) d)) (fun x=>(x,())) (fun d=>d.1)
theorem H9:zD prog vLr:=fA f218 ⟨[],[],[],false⟩ e0 loops0
def yRz:zE:=sp [(0,.c (.dat false zF)),sI 1,sI 2,sI 7,sI 8] []
def yQv:zE:=sp [sI 7] []
def yBm (f:WH)(d:yRz.den):=f d.1.1.1 d.1.2.1.1 d.1.2.2.1.1 d.1.2.2.2.1.1 d.1.2.2.2.2.1.1
def WI:zX:=⟨[yRz],[(.exit 0,yQv)],Int,fun k d=>yBm (FV k k) d,fun b x _ K=>K (.exit 0) (zL b yQv (((x,()),()),()))⟩
def yD4:zY:=⟨[],[(3,WI)],[],false⟩
theorem vRh:zU prog 1000 0 39 (zO (zS f233) 0) WI:=lp (A:=yD4) WI (fun d=>d.1.1.1) yBm FV AZ e0 loops0
def yTo:=zJ 233 [.c (.dat false zF),.c .i,.c .i] (.c .i) (fun k d=>sS k d.1 d.2.1 d.2.2.1) (fun x=>(x,())) (fun d=>d.1)
theorem WJ:zD prog yTo:=fA f233 yD4 e0 (qC vRh)
def yX8:=zJ 220 [.c (.dat false zF),.c .i,.c .i] (.c .i) (fun k d=>Ke k d.1 d.2.1 d.2.2.1) (fun x=>(x,())) (fun d=>d.1)
theorem WK:zD prog yX8:=fA f220 ⟨[],[],[],false⟩ (e1 WJ) loops0
def yPu:zE:=sp [(1,.c (.dat false zF)),sP 2 0,sP 4 1,sP 6 2,sI 7,sI 8] [oB vU,oB lD,oB oR,oA yD,.mat,oA .i,.mat]
def qXf:zE:=sp [(1,.c (.dat false zF)),sP 2 0,sP 4 1,sP 6 2,sI 7] [oB vU,oB lD,oB oR,oA yD,.mat,oA .i,.mat]
def yL5 (f:WL)(d:yPu.den):=(yU (f d.1.1.1 d.1.2.2.2.2.1.1 d.1.2.2.2.2.2.1.1) d.2.1) d.2.2.2.2.1 d.2.2.2.2.2.1 d.2.2.2.2.2.2.1 d.2.2.2.2.2.2.2.1
def WM:zX:=⟨[yPu],[(.exit 2,qXf)],WN,fun k d=>yL5 (A2 k k) d,fun b x _ K=>K (.exit 2) (zL b qXf (((x.1,()),(),(),(),(x.2.1,()),()),((Mx x ()),(),(),x.2.2.2.2.2.2.1,x.2.2.2.2.2.2.2.1,x.2.2.2.2.2.2.2.2.1,x.2.2.2.2.2.2.2.2.2,())))⟩
def yCy:zE:=sp [sP 2 0,sP 4 1,sP 6 2] [oB vU,oB lD,oB oR,oA yD,.mat,oA .i,.mat]
def yHu (f:WO)(d:qXf.den):=(yU (f d.1.1.1 d.1.2.2.2.2.1.1) d.2.1) d.2.2.2.2.1 d.2.2.2.2.2.1 d.2.2.2.2.2.2.1 d.2.2.2.2.2.2.2.1
def WQ:zX:=⟨[qXf],[(.exit 0,yCy)],Vi,fun k d=>yHu (A4 k k) d,fun b x _ K=>K (.exit 0) (zL b yCy (((),(),(),()),((vG x ()),(),(),x.2.2.2.2.1,x.2.2.2.2.2.1,x.2.2.2.2.2.2.1,x.2.2.2.2.2.2.2,())))⟩
def WS:zY:=⟨[],[(9,WM),(5,WQ)],[],false⟩
theorem yWw:zU prog 1000 0 84 (zO (zO (zS f192) 0) 0) WM:=lp (A:=WS) WM (fun d=>(d.1.1.1,d.1.2.2.2.2.1.1,(vG d.2.1 (d.2.2.2.2.1,d.2.2.2.2.2.1,d.2.2.2.2.2.2.1,d.2.2.2.2.2.2.2.1)))) yL5 A2 A3 (e6 MU ud WG H9 WK HW) loops0
theorem vAm:zU prog 1000 0 84 (zO (zS f192) 0) WQ:=lp (A:=WS) WQ (fun d=>(vG d.2.1 (d.2.2.2.2.1,d.2.2.2.2.2.1,d.2.2.2.2.2.2.1,d.2.2.2.2.2.2.2.1))) yHu A4 A5 (e6 MU ud WG H9 WK HW) (qC yWw)
def vLx:=zJ 192 [.agg iJ,.c (.dat false zF)] (.tup [(true,kQ),(false,vJ)]) (fun k d=>(iW (we k) d)) (fun x=>(jZ x ())) (fun d=>(qZ d))
theorem WT:zD prog vLx:=fA f192 WS (e6 MU ud WG H9 WK HW) (qC vAm)
def qWr:zE:=sp [sI 1,sP 2 0,sI 5,sI 6] [oB wU]
def qZc (f:WU)(d:qWr.den):=(yU (f d.1.1.1 d.1.2.2.1.1 d.1.2.2.2.1.1) d.2.1)
def WV:zX:=⟨[qWr],[(.exit 0,qXe)],Int,fun k d=>qZc (A6 k k) d,fun b x _ K=>K (.exit 0) (zL b qXe (((x,()),()),()))⟩
def yE6:zY:=⟨[],[(3,WV)],[],false⟩
theorem yYg:zU prog 1000 0 28 (zO (zS f242) 0) WV:=lp (A:=yE6) WV (fun d=>d.1.1.1) qZc A6 A7 e0 loops0
def yV8:=zJ 242 [.agg wN,.c .i] (.c .i) (fun k d=>(iW (Kk k) d)) (fun x=>(x,())) (fun d=>d.1)
theorem yP0:zD prog yV8:=fA f242 yE6 e0 (qC yYg)
def qWo:zE:=sp [(1,.c (.dat false zF)),sI 2,sP 3 0,sI 7,sI 8,sI 9,sI 10,sI 11] [oB wU]
def qVp:zE:=sp [sI 2,sP 3 0,sI 7,sI 8,sI 9,sI 10] [oB wU]
def yG3 (f:WW)(d:qWo.den):=(yU (f d.1.1.1 d.1.2.1.1 d.1.2.2.2.1.1 d.1.2.2.2.2.1.1 d.1.2.2.2.2.2.1.1 d.1.2.2.2.2.2.2.1.1 d.1.2.2.2.2.2.2.2.1.1) d.2.1)
def WX:zX:=⟨[qWo],[(.exit 0,qVp),(.ret,yG6)],WY,fun k d=>yG3 (oz k k) d,fun b x _ K=>match x with|.inl x=>K (.exit 0) (zL b qVp (((x.1,()),(),(x.2.1,()),(x.2.2.1,()),(x.2.2.2.1,()),(x.2.2.2.2.1,()),()),((vJ2 x ()),())))|.inr x=>K .ret (zL b yG6 (((x,()),()),()))⟩
def yLf:zY:=⟨[],[(7,WX)],[],false⟩
theorem vHs:zU prog 1000 0 130 (zO (zS f231) 0) WX:=lp (A:=yLf) WX (fun d=>match d with|.inl d=>.inl (d.1.1.1,d.1.2.2.1.1,d.1.2.2.2.1.1,d.1.2.2.2.2.1.1,d.1.2.2.2.2.2.1.1,(rp d.2.1))|.inr d=>.inr d.1.1.1) yG3 oz A9 (e4 WE yP0 WJ H9) loops0
def vBf:=zJ 231 [.agg wN,.c (.dat false zF),.c .i] (.c .bool) (fun k d=>(gU (Ko k) d)) (fun x=>(x,())) (fun d=>d.1)
theorem yOz:zD prog vBf:=fA f231 yLf (e4 WE yP0 WJ H9) (qC vHs)
def yKz:zE:=⟨[(1,.c (.dat false zF)),sP 2 0,sO 5 1,sI 6],[oB wU,oA .i],[(5,none,.i,false)]⟩
def qVg (f:WZ)(d:yKz.den):=(yU (f d.1.1.1 d.1.2.2.2.1.1) d.2.1) d.2.2.1
def W0:zX:=⟨[yKz],[(.exit 0,yB8)],AC,fun k d=>qVg (pX k k) d,fun b x _ K=>K (.exit 0) (zL b yB8 (((),()),(x,())))⟩
def yNa:zY:=⟨[],[(3,W0)],[],false⟩
theorem vHd:zU prog 1000 0 23 (zO (zS f215) 0) W0:=lp (A:=yNa) W0 (fun d=>d.2.1) qVg pX oC (e1 yOz) loops0
def yYj:=zJ 215 [.agg wN,.c (.dat false zF)] (.c (.own .i)) (fun k d=>(iW (pW k) d)) (fun x=>(x,())) (fun d=>d.1)
theorem Ia:zD prog yYj:=fA f215 yNa (e1 yOz) (qC vHd)
def vLh:=zJ 230 [.agg wN,.c (.dat false zF)] (.c .bool) (fun k d=>(iW (F0 k) d)) (fun x=>(x,())) (fun d=>d.1)
theorem vB7:zD prog vLh:=fA f230 ⟨[],[],[],false⟩ (e2 MU Ia) loops0
def vJx:=zJ 213 [.agg iJ,.c (.dat false zF)] (.tup [(true,kQ),(false,[.bool])]) (fun k d=>(iW (qw k) d)) (fun x=>(jZ x ())) (fun d=>(qZ d))
theorem ru:zD prog vJx:=fA f213 ⟨[],[],[],false⟩ (e2 WT vB7) loops0
def yMm:zE:=sp [sP 3 0,sP 6 1,sO 8 2,sI 9] [oB vU,oB vW,oA zF]
def yGf:zE:=sp [sP 6 0] [oB vW]
def yCm:zE:=sp [sP 6 0,(7,.c .bool)] [oB vW]
def yNm (f:W1)(d:yMm.den):=(kb (yU (f d.1.2.2.2.1.1) d.2.1) d.2.2.1) d.2.2.2.1
def W2:zX:=⟨[yMm],[(.exit 0,yGf),(.ret,yCm)],W3,fun k d=>yNm (Hi k k) d,fun b x _ K=>match x with|.inl x=>K (.exit 0) (zL b yGf (((),()),((gh x ()),())))|.inr x=>K .ret (zL b yCm (((),(x.1,()),()),((qX1 x ()),())))⟩
def yEm:zY:=⟨[],[(3,W2)],[],false⟩
theorem vQh:zU prog 1000 0 37 (zO (zS f212) 0) W2:=lp (A:=yEm) W2 (fun d=>match d with|.inl d=>.inl (wC d.2.1)|.inr d=>.inr (d.1.2.1.1,(wC d.2.1))) yNm Hi CX (e2 H8 ru) loops0
def vC5:=zJ 212 [.agg iJ,.c (.dat true zF),.c .i] (.tup [(true,oP),(false,[.bool])]) (fun k d=>(gU (LC k) d)) (fun x=>(Mw x ())) (fun d=>(DT d))
theorem yDt:zD prog vC5:=fA f212 yEm (e2 H8 ru) (qC vQh)
def yQ0:zE:=⟨[(1,.c (.dat true zF)),sI 2,sP 3 0,sP 6 1,sO 9 2],[oB vU,oB lD,oA zF],[(9,none,zF,false)]⟩
def yCk (f:W4)(d:yQ0.den):=(yU (f d.1.1.1 d.1.2.1.1) d.2.1) d.2.2.2.1
def W5:zX:=⟨[yQ0],[(.ret,qYm)],Vp,fun k d=>yCk (Hj k k) d,fun b x _ K=>K .ret (zL b qYm (((),(x.1,()),(),()),((fO x ()),x.2.2.2.2.2,())))⟩
def yHd:zY:=⟨[],[(2,W5)],[],false⟩
theorem yXa:zU prog 1000 0 43 (zO (zS f187) 0) W5:=lp (A:=yHd) W5 (fun d=>(d.1.2.1.1,(vG d.2.1 d.2.2.1))) yCk Hj CY (e3 yDt ru ke) loops0
def vCj:=zJ 187 [.agg iJ,.c (.dat true zF),.c .i] (.tup [(true,kQ),(false,[.fro zF]),(false,[.own zF])]) (fun k d=>(gU (LD k) d)) (fun x=>(lE x ())) (fun d=>(kR d))
theorem yRx:zD prog vCj:=fA f187 yHd (e3 yDt ru ke) (qC yXa)
def qWj:zE:=sp [sP 3 0,sP 6 1,sP 7 2,sO 9 3,sI 10,sI 11] [oB vU,oB vW,oB vW,oA zF]
def yC6:zE:=sp [sP 3 0,sP 6 1,sP 7 2,sO 9 3,sI 10] [oB vU,oB vW,oB vW,oA zF]
def qV6:zE:=sp [sP 6 0,sP 7 1,(8,.c .bool)] [oB vW,oB vW]
def qXl (f:W7)(d:qWj.den):=(kb (kb (yU (f d.1.2.2.2.2.1.1 d.1.2.2.2.2.2.1.1) d.2.1) d.2.2.1) d.2.2.2.1) d.2.2.2.2.1
def W8:zX:=⟨[qWj],[(.exit 2,yC6),(.ret,qV6)],W9,fun k d=>qXl (Hl k k) d,fun b x _ K=>match x with|.inl x=>K (.exit 2) (zL b yC6 (((),(),(),(),(x.1,()),()),((fO x ()),(vK3 x ()),(yTy x ()),x.2.2.2.2.2.2.2.2.2.2.2.2.2.2.2.2.2.2.2,())))|.inr x=>K .ret (zL b qV6 (((),(),(x.1,()),()),((Vm x ()),(yNn x ()),())))⟩
def qXy:zE:=sp [sP 6 0,sP 7 1] [oB vW,oB vW]
def yIi (f:Xa)(d:yC6.den):=(kb (kb (yU (f d.1.2.2.2.2.1.1) d.2.1) d.2.2.1) d.2.2.2.1) d.2.2.2.2.1
def Xb:zX:=⟨[yC6],[(.exit 0,qXy),(.ret,qV6)],Xc,fun k d=>yIi (Hm k k) d,fun b x _ K=>match x with|.inl x=>K (.exit 0) (zL b qXy (((),(),()),((gQ x ()),(yK0 x ()),())))|.inr x=>K .ret (zL b qV6 (((),(),(x.1,()),()),((Vm x ()),(yNn x ()),())))⟩
def Xd:zY:=⟨[],[(6,W8),(3,Xb)],[],false⟩
theorem vMe:zU prog 1000 0 71 (zO (zO (zS f214) 0) 0) W8:=lp (A:=Xd) W8 (fun d=>match d with|.inl d=>.inl (d.1.2.2.2.2.1.1,(vG d.2.1 (gQ d.2.2.1 (gQ d.2.2.2.1 d.2.2.2.2.1))))|.inr d=>.inr (d.1.2.2.1.1,(gQ d.2.1 (wC d.2.2.1)))) qXl Hl CZ (e2 H8 ru) loops0
theorem yVe:zU prog 1000 0 71 (zO (zS f214) 0) Xb:=lp (A:=Xd) Xb (fun d=>match d with|.inl d=>.inl (gQ d.2.1 (wC d.2.2.1))|.inr d=>.inr (d.1.2.2.1.1,(gQ d.2.1 (wC d.2.2.1)))) yIi Hm C3 (e2 H8 ru) (qC vMe)
def vEy:=zJ 214 [.agg iJ,.c (.dat true zF),.c .i] (.tup [(true,oP),(true,oP),(false,[.bool])]) (fun k d=>(gU (LF k) d)) (fun x=>(qWl x ())) (fun d=>(yNq d))
theorem qWp:zD prog vEy:=fA f214 Xd (e2 H8 ru) (qC yVe)
def qUi (f:W4)(d:yQ0.den):=(yU (f d.1.1.1 d.1.2.1.1) d.2.1) d.2.2.2.1
def Xf:zX:=⟨[yQ0],[(.ret,qYm)],Vp,fun k d=>qUi (Hn k k) d,fun b x _ K=>K .ret (zL b qYm (((),(x.1,()),(),()),((fO x ()),x.2.2.2.2.2,())))⟩
def yFs:zY:=⟨[],[(2,Xf)],[],false⟩
theorem vFl:zU prog 1000 0 55 (zO (zS f188) 0) Xf:=lp (A:=yFs) Xf (fun d=>(d.1.2.1.1,(vG d.2.1 d.2.2.1))) qUi Hn C4 (e3 qWp ru ke) loops0
def yZp:=zJ 188 [.agg iJ,.c (.dat true zF),.c .i] (.tup [(true,kQ),(false,[.fro zF]),(false,[.own zF])]) (fun k d=>(gU (LG k) d)) (fun x=>(lE x ())) (fun d=>(kR d))
theorem yNc:zD prog yZp:=fA f188 yFs (e3 qWp ru ke) (qC vFl)
def qV5 (f:W4)(d:yQ0.den):=(yU (f d.1.1.1 d.1.2.1.1) d.2.1) d.2.2.2.1
def Xi:zX:=⟨[yQ0],[(.ret,qYm)],Vp,fun k d=>qV5 (Hr k k) d,fun b x _ K=>K .ret (zL b qYm (((),(x.1,()),(),()),((fO x ()),x.2.2.2.2.2,())))⟩
def ySl:zY:=⟨[],[(2,Xi)],[],false⟩
theorem vAr:zU prog 1000 0 45 (zO (zS f156) 0) Xi:=lp (A:=ySl) Xi (fun d=>(d.1.2.1.1,(vG d.2.1 d.2.2.1))) qV5 Hr Dd (e2 yRx yNc) loops0
def vKg:=zJ 156 [.agg iJ,.c (.dat true zF),.c .i] (.tup [(true,kQ),(false,[.fro zF]),(false,[.own zF])]) (fun k d=>(gU (Hs k) d)) (fun x=>(lE x ())) (fun d=>(kR d))
theorem vJ7:zD prog vKg:=fA f156 ySl (e2 yRx yNc) (qC vAr)
def yPc:zE:=⟨[(0,.c (.dat false zF)),(1,.c (.dat false .i)),sO 5 0,sI 6],[oA zF],[(5,none,zF,false)]⟩
def yHo (f:Xk)(d:yPc.den):=f d.1.1.1 d.1.2.1.1 d.1.2.2.2.1.1 d.2.1
def Xl:zX:=⟨[yPc],[(.exit 0,yMz)],Ui,fun k d=>yHo (C6 k k) d,fun b x _ K=>K (.exit 0) (zL b yMz (((),()),(x,())))⟩
def qY2:zY:=⟨[],[(3,Xl)],[],false⟩
theorem yWc:zU prog 1000 0 60 (zO (zS f190) 0) Xl:=lp (A:=qY2) Xl (fun d=>d.2.1) yHo C6 C7 (e1 uc) loops0
def yYu:=zJ 190 [.c (.dat false zF),.c (.dat false .i)] (.c (.own zF)) (fun k d=>C5 k d.1 d.2.1) (fun x=>(x,())) (fun d=>d.1)
theorem D3:zD prog yYu:=fA f190 qY2 (e1 uc) (qC yWc)
def yA0:zE:=⟨[sP 3 0,sO 8 1,sO 9 2,sI 10],[oB wU,oA zF,oA .i],[(9,none,.i,false)]⟩
def yBr:zE:=sp [sP 3 0,sO 8 1,sO 9 2] [oB wU,oA zF,oA .i]
def ySc (f:Xn)(d:yA0.den):=(yU (f d.1.2.2.2.1.1) d.2.1) d.2.2.1 d.2.2.2.1
def MV:zX:=⟨[yA0],[(.exit 0,yBr)],Xo,fun k d=>ySc (xp k k) d,fun b x _ K=>K (.exit 0) (zL b yBr (((),(),(),()),((vG x ()),x.2.2.2.2.1,x.2.2.2.2.2,())))⟩
def qZk:zE:=sp [sP 3 0,sO 8 1,sO 9 2,sI 11,sO 12 3,sI 13] [oB wU,oA zF,oA .i,oA .i]
def qT9:zE:=sp [sP 3 0,sO 8 1,sO 9 2,sI 11] [oB wU,oA zF,oA .i]
def yCg (f:Xp)(d:qZk.den):=(yU (f d.1.2.2.2.1.1 d.1.2.2.2.2.2.1.1) d.2.1) d.2.2.1 d.2.2.2.1 d.2.2.2.2.1
def Xq:zX:=⟨[qZk],[(.exit 4,qT9)],Xr,fun k d=>yCg (C9 k k) d,fun b x _ K=>K (.exit 4) (zL b qT9 (((),(),(),(x.1,()),()),((fO x ()),x.2.2.2.2.2.1,x.2.2.2.2.2.2,())))⟩
def qWq (f:Xs)(d:qT9.den):=(yU (f d.1.2.2.2.1.1) d.2.1) d.2.2.1 d.2.2.2.1
def MW:zX:=⟨[qT9],[(.ret,yNz)],(Int×AC),fun k d=>qWq (Ho k k) d,fun b x _ K=>K .ret (zL b yNz (((),(x.1,()),()),(x.2,())))⟩
def MX:zY:=⟨[],[(4,MV),(13,Xq),(9,MW)],[],false⟩
theorem vN4:zU prog 1000 0 58 (zO (zS f189) 0) MV:=lp (A:=MX) MV (fun d=>(vG d.2.1 (d.2.2.1,d.2.2.2.1))) ySc xp C8 (e4 xN uc D3 Ia) loops0
theorem vJ5:zU prog 1000 0 58 (zO (zO (zS f189) 1) 0) Xq:=lp (A:=MX) Xq (fun d=>(d.1.2.2.2.1.1,(vG d.2.1 (d.2.2.1,d.2.2.2.1)))) yCg C9 Da (e4 xN uc D3 Ia) loops0
theorem vEm:zU prog 1000 0 58 (zO (zS f189) 1) MW:=lp (A:=MX) MW (fun d=>(d.1.2.1.1,d.2.1)) qWq Ho Db (e4 xN uc D3 Ia) (qC vJ5)
def vRs:=zJ 189 [.agg wN,.c (.dat false zF),.c .i] (.tup [(false,[.own .i]),(false,vJ)]) (fun k d=>(gU (LH k) d)) (fun x=>(x.1,x.2,())) (fun d=>(d.1,d.2.1))
theorem yCx:zD prog vRs:=fA f189 MX (e4 xN uc D3 Ia) (nV (n:=2) (by kernel_rfl) fun i hi=>match i,hi with|0,_=>⟨MV,by kernel_rfl,vN4⟩|1,_=>⟨MW,by kernel_rfl,vEm⟩|i+2,hi=>absurd hi (by omega))
def yAg:zE:=sp [(1,.c (.dat true zF)),sP 6 0,sO 11 1,sP 12 2,sI 14] [oB lD,oA zF,oB vU]
def yCp:zE:=sp [(1,.c (.dat true zF)),sP 6 0,sO 11 1,sP 12 2] [oB lD,oA zF,oB vU]
def yI2 (f:Xt)(d:yAg.den):=(yU (f d.1.1.1 d.1.2.2.2.2.1.1 d.2.2.1) d.2.2.2.1)
def Xu:zX:=⟨[yAg],[(.exit 0,yCp)],Xv,fun k d=>yI2 (xq k k) d,fun b x _ K=>K (.exit 0) (zL b yCp (((x.1,()),(),(),(),()),((),x.2.1,(xj x ()),())))⟩
def qUy:zY:=⟨[],[(7,Xu)],[],false⟩
theorem yWr:zU prog 1000 0 57 (zO (zS f157) 0) Xu:=lp (A:=qUy) Xu (fun d=>(d.1.1.1,d.2.2.1,(rp d.2.2.2.1))) yI2 xq Dc (e5 yCx xN D3 WT ke) loops0
def vJy:=zJ 157 [.agg iJ,.c (.dat true zF),.c .i] (.tup [(true,kQ),(false,[.fro zF]),(false,[.own zF])]) (fun k d=>(gU (Hq k) d)) (fun x=>(lE x ())) (fun d=>(kR d))
theorem vI8:zD prog vJy:=fA f157 qUy (e5 yCx xN D3 WT ke) (qC yWr)
def vI9:=zJ 108 [.agg iJ,.c (.dat true zF),.c .i,.c .bool] (.tup [(true,kQ),(false,[.fro zF]),(false,[.own zF])]) (fun k d=>(kb (LI k) d)) (fun x=>(lE x ())) (fun d=>(kR d))
theorem vBe:zD prog vI9:=fA f108 ⟨[],[],[],false⟩ (e2 vJ7 vI8) loops0
def yFw:zE:=⟨[(0,.c (.dat false zF)),sO 3 0,sI 4],[oA yM],[(3,none,yM,false)]⟩
def yCl (f:Xw)(d:yFw.den):=f d.1.1.1 d.1.2.2.1.1 d.2.1
def Xx:zX:=⟨[yFw],[(.exit 0,ySm)],V2,fun k d=>yCl (GR k k) d,fun b x _ K=>K (.exit 0) (zL b ySm (((),()),(x,())))⟩
def yQr:zY:=⟨[],[(3,Xx)],[],false⟩
theorem vEq:zU prog 1000 0 39 (zO (zS f109) 0) Xx:=lp (A:=yQr) Xx (fun d=>d.2.1) yCl GR Cm (e1 oQ) loops0
def vLi:=zJ 109 [.c (.dat false zF)] (.c (.own yM)) (fun k d=>K6 k d.1) (fun x=>(x,())) (fun d=>d.1)
theorem vAl:zD prog vLi:=fA f109 yQr (e1 oQ) (qC vEq)
def vCz:=zJ 41 [.agg rr,.c .bool] (.tup [(true,xL),(false,[.own yM])]) (fun k d=>(HV (lA k) d)) (fun x=>(DY x ())) (fun d=>(DZ d))
theorem Ib:zD prog vCz:=fA f41 ⟨[],[],[],false⟩ (e2 vBe vAl) loops0
def qZ3:zE:=⟨[sP 3 0,sP 4 1,sO 6 2,(7,.c (.dat true zF)),sI 8],[oB mu,oB iT,oA yM],[(6,none,yM,false)]⟩
def yK8:zE:=sp [sP 3 0,sP 4 1,sO 6 2] [oB mu,oB iT,oA yM]
def qXb (f:Xz)(d:qZ3.den):=f d.1.2.2.2.1.1 d.1.2.2.2.2.1.1 (qR d.2.1) (d.2.2.1.1,d.2.2.1.2.1,d.2.2.1.2.2.1) d.2.2.2.1
def MY:zX:=⟨[qZ3],[(.exit 0,yK8)],XA,fun k d=>qXb (tH k k) d,fun b x _ K=>K (.exit 0) (zL b yK8 (((),(),(),()),((jJ x.1 ()),(x.2.1.1,x.2.1.2.1,x.2.1.2.2,()),x.2.2,())))⟩
def yGx:zE:=sp [sP 3 0,sP 4 1,sO 6 2,sI 9] [oB mu,oB iT,oA yM]
def yQg (f:XB)(d:yGx.den):=f d.1.2.2.2.1.1 (qR d.2.1) (d.2.2.1.1,d.2.2.1.2.1,d.2.2.1.2.2.1) d.2.2.2.1
def MZ:zX:=⟨[yGx],[(.exit 2,yK8)],XA,fun k d=>yQg (tI k k) d,fun b x _ K=>K (.exit 2) (zL b yK8 (((),(),(),()),((jJ x.1 ()),(x.2.1.1,x.2.1.2.1,x.2.1.2.2,()),x.2.2,())))⟩
def yKn:zE:=⟨[sP 2 0,sP 3 1,sP 4 2,sO 6 3,(7,.c (.dat true zF)),sI 10],[oB [.i,.dat true jM,.i,.i,.i],oB mu,oB iT,oA yM],[(6,none,yM,false)]⟩
def yQt:zE:=sp [sP 2 0,sP 3 1,sP 4 2,sO 6 3] [oB [.i,.dat true jM,.i,.i,.i],oB mu,oB iT,oA yM]
def yEf (f:XF)(d:yKn.den):=f d.1.2.2.2.2.1.1 d.1.2.2.2.2.2.1.1 (qZ d.2.1) (qR d.2.2.1) (d.2.2.2.1.1,d.2.2.2.1.2.1,d.2.2.2.1.2.2.1) d.2.2.2.2.1
def M3:zX:=⟨[yKn],[(.exit 4,yQt)],XG,fun k d=>yEf (qx k k) d,fun b x _ K=>K (.exit 4) (zL b yQt (((),(),(),(),()),((jZ x.1 ()),(jJ x.2.1 ()),(x.2.2.1.1,x.2.2.1.2.1,x.2.2.1.2.2,()),x.2.2.2,())))⟩
def M4:zY:=⟨[],[(8,MY),(12,MZ),(18,M3)],[],true⟩
theorem vLe:zU prog 1000 0 129 (zO (zS f39) 0) MY:=lp (A:=M4) MY (fun d=>((qR d.2.1),(d.2.2.1.1,d.2.2.1.2.1,d.2.2.1.2.2.1),d.2.2.2.1)) qXb tH De (e6 MQ oQ MR ke MS Ib) loops0
theorem vN3:zU prog 1000 0 129 (zO (zS f39) 1) MZ:=lp (A:=M4) MZ (fun d=>((qR d.2.1),(d.2.2.1.1,d.2.2.1.2.1,d.2.2.1.2.2.1),d.2.2.2.1)) yQg tI Df (e6 MQ oQ MR ke MS Ib) loops0
theorem vL4:zU prog 1000 0 129 (zO (zS f39) 2) M3:=lp (A:=M4) M3 (fun d=>((qZ d.2.1),(qR d.2.2.1),(d.2.2.2.1.1,d.2.2.2.1.2.1,d.2.2.2.1.2.2.1),d.2.2.2.2.1)) yEf qx Dg (e6 MQ oQ MR ke MS Ib) loops0
def vJw:=zJ 39 [.agg H7,.agg rr] (.tup [(true,xL),(false,[.own yM])]) (fun k d=>Dh k (qZ d) (mo d)) (fun x=>(jJ x.1 (x.2,()))) (fun d=>((qR d),d.2.2.2.2.2.2.2.2.2.2.2.1))
theorem vGe:zD prog vJw:=fA f39 M4 (e6 MQ oQ MR ke MS Ib) (nV (n:=3) (by kernel_rfl) fun i hi=>match i,hi with|0,_=>⟨MY,by kernel_rfl,vLe⟩|1,_=>⟨MZ,by kernel_rfl,vN3⟩|2,_=>⟨M3,by kernel_rfl,vL4⟩|i+3,hi=>absurd hi (by omega))
def yU5:=zJ 144 [.ptr yG0,.c .i] (.c .i) (fun k d=>qs k (MK d) d.2.2.2.2.2.2.2.2.2.2.2.2.2.2.2.2.2.2.2.1) (fun x=>(x,())) (fun d=>d.1)
theorem XH:zD prog yU5:=fA f144 n0 e0 loops0
def yVl:=zJ 151 [.agg fM,.c .i,.c .i] (.c .i) (fun k d=>CT k (qZ d) d.2.2.2.2.2.1 d.2.2.2.2.2.2.1) (fun x=>(x,())) (fun d=>d.1)
theorem yN6:zD prog yVl:=fA f151 n0 e0 loops0
def vLq:=zJ 145 [.agg fM,.c .i,.agg vC] (.c .i) (fun k d=>xl k (qZ d) d.2.2.2.2.2.1 (Uj d)) (fun x=>(x,())) (fun d=>d.1)
theorem vLb:zD prog vLq:=fA f145 n0 (e1 yN6) loops0
def qZx:zE:=sp [(0,.c (.dat true .i)),sI 1,sI 6] []
def yJq (f:XI)(d:qZx.den):=f d.1.1.1 d.1.2.1.1 d.1.2.2.1.1
def XJ:zX:=⟨[qZx],[(.exit 0,qZx)],(AC×Int×Int),fun k d=>yJq (Hb k k) d,fun b x _ K=>K (.exit 0) (zL b qZx (((x.1,()),(x.2.1,()),(x.2.2,()),()),()))⟩
def yK3:zY:=⟨[],[(6,XJ)],[],true⟩
theorem vBr:zU prog 1000 0 41 (zO (zS f146) 0) XJ:=lp (A:=yK3) XJ (fun d=>(d.1.1.1,d.1.2.1.1,d.1.2.2.1.1)) yJq Hb CK (e1 Mr) loops0
def yX2:=zJ 146 [.c (.dat true .i),.c .i] (.tup [(false,[.fro .i]),(false,vJ)]) (fun k d=>xi k d.1 d.2.1) (fun x=>(x.1,x.2,())) (fun d=>(d.1,d.2.1))
theorem vDg:zD prog yX2:=fA f146 yK3 (e1 Mr) (qC vBr)
def qYs:zE:=sp [(0,.c (.dat false zF)),sP 3 0,sI 5] [oB vW]
def yBl (f:XK)(d:qYs.den):=(kb (f d.1.1.1 d.1.2.2.1.1) d.2.1)
def XM:zX:=⟨[qYs],[(.exit 0,qXe)],Int,fun k d=>yBl (CH k k) d,fun b x _ K=>K (.exit 0) (zL b qXe (((x,()),()),()))⟩
def yPv:zY:=⟨[],[(2,XM)],[],false⟩
theorem vOd:zU prog 1000 0 21 (zO (zS f185) 0) XM:=lp (A:=yPv) XM (fun d=>d.1.1.1) yBl CH CI (e1 DS) loops0
def vO0:=zJ 185 [.c (.dat false zF),.agg vC] (.c .i) (fun k d=>(ka (CG k) d)) (fun x=>(x,())) (fun d=>d.1)
theorem XN:zD prog vO0:=fA f185 yPv (e1 DS) (qC vOd)
def vK4:=zJ 184 [.c (.dat false zF),.c .i,.agg vC] (.c (.own zF)) (fun k d=>(MH (xf k) d)) (fun x=>(x,())) (fun d=>d.1)
theorem Ic:zD prog vK4:=fA f184 ⟨[],[],[],false⟩ e0 loops0
def yWb:=zJ 147 [.c (.dat true zF),.agg vC] (.tup [(false,[.fro zF]),(false,vJ)]) (fun k d=>(ka (xg k) d)) (fun x=>(x.1,x.2,())) (fun d=>(d.1,d.2.1))
theorem vF4:zD prog yWb:=fA f147 ⟨[],[],[],false⟩ (e3 DR XN Ic) loops0
def vR0:=vX 102 [.ptr true xO,.agg H2] (.c .i) [xP] 0 (fun k d=>Lx k (qV d d.2.2.2.2.2.2.2.2.2.2.2.2.2.2.2.2.2.2.1) (vId d)) (fun x=>(x.1,(ub x.2 ()))) (fun d=>(d.1,(xQ d)))
theorem yUs:zD prog vR0:=fX f102 n0 1 (e4 XH vLb vDg vF4) loops0
def vIu:=zJ 148 [.ptr yG0,.c .i] (.tup [(true,oP),(false,[.bool])]) (fun k d=>yA3 k (MK d) d.2.2.2.2.2.2.2.2.2.2.2.2.2.2.2.2.2.2.2.1) (fun x=>(gh x.1 (x.2,()))) (fun d=>((wC d),d.2.2.2.2.2.2.2.1))
theorem yYt:zD prog vIu:=fA f148 n0 (e1 DR) loops0
def yM4:zE:=sp [(6,.c (.dat true zF)),sP 7 0,sI 9] [oB vW]
def yPe (f:Uq)(d:yM4.den):=f d.1.1.1 d.1.2.2.1.1 (wC d.2.1)
def XP:zX:=⟨[yM4],[(.exit 0,yM4)],Us,fun k d=>yPe (Ha k k) d,fun b x _ K=>K (.exit 0) (zL b yM4 (((x.1,()),(),(x.2.1,()),()),((gh x.2.2 ()),())))⟩
def qWh:zY:=⟨[],[(5,XP)],[],true⟩
theorem vD6:zU prog 1000 0 40 (zO (zS f149) 0) XP:=lp (A:=qWh) XP (fun d=>(d.1.1.1,d.1.2.2.1.1,(wC d.2.1))) yPe Ha CJ (e3 ke DS Ic) loops0
def vPr:=zJ 149 [.c (.dat true zF),.c .i] (.tup [(false,[.fro zF]),(false,vJ)]) (fun k d=>G8 k d.1 d.2.1) (fun x=>(x.1,x.2,())) (fun d=>(d.1,d.2.1))
theorem vHr:zD prog vPr:=fA f149 qWh (e3 ke DS Ic) (qC vD6)
def vPb:=zJ 150 [.c (.dat true zF),.c .i] (.tup [(false,[.fro zF]),(false,vJ)]) (fun k d=>G7 k d.1 d.2.1) (fun x=>(x.1,x.2,())) (fun d=>(d.1,d.2.1))
theorem vNm:zD prog vPb:=fA f150 n0 (e3 ke XN Ic) loops0
def vFf:=zJ 152 [.c (.dat true zF),.c .i,.c .i] (.tup [(false,[.fro zF]),(false,vJ)]) (fun k d=>G6 k d.1 d.2.1 d.2.2.1) (fun x=>(x.1,x.2,())) (fun d=>(d.1,d.2.1))
theorem yX7:zD prog vFf:=fA f152 n0 (e3 ke XN Ic) loops0
def yY9:=vX 103 [.ptr true xO,.c (.p .i),.agg H2] (.c .i) [xP] 0 (fun k d=>xn k (qV d d.2.2.2.2.2.2.2.2.2.2.2.2.2.2.2.2.2.2.1) d.2.2.2.2.2.2.2.2.2.2.2.2.2.2.2.2.2.2.2.1 (yR2 d)) (fun x=>(x.1,(ub x.2 ()))) (fun d=>(d.1,(xQ d)))
theorem vKd:zD prog yY9:=fX f103 n0 1 (e7 yYt ke oQ vHr vNm yN6 yX7) loops0
def vGd:=vX 104 [.ptr true xO,.c (.p .i),.agg H2] (.c .i) [xP] 0 (fun k d=>xo k (qV d d.2.2.2.2.2.2.2.2.2.2.2.2.2.2.2.2.2.2.1) d.2.2.2.2.2.2.2.2.2.2.2.2.2.2.2.2.2.2.2.1 (yR2 d)) (fun x=>(x.1,(ub x.2 ()))) (fun d=>(d.1,(xQ d)))
theorem vE1:zD prog vGd:=fX f104 n0 1 (e2 ud XH) loops0
def vFq:=zJ 154 [.c (.dat false .i),.c .i,.c .i] (.c (.own .i)) (fun k d=>qt k d.1 d.2.1 d.2.2.1) (fun x=>(x,())) (fun d=>d.1)
theorem XR:zD prog vFq:=fA f154 n0 e0 loops0
def yTb:=vX 105 [.ptr true xO,.c (.p .i),.c (.p .i)] (.c .i) [xP] 0 (fun k d=>Ly k (qV d d.2.2.2.2.2.2.2.2.2.2.2.2.2.2.2.2.2.2.1) d.2.2.2.2.2.2.2.2.2.2.2.2.2.2.2.2.2.2.2.1 d.2.2.2.2.2.2.2.2.2.2.2.2.2.2.2.2.2.2.2.2.1) (fun x=>(x.1,(ub x.2 ()))) (fun d=>(d.1,(xQ d)))
theorem vB1:zD prog yTb:=fX f105 n0 1 (e3 XR xH ud) loops0
def yZd:=zJ 155 [.agg lC,.c .i] (.tup [(true,[.i,.i,.i]),(false,vJ)]) (fun k d=>CU k (d.1,d.2.1,d.2.2.1) d.2.2.2.1) (fun x=>(x.1.1,x.1.2.1,x.1.2.2,x.2,())) (fun d=>((d.1,d.2.1,d.2.2.1),d.2.2.2.1))
theorem yX6:zD prog yZd:=fA f155 n0 (e2 TA Mj) loops0
def vIv:=vX 106 [.ptr true xO,.c (.p .bool),.c (.p .i),.c (.p .i)] (.c .i) [xP] 0 (fun k d=>CV k (qV d d.2.2.2.2.2.2.2.2.2.2.2.2.2.2.2.2.2.2.1) d.2.2.2.2.2.2.2.2.2.2.2.2.2.2.2.2.2.2.2.1 d.2.2.2.2.2.2.2.2.2.2.2.2.2.2.2.2.2.2.2.2.1 d.2.2.2.2.2.2.2.2.2.2.2.2.2.2.2.2.2.2.2.2.2.1) (fun x=>(x.1,(ub x.2 ()))) (fun d=>(d.1,(xQ d)))
theorem yZ3:zD prog vIv:=fX f106 n0 1 (e3 XH ud yX6) loops0
def yHy:zE:=sp [sP 0 0,sO 7 1,sP 8 2,sI 9] [oB XS,oA .i,oB oR,oA yD,.mat,oA .i,.mat]
def yQm:zE:=sp [sP 0 0,sO 7 1,sP 8 2] [oB XS,oA .i,oB oR,oA yD,.mat,oA .i,.mat]
def yNx:zE:=sp [sP 0 0,sI 6] [oB XS]
def yFo (f:XT)(d:yHy.den):=f d.1.2.2.2.1.1 (fm d.2.1) d.2.2.1 d.2.2.2.2.1 d.2.2.2.2.2.1 d.2.2.2.2.2.2.1 d.2.2.2.2.2.2.2.1
def XU:zX:=⟨[yHy],[(.exit 0,yQm),(.ret,yNx)],XV,fun k d=>yFo (qu k k) d,fun b x _ K=>match x with|.inl x=>K (.exit 0) (zL b yQm (((),(),(),()),((jL x.1 ()),x.2.1,(),x.2.2.1,x.2.2.2.1,x.2.2.2.2.1,x.2.2.2.2.2,())))|.inr x=>K .ret (zL b yNx (((),(x.1,()),()),((jL x.2 ()),())))⟩
def ySu:zY:=⟨[],[(6,XU)],[],true⟩
theorem yVy:zU prog 1000 1 93 (zO (zS f107) 0) XU:=lp (A:=ySu) XU (fun d=>match d with|.inl d=>.inl ((fm d.2.1),d.2.2.1,d.2.2.2.2.1,d.2.2.2.2.2.1,d.2.2.2.2.2.2.1,d.2.2.2.2.2.2.2.1)|.inr d=>.inr (d.1.2.1.1,(fm d.2.1))) yFo qu CW (e3 XR ud xH) loops0
def vRr:=vX 107 [.ptr true xO,.c (.p .i),.c (.p .i)] (.c .i) [xP] 0 (fun k d=>LA k (qV d d.2.2.2.2.2.2.2.2.2.2.2.2.2.2.2.2.2.2.1) d.2.2.2.2.2.2.2.2.2.2.2.2.2.2.2.2.2.2.2.1 d.2.2.2.2.2.2.2.2.2.2.2.2.2.2.2.2.2.2.2.2.1) (fun x=>(x.1,(ub x.2 ()))) (fun d=>(d.1,(xQ d)))
theorem vM6:zD prog vRr:=fX f107 ySu 1 (e3 XR ud xH) (qC yVy)
def yXk:=vX 40 [.ptr true xO,.agg vC] (.c .i) [xP] 0 (fun k d=>tN k (qV d d.2.2.2.2.2.2.2.2.2.2.2.2.2.2.2.2.2.2.1) (vBa d)) (fun x=>(x.1,(ub x.2 ()))) (fun d=>(d.1,(xQ d)))
theorem vJr:zD prog yXk:=fX f40 n0 1 (e6 yUs vKd vE1 vB1 yZ3 vM6) loops0
def qQt:=zJ 12 [.agg H7,.agg rr,.agg DU] (.tup [(true,xL),(false,[.own yM]),(false,vJ)]) (fun k d=>Hw k (qZ d) (mo d) (xG d)) (fun x=>(jJ x.1 (x.2.1,x.2.2,()))) (fun d=>((qR d),d.2.2.2.2.2.2.2.2.2.2.2.1,d.2.2.2.2.2.2.2.2.2.2.2.2.1))
theorem vDu:zD prog qQt:=fA f12 n0 (e7 vMk uc oQ vGe vJr Ib DR) loops0
def qXd:zE:=sp [(0,.c (.dat false .i)),(1,.c (.dat false .i)),sI 5] []
def qYu (f:XW)(d:qXd.den):=f d.1.1.1 d.1.2.1.1 d.1.2.2.1.1
def XX:zX:=⟨[qXd],[(.exit 0,qVj),(.ret,yAb)],(Unit⊕Bool),fun k d=>qYu (FN k k) d,fun b x _ K=>match x with|.inl x=>K (.exit 0) (zL b qVj ((),()))|.inr x=>K .ret (zL b yAb (((x,()),()),()))⟩
def yAp:zY:=⟨[],[(4,XX)],[],false⟩
theorem yX3:zU prog 1000 0 26 (zO (zS f44) 0) XX:=lp (A:=yAp) XX (fun d=>match d with|.inl d=>.inl ()|.inr d=>.inr d.1.1.1) qYu FN AO e0 loops0
def XY:=zJ 44 [.c (.dat false .i),.c (.dat false .i)] (.c .bool) (fun k d=>pS k d.1 d.2.1) (fun x=>(x,())) (fun d=>d.1)
theorem M5:zD prog XY:=fA f44 yAp e0 (qC yX3)
def yFd:zE:=sp [(0,.c (.dat false (.sl .i))),(1,.c (.dat false (.sl .i))),sI 5] []
def qYc (f:XZ)(d:yFd.den):=f d.1.1.1 d.1.2.1.1 d.1.2.2.1.1
def X0:zX:=⟨[yFd],[(.exit 0,qVj),(.ret,yAb)],(Unit⊕Bool),fun k d=>qYc (FO k k) d,fun b x _ K=>match x with|.inl x=>K (.exit 0) (zL b qVj ((),()))|.inr x=>K .ret (zL b yAb (((x,()),()),()))⟩
def ySo:zY:=⟨[],[(4,X0)],[],false⟩
theorem vG1:zU prog 1000 0 27 (zO (zS f45) 0) X0:=lp (A:=ySo) X0 (fun d=>match d with|.inl d=>.inl ()|.inr d=>.inr d.1.1.1) qYc FO AP (e1 M5) loops0
def X1:=zJ 45 [.c (.dat false (.sl .i)),.c (.dat false (.sl .i))] (.c .bool) (fun k d=>wa k d.1 d.2.1) (fun x=>(x,())) (fun d=>d.1)
theorem qT5:zD prog X1:=fA f45 ySo (e1 M5) (qC vG1)
def yKf:zE:=sp [sP 2 0,sP 3 1,sI 5] [oB wU,oB wU]
def yIx (f:X2)(d:yKf.den):=(yU (yU (f d.1.2.2.1.1) d.2.1) d.2.2.1)
def X3:zX:=⟨[yKf],[(.exit 0,qVj),(.ret,yAb)],(Unit⊕Bool),fun k d=>yIx (FQ k k) d,fun b x _ K=>match x with|.inl x=>K (.exit 0) (zL b qVj ((),()))|.inr x=>K .ret (zL b yAb (((x,()),()),()))⟩
def yVb:Env:=⟨prog,fun t=>[57].any (Nat.beq t),jP [X1,XY]⟩
theorem yKe:wY yVb:=Ar (l:=[X1,XY]) (eqT:=fun t=>[57].any (Nat.beq t)) (Es (fun t h=>E2 (p:=fun t=>prog.keyTypeAt 8 t&& !prog.eqGuardType prog.depth t) (l:=[57]) (List.forall_mem_cons.2 ⟨by kernel_rfl,List.forall_mem_nil _⟩) t h)) fl ⟨qT5,M5,trivial⟩
def qXg:zY:=⟨[],[(4,X3)],[],false⟩
theorem yT1:zU prog 1000 0 55 (zO (zS f43) 0) X3:=lp (A:=qXg) X3 (fun d=>match d with|.inl d=>.inl ()|.inr d=>.inr d.1.1.1) yIx FQ AQ yKe loops0
def vNu:=zJ 43 [.agg wN,.agg wN] (.c .bool) (fun k d=>(ka (FP k) d)) (fun x=>(x,())) (fun d=>d.1)
theorem vIt:zD prog vNu:=fA f43 qXg yKe (qC yT1)
def yOp:zE:=sp [(0,.c (.dat false zF)),(1,.c (.dat false zF)),sI 5] []
def qVq (f:X4)(d:yOp.den):=f d.1.1.1 d.1.2.1.1 d.1.2.2.1.1
def X5:zX:=⟨[yOp],[(.exit 0,qVj),(.ret,yAb)],(Unit⊕Bool),fun k d=>qVq (HI k k) d,fun b x _ K=>match x with|.inl x=>K (.exit 0) (zL b qVj ((),()))|.inr x=>K .ret (zL b yAb (((x,()),()),()))⟩
def vPm:Env:=⟨prog,fun t=>[97].any (Nat.beq t),jP []⟩
theorem qUq:wY vPm:=Ar (l:=[]) (eqT:=fun t=>[97].any (Nat.beq t)) (Es (fun t h=>E2 (p:=fun t=>prog.keyTypeAt 8 t&& !prog.eqGuardType prog.depth t) (l:=[97]) (List.forall_mem_cons.2 ⟨by kernel_rfl,List.forall_mem_nil _⟩) t h)) fl trivial
def yOh:zY:=⟨[],[(4,X5)],[],false⟩
theorem vBt:zU prog 1000 0 26 (zO (zS f46) 0) X5:=lp (A:=yOh) X5 (fun d=>match d with|.inl d=>.inl ()|.inr d=>.inr d.1.1.1) qVq HI Dz qUq loops0
def vMt:=zJ 46 [.c (.dat false zF),.c (.dat false zF)] (.c .bool) (fun k d=>HH k d.1 d.2.1) (fun x=>(x,())) (fun d=>d.1)
theorem vB6:zD prog vMt:=fA f46 yOh qUq (qC vBt)
def qQx:=zJ 13 [.agg kO,.agg kO] (.c .bool) (fun k d=>L3 k (qR d) (yVi d)) (fun x=>(x,())) (fun d=>d.1)
theorem vHb:zD prog qQx:=fA f13 n0 (e4 vIt M5 qT5 vB6) loops0
def yHi:zE:=sp [(0,.c (.dat false yM)),(1,.c (.dat false yM)),sI 5] []
def qZu (f:X6)(d:yHi.den):=f d.1.1.1 d.1.2.1.1 d.1.2.2.1.1
def X7:zX:=⟨[yHi],[(.exit 0,qVj),(.ret,yAb)],(Unit⊕Bool),fun k d=>qZu (GS k k) d,fun b x _ K=>match x with|.inl x=>K (.exit 0) (zL b qVj ((),()))|.inr x=>K .ret (zL b yAb (((x,()),()),()))⟩
def vPc:Env:=⟨prog,fun t=>[65].any (Nat.beq t),jP []⟩
theorem yKm:wY vPc:=Ar (l:=[]) (eqT:=fun t=>[65].any (Nat.beq t)) (Es (fun t h=>E2 (p:=fun t=>prog.keyTypeAt 8 t&& !prog.eqGuardType prog.depth t) (l:=[65]) (List.forall_mem_cons.2 ⟨by kernel_rfl,List.forall_mem_nil _⟩) t h)) fl trivial
def qT6:zY:=⟨[],[(4,X7)],[],false⟩
theorem vCi:zU prog 1000 0 26 (zO (zS f14) 0) X7:=lp (A:=qT6) X7 (fun d=>match d with|.inl d=>.inl ()|.inr d=>.inr d.1.1.1) qZu GS Cn yKm loops0
def qGt:=zJ 14 [.c (.dat false yM),.c (.dat false yM)] (.c .bool) (fun k d=>K7 k d.1 d.2.1) (fun x=>(x,())) (fun d=>d.1)
theorem vKm:zD prog qGt:=fA f14 qT6 yKm (qC vCi)
def yJ5:Env:=⟨prog,fun _=>false,jP [R0q,R2q,qJ3,qJa,qQt,qQx,qGt,qPn,qLh]⟩
theorem yMk:wY yJ5:=mT fl ⟨F0q,F2q,vOs,yPq,vDu,vHb,vKm,vSb,vGs,trivial⟩
def vCl:zY:=n0
def R8:List AS:=[.agg H7,.agg rr,.agg DU]
theorem vI2:PR yJ5 vCl 0 f4 R8 (.c .bool) (fun d=>d.1) (fun k d=>L9 k (qZ d) (mo d) (xG d)):=by intro k d;kernel_rfl
end
end Go.Ab.Gi
