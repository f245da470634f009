/- part 72 -/
import Derived.Test.YtpgcgnfpnjolpaaGreatGiXS
import Derived.Test.YtpgcgnfpnjolpaaGreatGiAbE
import Derived.Test.YtpgcgnfpnjolpaaGreatProg
set_option linter.unusedVariables false
set_option maxRecDepth 100000
set_option maxHeartbeats 4000000
namespace Go.Ab.Gi
open Go.RowKit Go.Lib Go.Proofs Go.Proofs.Tryz
noncomputable section
theorem fl:prog.follows .mixedOrders=true:=by kernel_rfl
abbrev n0:zY:=⟨[],[],[],true⟩
theorem e0:jA ⟨prog,fun _=>false,jQ []⟩:=mS (l:=[]) fl trivial
theorem e1 {a0}(h0:zD prog a0):jA ⟨prog,fun _=>false,jQ [a0]⟩:=mS (l:=[a0]) fl ⟨h0,trivial⟩
theorem e2 {a0 a1}(h0:zD prog a0)(h1:zD prog a1):jA ⟨prog,fun _=>false,jQ [a0,a1]⟩:=mS (l:=[a0,a1]) fl ⟨h0,h1,trivial⟩
theorem e3 {a0 a1 a2}(h0:zD prog a0)(h1:zD prog a1)(h2:zD prog a2):jA ⟨prog,fun _=>false,jQ [a0,a1,a2]⟩:=mS (l:=[a0,a1,a2]) fl ⟨h0,h1,h2,trivial⟩
theorem e4 {a0 a1 a2 a3}(h0:zD prog a0)(h1:zD prog a1)(h2:zD prog a2)(h3:zD prog a3):jA ⟨prog,fun _=>false,jQ [a0,a1,a2,a3]⟩:=mS (l:=[a0,a1,a2,a3]) fl ⟨h0,h1,h2,h3,trivial⟩
theorem e5 {a0 a1 a2 a3 a4}(h0:zD prog a0)(h1:zD prog a1)(h2:zD prog a2)(h3:zD prog a3)(h4:zD prog a4):jA ⟨prog,fun _=>false,jQ [a0,a1,a2,a3,a4]⟩:=mS (l:=[a0,a1,a2,a3,a4]) fl ⟨h0,h1,h2,h3,h4,trivial⟩
theorem e6 {a0 a1 a2 a3 a4 a5}(h0:zD prog a0)(h1:zD prog a1)(h2:zD prog a2)(h3:zD prog a3)(h4:zD prog a4)(h5:zD prog a5):jA ⟨prog,fun _=>false,jQ [a0,a1,a2,a3,a4,a5]⟩:=mS (l:=[a0,a1,a2,a3,a4,a5]) fl ⟨h0,h1,h2,h3,h4,h5,trivial⟩
theorem e7 {a0 a1 a2 a3 a4 a5 a6}(h0:zD prog a0)(h1:zD prog a1)(h2:zD prog a2)(h3:zD prog a3)(h4:zD prog a4)(h5:zD prog a5)(h6:zD prog a6):jA ⟨prog,fun _=>false,jQ [a0,a1,a2,a3,a4,a5,a6]⟩:=mS (l:=[a0,a1,a2,a3,a4,a5,a6]) fl ⟨h0,h1,h2,h3,h4,h5,h6,trivial⟩
theorem e8 {a0 a1 a2 a3 a4 a5 a6 a7}(h0:zD prog a0)(h1:zD prog a1)(h2:zD prog a2)(h3:zD prog a3)(h4:zD prog a4)(h5:zD prog a5)(h6:zD prog a6)(h7:zD prog a7):jA ⟨prog,fun _=>false,jQ [a0,a1,a2,a3,a4,a5,a6,a7]⟩:=mS (l:=[a0,a1,a2,a3,a4,a5,a6,a7]) fl ⟨h0,h1,h2,h3,h4,h5,h6,h7,trivial⟩
theorem e9 {a0 a1 a2 a3 a4 a5 a6 a7 a8}(h0:zD prog a0)(h1:zD prog a1)(h2:zD prog a2)(h3:zD prog a3)(h4:zD prog a4)(h5:zD prog a5)(h6:zD prog a6)(h7:zD prog a7)(h8:zD prog a8):jA ⟨prog,fun _=>false,jQ [a0,a1,a2,a3,a4,a5,a6,a7,a8]⟩:=mS (l:=[a0,a1,a2,a3,a4,a5,a6,a7,a8]) fl ⟨h0,h1,h2,h3,h4,h5,h6,h7,h8,trivial⟩
def R0q:=zJ 5 [.agg fM,.agg kM] (.c .bool) (fun k d=>L6 k (qX d) (mn d)) (fun x=>(x,())) (fun d=>d.1)
theorem F0q:zD prog R0q:=fA f5 n0 e0 loops0
def R1q:=zJ 15 [.c .i,.c .i,.c .i] (.c .bool) (fun k d=>tT k d.1 d.2.1 d.2.2.1) (fun x=>(x,())) (fun d=>d.1)
theorem F1q:zD prog R1q:=fA f15 n0 e0 loops0
def qZq:zE:=sp [sP 1 0,sI 3] [oB iH]
def yRc:zE:=sp [sP 1 0] [oB iH]
def qV9:zE:=sp [(2,.c .bool)] []
def yNf (f:R6)(d:qZq.den):=f d.1.2.1.1 (qX d.2.1)
def R7:zX:=⟨[qZq],[(.exit 0,yRc),(.ret,qV9)],R8,fun k d=>yNf (xE k k) d,fun b x _ K=>match x with|.inl x=>K (.exit 0) (zL b yRc (((),()),((eW x ()),())))|.inr x=>K .ret (zL b qV9 (((x,()),()),()))⟩
def A2q:zY:=⟨[],[(4,R7)],[],true⟩
theorem vA9:zU prog 1000 0 58 (zO (zS f6) 0) R7:=lp (A:=A2q) R7 (fun d=>match d with|.inl d=>.inl (qX d.2.1)|.inr d=>.inr d.1.1.1) yNf xE DN (e1 F1q) loops0
def R2q:=zJ 6 [.agg fM] (.c .bool) (fun k d=>L5 k (qX d)) (fun x=>(x,())) (fun d=>d.1)
theorem F2q:zD prog R2q:=fA f6 A2q (e1 F1q) (qC vA9)
def R3q:=zJ 16 [.c .i,.c .i,.c .i] (.c .bool) (fun k d=>yW k d.1 d.2.1 d.2.2.1) (fun x=>(x,())) (fun d=>d.1)
theorem fN:zD prog R3q:=fA f16 n0 e0 loops0
def R4q:=zJ 48 [.agg lB] (.c .bool) (fun k d=>JT k d.1 d.2.1 d.2.2.1) (fun x=>(x,())) (fun d=>d.1)
theorem F4q:zD prog R4q:=fA f48 ⟨[],[],[],false⟩ e0 loops0
def R5q:=zJ 47 [.agg lB] (.c .bool) (fun k d=>P4 k d.1 d.2.1 d.2.2.1) (fun x=>(x,())) (fun d=>d.1)
theorem F5q:zD prog R5q:=fA f47 ⟨[],[],[],false⟩ (e1 F4q) loops0
def qUj:zE:=sp [(0,.c (.dat false yC)),(1,.c (.lit (.fn 47 []))),sI 7,sI 8] []
def yBe:zE:=sp [] []
def yOe:zE:=sp [sI 4] []
def qZd (f:R9)(d:qUj.den):=f d.1.1.1 d.1.2.2.1.1 d.1.2.2.2.1.1
def Sa:zX:=⟨[qUj],[(.exit 0,yBe),(.ret,yOe)],(Unit⊕Int),fun k d=>qZd (Fw k k) d,fun b x _ K=>match x with|.inl x=>K (.exit 0) (zL b yBe ((),()))|.inr x=>K .ret (zL b yOe (((x,()),()),()))⟩
def A6q:zY:=⟨[],[(2,Sa)],[],false⟩
theorem vB6:zU prog 1000 0 19 (zO (zS f110) 0) Sa:=lp (A:=A6q) Sa (fun d=>match d with|.inl d=>.inl ()|.inr d=>.inr d.1.1.1) qZd Fw AB (e1 F5q) loops0
def R6q:=zJ 110 [.c (.dat false yC),.c (.fn 47)] (.c .i) (fun k d=>P5 k d.1) (fun x=>(x,())) (fun d=>d.1)
theorem F6q:zD prog R6q:=fA f110 A6q (e1 F5q) (qC vB6)
def R7q:=zJ 49 [.c (.dat false yC),.c (.fn 47)] (.c .bool) (fun k d=>JV k d.1) (fun x=>(x,())) (fun d=>d.1)
theorem F7q:zD prog R7q:=fA f49 ⟨[],[],[],false⟩ (e1 F6q) loops0
def R8q:=zJ 51 [.c .i] (.c .bool) (fun k d=>P2 k d.1) (fun x=>(x,())) (fun d=>d.1)
theorem F8q:zD prog R8q:=fA f51 ⟨[],[],[],false⟩ e0 loops0
def R9q:=zJ 111 [.c .i,.ptr [.fn 51]] (.c .bool) (fun k d=>P6 k d.1) (fun x=>(x,())) (fun d=>d.1)
theorem F9q:zD prog R9q:=fA f111 ⟨[],[],[],false⟩ (e1 F8q) loops0
def yLe:zE:=sp [(0,.c (.dat false .i)),(1,.c (.lit (.fn 111 [1001000]))),sI 7,sI 8] [.robox [.lit (.fn 51 [])]]
def qX1 (f:Sb)(d:yLe.den):=f d.1.1.1 d.1.2.2.1.1 d.1.2.2.2.1.1
def Sc:zX:=⟨[yLe],[(.exit 0,yBe),(.ret,yOe)],(Unit⊕Int),fun k d=>qX1 (Fx k k) d,fun b x _ K=>match x with|.inl x=>K (.exit 0) (zL b yBe ((),()))|.inr x=>K .ret (zL b yOe (((x,()),()),()))⟩
def yRu:zY:=⟨[],[(2,Sc)],[],false⟩
theorem yYb:zU prog 1000 0 19 (zO (zS f112) 0) Sc:=lp (A:=yRu) Sc (fun d=>match d with|.inl d=>.inl ()|.inr d=>.inr d.1.1.1) qX1 Fx AE (e1 F9q) loops0
def yS6:=zJ 112 [.c (.dat false .i),.fn 111 [[.fn 51]]] (.c .i) (fun k d=>P7 k d.1) (fun x=>(x,())) (fun d=>d.1)
theorem vBb:zD prog yS6:=fA f112 yRu (e1 F9q) (qC yYb)
def yXt:=zJ 55 [.c (.dat false .i),.fn 111 [[.fn 51]]] (.c .bool) (fun k d=>JW k d.1) (fun x=>(x,())) (fun d=>d.1)
theorem vAk:zD prog yXt:=fA f55 ⟨[],[],[],false⟩ (e1 vBb) loops0
def vOl:=zJ 52 [.c (.dat false .i),.c .i,.c (.fn 51)] (.c .bool) (fun k d=>Fz k d.1 d.2.1) (fun x=>(x,())) (fun d=>d.1)
theorem Sd:zD prog vOl:=fA f52 ⟨[],[],[],false⟩ (e1 vAk) loops0
def yMt:zE:=sp [sI 1,(2,.c (.lit (.fn 51 []))),(13,.c (.dat false (.sl .i))),sI 14,sI 15] []
def qY2:zE:=sp [(6,.c .bool)] []
def yJc (f:Se)(d:yMt.den):=f d.1.1.1 d.1.2.2.1.1 d.1.2.2.2.1.1 d.1.2.2.2.2.1.1
def Sf:zX:=⟨[yMt],[(.exit 0,yBe),(.ret,qY2)],(Unit⊕Bool),fun k d=>yJc (FA k k) d,fun b x _ K=>match x with|.inl x=>K (.exit 0) (zL b yBe ((),()))|.inr x=>K .ret (zL b qY2 (((x,()),()),()))⟩
def qXc:zY:=⟨[],[(4,Sf)],[],false⟩
theorem yUn:zU prog 1000 0 25 (zO (zS f50) 0) Sf:=lp (A:=qXc) Sf (fun d=>match d with|.inl d=>.inl ()|.inr d=>.inr d.1.1.1) yJc FA AG (e1 Sd) loops0
def yTf:=zJ 50 [.c (.dat false (.sl .i)),.c .i,.c (.fn 51)] (.c .bool) (fun k d=>JZ k d.1 d.2.1) (fun x=>(x,())) (fun d=>d.1)
theorem vFy:zD prog yTf:=fA f50 qXc (e1 Sd) (qC yUn)
def vLz:=zJ 53 [.c .i] (.c .bool) (fun k d=>JU k d.1) (fun x=>(x,())) (fun d=>d.1)
theorem vF7:zD prog vLz:=fA f53 ⟨[],[],[],false⟩ e0 loops0
def vOt:=zJ 111 [.c .i,.ptr [.fn 53]] (.c .bool) (fun k d=>P8 k d.1) (fun x=>(x,())) (fun d=>d.1)
theorem qUs:zD prog vOt:=fA f111 ⟨[],[],[],false⟩ (e1 vF7) loops0
def yAe:zE:=sp [(0,.c (.dat false .i)),(1,.c (.lit (.fn 111 [1001000]))),sI 7,sI 8] [.robox [.lit (.fn 53 [])]]
def qY7 (f:Sb)(d:yAe.den):=f d.1.1.1 d.1.2.2.1.1 d.1.2.2.2.1.1
def Sh:zX:=⟨[yAe],[(.exit 0,yBe),(.ret,yOe)],(Unit⊕Int),fun k d=>qY7 (Fy k k) d,fun b x _ K=>match x with|.inl x=>K (.exit 0) (zL b yBe ((),()))|.inr x=>K .ret (zL b yOe (((x,()),()),()))⟩
def yQh:zY:=⟨[],[(2,Sh)],[],false⟩
theorem vPm:zU prog 1000 0 19 (zO (zS f112) 0) Sh:=lp (A:=yQh) Sh (fun d=>match d with|.inl d=>.inl ()|.inr d=>.inr d.1.1.1) qY7 Fy AF (e1 qUs) loops0
def vQ5:=zJ 112 [.c (.dat false .i),.fn 111 [[.fn 53]]] (.c .i) (fun k d=>P9 k d.1) (fun x=>(x,())) (fun d=>d.1)
theorem yVx:zD prog vQ5:=fA f112 yQh (e1 qUs) (qC vPm)
def vH1:=zJ 55 [.c (.dat false .i),.fn 111 [[.fn 53]]] (.c .bool) (fun k d=>JX k d.1) (fun x=>(x,())) (fun d=>d.1)
theorem vLq:zD prog vH1:=fA f55 ⟨[],[],[],false⟩ (e1 yVx) loops0
def vCn:=zJ 52 [.c (.dat false .i),.c .i,.c (.fn 53)] (.c .bool) (fun k d=>JY k d.1 d.2.1) (fun x=>(x,())) (fun d=>d.1)
theorem qYu:zD prog vCn:=fA f52 ⟨[],[],[],false⟩ (e1 vLq) loops0
def yOu:zE:=sp [sI 1,(2,.c (.lit (.fn 53 []))),(13,.c (.dat false (.sl .i))),sI 14,sI 15] []
def qWj (f:Se)(d:yOu.den):=f d.1.1.1 d.1.2.2.1.1 d.1.2.2.2.1.1 d.1.2.2.2.2.1.1
def Sj:zX:=⟨[yOu],[(.exit 0,yBe),(.ret,qY2)],(Unit⊕Bool),fun k d=>qWj (FB k k) d,fun b x _ K=>match x with|.inl x=>K (.exit 0) (zL b yBe ((),()))|.inr x=>K .ret (zL b qY2 (((x,()),()),()))⟩
def yFl:zY:=⟨[],[(4,Sj)],[],false⟩
theorem vPg:zU prog 1000 0 25 (zO (zS f50) 0) Sj:=lp (A:=yFl) Sj (fun d=>match d with|.inl d=>.inl ()|.inr d=>.inr d.1.1.1) qWj FB AH (e1 qYu) loops0
def yYe:=zJ 50 [.c (.dat false (.sl .i)),.c .i,.c (.fn 53)] (.c .bool) (fun k d=>J0 k d.1 d.2.1) (fun x=>(x,())) (fun d=>d.1)
theorem vPd:zD prog yYe:=fA f50 yFl (e1 qYu) (qC vPg)
def qZx:zE:=sp [(0,.c (.dat false (.sl .i))),sI 3,(7,.c (.dat false (.sl .i))),sI 8,sI 9,(14,.c (.dat false .i)),sI 15,sI 16] []
def yQa:zE:=sp [(0,.c (.dat false (.sl .i))),(7,.c (.dat false (.sl .i))),sI 8,sI 9] []
def yF6 (f:Sk)(d:qZx.den):=f d.1.1.1 d.1.2.1.1 d.1.2.2.1.1 d.1.2.2.2.1.1 d.1.2.2.2.2.1.1 d.1.2.2.2.2.2.1.1 d.1.2.2.2.2.2.2.1.1 d.1.2.2.2.2.2.2.2.1.1
def Sl:zX:=⟨[qZx],[(.exit 2,yQa),(.ret,qV9)],Sm,fun k d=>yF6 (AI k k) d,fun b x _ K=>match x with|.inl x=>K (.exit 2) (zL b yQa (((x.1,()),(x.2.1,()),(x.2.2.1,()),(x.2.2.2,()),()),()))|.inr x=>K .ret (zL b qV9 (((x,()),()),()))⟩
def yDz (f:Sn)(d:yQa.den):=f d.1.1.1 d.1.2.1.1 d.1.2.2.1.1 d.1.2.2.2.1.1
def So:zX:=⟨[yQa],[(.exit 0,yBe),(.ret,qV9)],(Unit⊕Bool),fun k d=>yDz (FC k k) d,fun b x _ K=>match x with|.inl x=>K (.exit 0) (zL b yBe ((),()))|.inr x=>K .ret (zL b qV9 (((x,()),()),()))⟩
def Sp:zY:=⟨[],[(5,Sl),(2,So)],[],false⟩
theorem yVh:zU prog 1000 0 33 (zO (zO (zS f54) 0) 0) Sl:=lp (A:=Sp) Sl (fun d=>match d with|.inl d=>.inl (d.1.1.1,d.1.2.1.1,d.1.2.2.1.1,d.1.2.2.2.1.1)|.inr d=>.inr d.1.1.1) yF6 AI AJ e0 loops0
theorem vC3:zU prog 1000 0 33 (zO (zS f54) 0) So:=lp (A:=Sp) So (fun d=>match d with|.inl d=>.inl ()|.inr d=>.inr d.1.1.1) yDz FC AK e0 (qC yVh)
def vQf:=zJ 54 [.c (.dat false (.sl .i))] (.c .bool) (fun k d=>J1 k d.1) (fun x=>(x,())) (fun d=>d.1)
theorem yZx:zD prog vQf:=fA f54 Sp e0 (qC vC3)
def vBi:=zJ 17 [.agg wN] (.c .bool) (fun k d=>(yU (vz k) d)) (fun x=>(x,())) (fun d=>d.1)
theorem L9:zD prog vBi:=fA f17 ⟨[],[],[],false⟩ (e5 F7q vFy Sd vPd yZx) loops0
def vJ1:=zJ 56 [.c .i] (.c .bool) (fun k d=>RY k d.1) (fun x=>(x,())) (fun d=>d.1)
theorem yGf:zD prog vJ1:=fA f56 n0 (e1 fN) loops0
def yR6:zE:=sp [(0,.c (.dat false .i)),(1,.c (.lit (.fn 56 []))),sI 7,sI 8] []
def yR2 (f:Sb)(d:yR6.den):=f d.1.1.1 d.1.2.2.1.1 d.1.2.2.2.1.1
def Sr:zX:=⟨[yR6],[(.exit 0,yBe),(.ret,yOe)],(Unit⊕Int),fun k d=>yR2 (xx k k) d,fun b x _ K=>match x with|.inl x=>K (.exit 0) (zL b yBe ((),()))|.inr x=>K .ret (zL b yOe (((x,()),()),()))⟩
def yQj:zY:=⟨[],[(2,Sr)],[],false⟩
theorem vN1:zU prog 1000 0 19 (zO (zS f112) 0) Sr:=lp (A:=yQj) Sr (fun d=>match d with|.inl d=>.inl ()|.inr d=>.inr d.1.1.1) yR2 xx Dt (e1 yGf) loops0
def vKh:=zJ 112 [.c (.dat false .i),.c (.fn 56)] (.c .i) (fun k d=>RZ k d.1) (fun x=>(x,())) (fun d=>d.1)
theorem yYw:zD prog vKh:=fA f112 yQj (e1 yGf) (qC vN1)
def vLl:=zJ 55 [.c (.dat false .i),.c (.fn 56)] (.c .bool) (fun k d=>HD k d.1) (fun x=>(x,())) (fun d=>d.1)
theorem qUt:zD prog vLl:=fA f55 ⟨[],[],[],false⟩ (e1 yYw) loops0
def vNo:=zJ 158 [.c .i] (.c .bool) (fun k d=>QQ k d.1) (fun x=>(x,())) (fun d=>d.1)
theorem vJ5:zD prog vNo:=fA f158 n0 e0 loops0
def yY5:=zJ 159 [.c (.int .u64),.c (.int .u64)] (.tup [(false,[.int .u64]),(false,[.int .u64])]) (fun k d=>Gv k d.1 d.2.1) (fun x=>(x.1,x.2,())) (fun d=>(d.1,d.2.1))
theorem yTi:zD prog yY5:=fA f159 n0 e0 loops0
def vBl:=zJ 221 [.c (.int .u64)] (.c .i) (fun k d=>yE5 k d.1) (fun x=>(x,())) (fun d=>d.1)
theorem yUr:zD prog vBl:=fA f221 n0 e0 loops0
def vGa:=zJ 193 [.c (.int .u64)] (.c .i) (fun k d=>yJv k d.1) (fun x=>(x,())) (fun d=>d.1)
theorem Ss:zD prog vGa:=fA f193 n0 (e1 yUr) loops0
def qUo:zE:=sp [(2,.c (.int .u64)),(8,.c (.int .u64)),(9,.c (.int .u64)),(10,.c (.int .u64)),(11,.c (.int .u64)),(13,.c (.int .u64)),(14,.c (.int .u64)),(15,.c (.int .u64)),(16,.c (.int .u64))] []
def yAq:zE:=sp [(2,.c (.int .u64)),(8,.c (.int .u64)),(9,.c (.int .u64)),(10,.c (.int .u64)),(11,.c (.int .u64)),(13,.c (.int .u64)),(14,.c (.int .u64)),(15,.c (.int .u64))] []
def yPl (f:Su)(d:qUo.den):=f d.1.1.1 d.1.2.1.1 d.1.2.2.1.1 d.1.2.2.2.1.1 d.1.2.2.2.2.1.1 d.1.2.2.2.2.2.1.1 d.1.2.2.2.2.2.2.1.1 d.1.2.2.2.2.2.2.2.1.1 d.1.2.2.2.2.2.2.2.2.1.1
def Ma:zX:=⟨[qUo],[(.exit 0,yAq)],qO,fun k d=>yPl (Sw k k) d,fun b x _ K=>K (.exit 0) (zL b yAq (((x.1,()),(x.2.1,()),(x.2.2.1,()),(x.2.2.2.1,()),(x.2.2.2.2.1,()),(x.2.2.2.2.2.1,()),(x.2.2.2.2.2.2.1,()),(x.2.2.2.2.2.2.2,()),()),()))⟩
def yN2:zE:=sp [(2,.c (.int .u64)),(8,.c (.int .u64)),(9,.c (.int .u64)),(10,.c (.int .u64)),(14,.c (.int .u64)),(15,.c (.int .u64)),(16,.c (.int .u64)),(17,.c (.int .u64)),(18,.c (.int .u64))] []
def yPo:zE:=sp [(2,.c (.int .u64)),(8,.c (.int .u64)),(14,.c (.int .u64)),(15,.c (.int .u64)),(17,.c (.int .u64)),(18,.c (.int .u64))] []
def yMn (f:Sx)(d:yN2.den):=f d.1.1.1 d.1.2.1.1 d.1.2.2.1.1 d.1.2.2.2.1.1 d.1.2.2.2.2.1.1 d.1.2.2.2.2.2.1.1 d.1.2.2.2.2.2.2.1.1 d.1.2.2.2.2.2.2.2.1.1 d.1.2.2.2.2.2.2.2.2.1.1
def Mb:zX:=⟨[yN2],[(.exit 2,yPo)],Im,fun k d=>yMn (Sz k k) d,fun b x _ K=>K (.exit 2) (zL b yPo (((x.1,()),(x.2.1,()),(x.2.2.1,()),(x.2.2.2.1,()),(x.2.2.2.2.1,()),(x.2.2.2.2.2,()),()),()))⟩
def SA:zY:=⟨[],[(17,Ma),(24,Mb)],[],true⟩
theorem yU2:zU prog 1000 0 135 (zO (zS f160) 0) Ma:=lp (A:=SA) Ma (fun d=>(d.1.1.1,d.1.2.1.1,d.1.2.2.1.1,d.1.2.2.2.1.1,d.1.2.2.2.2.1.1,d.1.2.2.2.2.2.1.1,d.1.2.2.2.2.2.2.1.1,d.1.2.2.2.2.2.2.2.1.1)) yPl Sw qXd (e1 Ss) loops0
theorem vJa:zU prog 1000 0 135 (zO (zS f160) 1) Mb:=lp (A:=SA) Mb (fun d=>(d.1.1.1,d.1.2.1.1,d.1.2.2.1.1,d.1.2.2.2.1.1,d.1.2.2.2.2.1.1,d.1.2.2.2.2.2.1.1)) yMn Sz yFo (e1 Ss) loops0
def yT1:=zJ 160 [.c (.int .u64),.c (.int .u64),.c (.int .u64)] (.tup [(false,[.int .u64]),(false,[.int .u64])]) (fun k d=>KN k d.1 d.2.1 d.2.2.1) (fun x=>(x.1,x.2,())) (fun d=>(d.1,d.2.1))
theorem vKb:zD prog yT1:=fA f160 SA (e1 Ss) (nU (n:=2) (by kernel_rfl) fun i hi=>match i,hi with|0,_=>⟨Ma,by kernel_rfl,yU2⟩|1,_=>⟨Mb,by kernel_rfl,vJa⟩|i+2,hi=>absurd hi (by omega))
def vF0:=(65,JK)
theorem SB:zD prog vF0:=vB3 (fn:=f65)
def vP4:=zJ 113 [.c .i,.c .i,.c .i] (.tup [(false,vJ),(false,[.bool])]) (fun k d=>KO k d.1 d.2.1 d.2.2.1) (fun x=>(x.1,x.2,())) (fun d=>(d.1,d.2.1))
theorem yC1:zD prog vP4:=fA f113 n0 (e4 vJ5 yTi vKb SB) loops0
def yKq:zE:=sp [sI 4,(5,.c (.int .u64)),(9,.c (.dat false .i)),sI 10,sI 11] []
def qXg:zE:=sp [sI 4,(5,.c (.int .u64))] []
def yBg (f:SC)(d:yKq.den):=f d.1.1.1 d.1.2.1.1 d.1.2.2.1.1 d.1.2.2.2.1.1 d.1.2.2.2.2.1.1
def SD:zX:=⟨[yKq],[(.exit 0,qXg)],wD,fun k d=>yBg (BP k k) d,fun b x _ K=>K (.exit 0) (zL b qXg (((x.1,()),(x.2,()),()),()))⟩
def yQ3:zY:=⟨[],[(4,SD)],[],false⟩
theorem vHz:zU prog 1000 0 37 (zO (zS f20) 0) SD:=lp (A:=yQ3) SD (fun d=>(d.1.1.1,d.1.2.1.1)) yBg BP BQ (e1 SB) loops0
def yZu:=zJ 20 [.c (.dat false .i)] (.tup [(false,vJ),(false,[.bool])]) (fun k d=>BO k d.1) (fun x=>(x.1,x.2,())) (fun d=>(d.1,d.2.1))
theorem Md:zD prog yZu:=fA f20 yQ3 (e1 SB) (qC vHz)
def yEq:zE:=⟨[(1,.c (.dat false .i)),(2,.c (.dat false .i)),sO 8 0,(25,.c (.dat false jL)),sI 26,sI 27],[oA .i],[(8,none,.i,false)]⟩
def qZg:zE:=sp [sO 8 0] [oA .i]
def yK9:zE:=sp [sI 6,(7,.c .bool)] []
def yC8 (f:SE)(d:yEq.den):=f d.1.1.1 d.1.2.1.1 d.1.2.2.2.1.1 d.1.2.2.2.2.1.1 d.1.2.2.2.2.2.1.1 d.2.1
def SF:zX:=⟨[yEq],[(.exit 0,qZg),(.ret,yK9)],(AC⊕wW),fun k d=>yC8 (BR k k) d,fun b x _ K=>match x with|.inl x=>K (.exit 0) (zL b qZg (((),()),(x,())))|.inr x=>K .ret (zL b yK9 (((x.1,()),(x.2,()),()),()))⟩
def qWe:zY:=⟨[],[(5,SF)],[],true⟩
theorem vFr:zU prog 1000 0 57 (zO (zS f57) 0) SF:=lp (A:=qWe) SF (fun d=>match d with|.inl d=>.inl d.2.1|.inr d=>.inr (d.1.1.1,d.1.2.1.1)) yC8 BR BS (e2 yC1 Md) loops0
def vRe:=zJ 57 [.c (.dat false jL),.c (.dat false .i),.c (.dat false .i)] (.tup [(false,vJ),(false,[.bool])]) (fun k d=>oD k d.1 d.2.1 d.2.2.1) (fun x=>(x.1,x.2,())) (fun d=>(d.1,d.2.1))
theorem tU:zD prog vRe:=fA f57 qWe (e2 yC1 Md) (qC vFr)
def vP9:=zJ 58 [.c .i] (.c .bool) (fun k d=>R0 k d.1) (fun x=>(x,())) (fun d=>d.1)
theorem qYm:zD prog vP9:=fA f58 n0 e0 loops0
def yBj:zE:=sp [(0,.c (.dat false .i)),(1,.c (.lit (.fn 58 []))),sI 7,sI 8] []
def yM4 (f:Sb)(d:yBj.den):=f d.1.1.1 d.1.2.2.1.1 d.1.2.2.2.1.1
def SH:zX:=⟨[yBj],[(.exit 0,yBe),(.ret,yOe)],(Unit⊕Int),fun k d=>yM4 (xy k k) d,fun b x _ K=>match x with|.inl x=>K (.exit 0) (zL b yBe ((),()))|.inr x=>K .ret (zL b yOe (((x,()),()),()))⟩
def yPd:zY:=⟨[],[(2,SH)],[],false⟩
theorem vGg:zU prog 1000 0 19 (zO (zS f112) 0) SH:=lp (A:=yPd) SH (fun d=>match d with|.inl d=>.inl ()|.inr d=>.inr d.1.1.1) yM4 xy Du (e1 qYm) loops0
def vC7:=zJ 112 [.c (.dat false .i),.c (.fn 58)] (.c .i) (fun k d=>R1 k d.1) (fun x=>(x,())) (fun d=>d.1)
theorem vLs:zD prog vC7:=fA f112 yPd (e1 qYm) (qC vGg)
def vMz:=zJ 55 [.c (.dat false .i),.c (.fn 58)] (.c .bool) (fun k d=>LX k d.1) (fun x=>(x,())) (fun d=>d.1)
theorem yIc:zD prog vMz:=fA f55 ⟨[],[],[],false⟩ (e1 vLs) loops0
def yNb:zE:=sp [sP 2 0,sP 3 1,(28,.c (.dat false (.sl .i))),sI 29,sI 30] [oB iH,oB mo]
def qWq:zE:=sp [(4,.c .bool)] []
def yPa (f:SI)(d:yNb.den):=f d.1.2.2.1.1 d.1.2.2.2.1.1 d.1.2.2.2.2.1.1 (qX d.2.1) (qR d.2.2.1)
def SJ:zX:=⟨[yNb],[(.exit 0,yBe),(.ret,qWq)],(Unit⊕Bool),fun k d=>yPa (tN k k) d,fun b x _ K=>match x with|.inl x=>K (.exit 0) (zL b yBe ((),()))|.inr x=>K .ret (zL b qWq (((x,()),()),()))⟩
def qV5:zY:=⟨[],[(6,SJ)],[],true⟩
theorem yYl:zU prog 1000 0 66 (zO (zS f18) 0) SJ:=lp (A:=qV5) SJ (fun d=>match d with|.inl d=>.inl ()|.inr d=>.inr d.1.1.1) yPa tN Dv (e3 qUt tU yIc) loops0
def yWd:=zJ 18 [.agg fM,.agg kM] (.c .bool) (fun k d=>HE k (qX d) (mn d)) (fun x=>(x,())) (fun d=>d.1)
theorem yOa:zD prog yWd:=fA f18 qV5 (e3 qUt tU yIc) (qC yYl)
def vRc:=zJ 94 [.agg vA,.ptr [.i]] (.c .bool) (fun k d=>(j7 (QG k) d)) (fun x=>(x,())) (fun d=>d.1)
theorem yF2:zD prog vRc:=fA f94 ⟨[],[],[],false⟩ e0 loops0
def ySp:zE:=sp [(0,.c (.dat false zF)),(1,.c (.lit (.fn 94 [1001000]))),sI 7,sI 8] [.robox [.i]]
def yR5 (f:SK)(d:ySp.den):=f d.1.1.1 d.1.2.2.1.1 d.1.2.2.2.1.1 d.2.1.1
def SM:zX:=⟨[ySp],[(.exit 0,yBe),(.ret,yOe)],(Unit⊕Int),fun k d=>yR5 (BC k k) d,fun b x _ K=>match x with|.inl x=>K (.exit 0) (zL b yBe ((),()))|.inr x=>K .ret (zL b yOe (((x,()),()),()))⟩
def qWw:zY:=⟨[],[(2,SM)],[],false⟩
theorem yT5:zU prog 1000 0 19 (zO (zS f93) 0) SM:=lp (A:=qWw) SM (fun d=>match d with|.inl d=>.inl ()|.inr d=>.inr d.1.1.1) yR5 BC BD (e1 yF2) loops0
def vJx:=zJ 93 [.c (.dat false zF),.fn 94 [[.i]]] (.c .i) (fun k d=>QH k d.1 d.2.1) (fun x=>(x,())) (fun d=>d.1)
theorem vO2:zD prog vJx:=fA f93 qWw (e1 yF2) (qC yT5)
def vNk:=zJ 36 [.c (.dat false zF),.c .i] (.c .i) (fun k d=>mc k d.1 d.2.1) (fun x=>(x,())) (fun d=>d.1)
theorem tV:zD prog vNk:=fA f36 ⟨[],[],[],false⟩ (e1 vO2) loops0
def vOy:=zJ 195 [.c .i] (.c .bool) (fun k d=>KE k d.1) (fun x=>(x,())) (fun d=>d.1)
theorem vHy:zD prog vOy:=fA f195 ⟨[],[],[],false⟩ e0 loops0
def vGm:=zJ 164 [.c .i,.c .i] (.c .i) (fun k d=>Gm k d.1 d.2.1) (fun x=>(x,())) (fun d=>d.1)
theorem vK2:zD prog vGm:=fA f164 ⟨[],[],[],false⟩ (e1 vHy) loops0
def yDb:zE:=sp [sI 3,(6,.c (.dat false .i)),sI 7,sI 8] []
def yNe:zE:=sp [sI 3] []
def yBf:zE:=sp [sI 2] []
def qVe (f:SN)(d:yDb.den):=f d.1.1.1 d.1.2.1.1 d.1.2.2.1.1 d.1.2.2.2.1.1
def SO:zX:=⟨[yDb],[(.exit 0,yNe),(.ret,yBf)],(Int⊕Int),fun k d=>qVe (Gl k k) d,fun b x _ K=>match x with|.inl x=>K (.exit 0) (zL b yNe (((x,()),()),()))|.inr x=>K .ret (zL b yBf (((x,()),()),()))⟩
def qZo:zY:=⟨[],[(3,SO)],[],false⟩
theorem vQ7:zU prog 1000 0 18 (zO (zS f163) 0) SO:=lp (A:=qZo) SO (fun d=>match d with|.inl d=>.inl d.1.1.1|.inr d=>.inr d.1.1.1) qVe Gl yO6 e0 loops0
def vFs:=zJ 163 [.c (.dat false .i)] (.c .i) (fun k d=>KD k d.1) (fun x=>(x,())) (fun d=>d.1)
theorem vQ1:zD prog vFs:=fA f163 qZo e0 (qC vQ7)
def vPy:=zJ 116 [.agg vA,.agg vA] (.c .i) (fun k d=>(DO (BE k) d)) (fun x=>(x,())) (fun d=>d.1)
theorem DP:zD prog vPy:=fA f116 ⟨[],[],[],false⟩ (e2 vK2 vQ1) loops0
def qVj:zE:=sp [(0,.c (.dat false zF)),(1,.c (.lit (.fn 116 []))),sI 5] []
def yC0 (f:SP)(d:qVj.den):=f d.1.1.1 d.1.2.2.1.1
def SQ:zX:=⟨[qVj],[(.exit 0,yBe),(.ret,qWq)],(Unit⊕Bool),fun k d=>yC0 (Hy k k) d,fun b x _ K=>match x with|.inl x=>K (.exit 0) (zL b yBe ((),()))|.inr x=>K .ret (zL b qWq (((x,()),()),()))⟩
def yLw:zY:=⟨[],[(2,SQ)],[],true⟩
theorem vG0:zU prog 1000 0 25 (zO (zS f115) 0) SQ:=lp (A:=yLw) SQ (fun d=>match d with|.inl d=>.inl ()|.inr d=>.inr d.1.1.1) yC0 Hy LU (e1 DP) loops0
def yS7:=zJ 115 [.c (.dat false zF),.c (.fn 116)] (.c .bool) (fun k d=>LS k d.1) (fun x=>(x,())) (fun d=>d.1)
theorem qWc:zD prog yS7:=fA f115 yLw (e1 DP) (qC vG0)
def yEs:zE:=sp [(0,.c (.dat false zF)),(5,.c (.dat false zF)),sI 6,sI 7] []
def qXn:zE:=sp [(0,.c (.dat false zF))] []
def yM2 (f:SR)(d:yEs.den):=f d.1.1.1 d.1.2.1.1 d.1.2.2.1.1 d.1.2.2.2.1.1
def SS:zX:=⟨[yEs],[(.exit 0,qXn),(.ret,qV9)],SU,fun k d=>yM2 (xv k k) d,fun b x _ K=>match x with|.inl x=>K (.exit 0) (zL b qXn (((x,()),()),()))|.inr x=>K .ret (zL b qV9 (((x,()),()),()))⟩
def yHe:zY:=⟨[],[(2,SS)],[],false⟩
theorem yTv:zU prog 1000 0 26 (zO (zS f62) 0) SS:=lp (A:=yHe) SS (fun d=>match d with|.inl d=>.inl d.1.1.1|.inr d=>.inr d.1.1.1) yM2 xv Dq (e2 tV qWc) loops0
def vMs:=zJ 62 [.c (.dat false zF)] (.c .bool) (fun k d=>Hw k d.1) (fun x=>(x,())) (fun d=>d.1)
theorem vPl:zD prog vMs:=fA f62 yHe (e2 tV qWc) (qC yTv)
def qZj:zE:=sp [(0,.c (.dat false .i)),sI 3,(6,.c (.dat false .i)),sI 7,sI 8] []
def yH9:zE:=sp [(0,.c (.dat false .i))] []
def yGz (f:SW)(d:qZj.den):=f d.1.1.1 d.1.2.1.1 d.1.2.2.1.1 d.1.2.2.2.1.1 d.1.2.2.2.2.1.1
def SX:zX:=⟨[qZj],[(.exit 0,yH9),(.ret,qV9)],(AC⊕Bool),fun k d=>yGz (HA k k) d,fun b x _ K=>match x with|.inl x=>K (.exit 0) (zL b yH9 (((x,()),()),()))|.inr x=>K .ret (zL b qV9 (((x,()),()),()))⟩
def yQb:zY:=⟨[],[(3,SX)],[],true⟩
theorem vQx:zU prog 1000 0 20 (zO (zS f63) 0) SX:=lp (A:=yQb) SX (fun d=>match d with|.inl d=>.inl d.1.1.1|.inr d=>.inr d.1.1.1) yGz HA Dr e0 loops0
def vNr:=zJ 63 [.c (.dat false .i)] (.c .bool) (fun k d=>Hz k d.1) (fun x=>(x,())) (fun d=>d.1)
theorem yTm:zD prog vNr:=fA f63 yQb e0 (qC vQx)
def yYg:=zJ 60 [.agg wN,.agg vA] (.c .bool) (fun k d=>(oN (AQ k) d)) (fun x=>(x,())) (fun d=>d.1)
theorem SY:zD prog yYg:=fA f60 ⟨[],[],[],false⟩ e0 loops0
def yVp:=zJ 194 [.c .i] (.c .bool) (fun k d=>KH k d.1) (fun x=>(x,())) (fun d=>d.1)
theorem vHt:zD prog yVp:=fA f194 n0 e0 loops0
def vL5:=zJ 161 [.c .i,.c .i] (.c .bool) (fun k d=>KG k d.1 d.2.1) (fun x=>(x,())) (fun d=>d.1)
theorem yMr:zD prog vL5:=fA f161 n0 (e1 vHt) loops0
def vLr:=zJ 162 [.c .i] (.c .bool) (fun k d=>KJ k d.1) (fun x=>(x,())) (fun d=>d.1)
theorem ySo:zD prog vLr:=fA f162 n0 e0 loops0
def yAw:zE:=sp [(0,.c (.dat false .i)),sI 1,sI 6,sI 7,sI 8] []
def yPn:zE:=sp [(0,.c (.dat false .i)),sI 1,sI 6,sI 7] []
def yKl (f:SZ)(d:yAw.den):=f d.1.1.1 d.1.2.1.1 d.1.2.2.1.1 d.1.2.2.2.1.1 d.1.2.2.2.2.1.1
def S0:zX:=⟨[yAw],[(.exit 0,yPn)],S1,fun k d=>yKl (Gu k k) d,fun b x _ K=>K (.exit 0) (zL b yPn (((x.1,()),(x.2.1,()),(x.2.2.1,()),(x.2.2.2,()),()),()))⟩
def yBm:zY:=⟨[],[(3,S0)],[],true⟩
theorem vA7:zU prog 1000 0 54 (zO (zS f114) 0) S0:=lp (A:=yBm) S0 (fun d=>(d.1.1.1,d.1.2.1.1,d.1.2.2.1.1,d.1.2.2.2.1.1)) yKl Gu KI (e2 yMr ySo) loops0
def vD5:=zJ 114 [.c (.dat false .i),.c .i] (.tup [(false,vJ),(false,[.bool])]) (fun k d=>BM k d.1 d.2.1) (fun x=>(x.1,x.2,())) (fun d=>(d.1,d.2.1))
theorem qUg:zD prog vD5:=fA f114 yBm (e2 yMr ySo) (qC vA7)
def yZ2:=zJ 61 [.c (.dat false .i),.c .i] (.c .bool) (fun k d=>KK k d.1 d.2.1) (fun x=>(x,())) (fun d=>d.1)
theorem vM0:zD prog yZ2:=fA f61 n0 (e1 qUg) loops0
def vRx:=zJ 59 [.agg vA,.ptr kM] (.c .bool) (fun k d=>LW k (wC d) (yUi d)) (fun x=>(x,())) (fun d=>d.1)
theorem ySm:zD prog vRx:=fA f59 n0 (e3 SY fN vM0) loops0
def yOx:zE:=sp [(0,.c (.dat false zF)),(1,.c (.lit (.fn 59 [1001000]))),sI 7,sI 8] [.robox mo]
def yGg (f:S2)(d:yOx.den):=(oN (f d.1.1.1 d.1.2.2.1.1 d.1.2.2.2.1.1) d.2.1)
def S3:zX:=⟨[yOx],[(.exit 0,yBe),(.ret,yOe)],(Unit⊕Int),fun k d=>yGg (xw k k) d,fun b x _ K=>match x with|.inl x=>K (.exit 0) (zL b yBe ((),()))|.inr x=>K .ret (zL b yOe (((x,()),()),()))⟩
def yGp:zY:=⟨[],[(2,S3)],[],false⟩
theorem vBc:zU prog 1000 0 19 (zO (zS f93) 0) S3:=lp (A:=yGp) S3 (fun d=>match d with|.inl d=>.inl ()|.inr d=>.inr d.1.1.1) yGg xw Ds (e1 ySm) loops0
def vKn:=zJ 93 [.c (.dat false zF),.fn 59 [kM]] (.c .i) (fun k d=>(HT (RX k) d)) (fun x=>(x,())) (fun d=>d.1)
theorem yWw:zD prog vKn:=fA f93 yGp (e1 ySm) (qC vBc)
def yXx:=zJ 64 [.c (.dat false zF),.fn 59 [kM]] (.c .bool) (fun k d=>(HT (LV k) d)) (fun x=>(x,())) (fun d=>d.1)
theorem yTc:zD prog yXx:=fA f64 ⟨[],[],[],false⟩ (e1 yWw) loops0
def yWk:=zJ 19 [.agg kM] (.c .bool) (fun k d=>HB k (qR d)) (fun x=>(x,())) (fun d=>d.1)
theorem yMz:zD prog yWk:=fA f19 n0 (e3 vPl yTm yTc) loops0
def vDj:=zJ 21 [.agg fM,.c .i] (.c .bool) (fun k d=>(gT (w9 k) d)) (fun x=>(x,())) (fun d=>d.1)
theorem Me:zD prog vDj:=fA f21 ⟨[],[],[],false⟩ e0 loops0
def qW6:zE:=⟨[sP 2 0,sP 3 1,sO 5 2,(44,.c (.dat false yC)),sI 45,sI 46],[oB iH,oB mo,oA .i],[(5,none,.i,false)]⟩
def qVk:zE:=sp [sP 2 0,sP 3 1,sO 5 2] [oB iH,oB mo,oA .i]
def yQv (f:S4)(d:qW6.den):=f d.1.2.2.2.1.1 d.1.2.2.2.2.1.1 d.1.2.2.2.2.2.1.1 (qX d.2.1) (qR d.2.2.1) d.2.2.2.1
def S5:zX:=⟨[qW6],[(.exit 0,qVk)],S6,fun k d=>yQv (Dw k k) d,fun b x _ K=>K (.exit 0) (zL b qVk (((),(),(),()),((eW x.1 ()),(jP x.2.1 ()),x.2.2,())))⟩
def qY0:zY:=⟨[],[(5,S5)],[],true⟩
theorem vQe:zU prog 1000 0 92 (zO (zS f7) 0) S5:=lp (A:=qY0) S5 (fun d=>((qX d.2.1),(qR d.2.2.1),d.2.2.2.1)) yQv Dw Dx (e6 fN L9 yOa yMz Md Me) loops0
def qMz:=zJ 7 [.agg fM,.agg kM] (.c .bool) (fun k d=>LY k (qX d) (mn d)) (fun x=>(x,())) (fun d=>d.1)
theorem yW5:zD prog qMz:=fA f7 qY0 (e6 fN L9 yOa yMz Md Me) (qC vQe)
def yB3:zE:=sp [(0,.c (.dat false (.sl .i))),sI 1,sI 5] []
def yKn (f:S7)(d:yB3.den):=f d.1.1.1 d.1.2.1.1 d.1.2.2.1.1
def S8:zX:=⟨[yB3],[(.exit 0,yBe),(.ret,qWq)],(Unit⊕Bool),fun k d=>yKn (Fv k k) d,fun b x _ K=>match x with|.inl x=>K (.exit 0) (zL b yBe ((),()))|.inr x=>K .ret (zL b qWq (((x,()),()),()))⟩
def yAx:zY:=⟨[],[(4,S8)],[],false⟩
theorem vCf:zU prog 1000 0 22 (zO (zS f66) 0) S8:=lp (A:=yAx) S8 (fun d=>match d with|.inl d=>.inl ()|.inr d=>.inr d.1.1.1) yKn Fv Av e0 loops0
def vA8:=zJ 66 [.c (.dat false (.sl .i)),.c .i] (.c .bool) (fun k d=>Fu k d.1 d.2.1) (fun x=>(x,())) (fun d=>d.1)
theorem S9:zD prog vA8:=fA f66 yAx e0 (qC vCf)
def vAn:=zJ 67 [.agg lB] (.c .bool) (fun k d=>Fs k d.1 d.2.1 d.2.2.1) (fun x=>(x,())) (fun d=>d.1)
theorem Mh:zD prog vAn:=fA f67 ⟨[],[],[],false⟩ e0 loops0
def vAy:=zJ 68 [.c .i] (.c .bool) (fun k d=>Ft k d.1) (fun x=>(x,())) (fun d=>d.1)
theorem Ta:zD prog vAy:=fA f68 ⟨[],[],[],false⟩ e0 loops0
def yHm:zE:=sp [sP 1 0,sI 3,sI 4,sI 5] [oB wS]
def ySl:zE:=sp [sP 1 0,sI 3,sI 4] [oB wS]
def yK8 (f:Tb)(d:yHm.den):=(yU (f d.1.2.1.1 d.1.2.2.1.1 d.1.2.2.2.1.1) d.2.1)
def Tc:zX:=⟨[yHm],[(.exit 2,ySl),(.ret,qV9)],Td,fun k d=>yK8 (Aw k k) d,fun b x _ K=>match x with|.inl x=>K (.exit 2) (zL b ySl (((),(x.1,()),(x.2.1,()),()),((xi x ()),())))|.inr x=>K .ret (zL b qV9 (((x,()),()),()))⟩
def yAl (f:Te)(d:ySl.den):=(yU (f d.1.2.1.1 d.1.2.2.1.1) d.2.1)
def Tf:zX:=⟨[ySl],[(.exit 0,yBe),(.ret,qV9)],(Unit⊕Bool),fun k d=>yAl (Ay k k) d,fun b x _ K=>match x with|.inl x=>K (.exit 0) (zL b yBe ((),()))|.inr x=>K .ret (zL b qV9 (((x,()),()),()))⟩
def Tg:zY:=⟨[],[(10,Tc),(5,Tf)],[],false⟩
theorem vGy:zU prog 1000 0 114 (zO (zO (zS f22) 0) 0) Tc:=lp (A:=Tg) Tc (fun d=>match d with|.inl d=>.inl (d.1.2.1.1,d.1.2.2.1.1,(rj d.2.1))|.inr d=>.inr d.1.1.1) yK8 Aw Ax (e3 S9 Mh Ta) loops0
theorem vCa:zU prog 1000 0 114 (zO (zS f22) 0) Tf:=lp (A:=Tg) Tf (fun d=>match d with|.inl d=>.inl ()|.inr d=>.inr d.1.1.1) yAl Ay Az (e3 S9 Mh Ta) (qC vGy)
def vM3:=zJ 22 [.agg wN] (.c .bool) (fun k d=>(yU (AA k) d)) (fun x=>(x,())) (fun d=>d.1)
theorem HU:zD prog vM3:=fA f22 Tg (e3 S9 Mh Ta) (qC vCa)
def vRd:=zJ 196 [.c .i] (.c (.own .i)) (fun k d=>Lh k d.1) (fun x=>(x,())) (fun d=>d.1)
theorem Th:zD prog vRd:=fA f196 n0 e0 loops0
def qVo:zE:=sp [sO 0 0,sI 3] [oA .i]
def qXh:zE:=sp [sO 0 0] [oA .i]
def yI9 (f:Int→AC→Option AC)(d:qVo.den):=f d.1.2.1.1 d.2.1
def Ti:zX:=⟨[qVo],[(.exit 0,qXh)],AC,fun k d=>yI9 (Tj k k) d,fun b x _ K=>K (.exit 0) (zL b qXh (((),()),(x,())))⟩
def qUd:zY:=⟨[],[(2,Ti)],[],true⟩
theorem vFw:zU prog 1000 0 35 (zO (zS f197) 0) Ti:=lp (A:=qUd) Ti (fun d=>d.2.1) yI9 Tj qXa e0 loops0
def yUv:=vW 197 [.c (.own .i)] (.c (.own .i)) [] 0 (fun k d=>Cz k d.1) (fun x=>(x,())) (fun d=>d.1)
theorem HV:zD prog yUv:=fX f197 qUd 0 e0 (qC vFw)
def qZm:zE:=sp [sI 1,sO 5 0,sO 6 1,sI 7,sI 8] [oA .i,oA .i]
def qYk:zE:=sp [sI 1,sO 5 0,sO 6 1,sI 7] [oA .i,oA .i]
def yD4 (f:Tk)(d:qZm.den):=f d.1.1.1 d.1.2.2.2.1.1 d.1.2.2.2.2.1.1 d.2.1 d.2.2.1
def Tl:zX:=⟨[qZm],[(.exit 2,qYk)],Tm,fun k d=>yD4 (Tn k k) d,fun b x _ K=>K (.exit 2) (zL b qYk (((x.1,()),(),(),(x.2.1,()),()),(x.2.2.1,x.2.2.2,())))⟩
def qT4:zE:=sp [sO 6 0] [oA .i]
def qWs (f:To)(d:qYk.den):=f d.1.1.1 d.1.2.2.2.1.1 d.2.1 d.2.2.1
def Tp:zX:=⟨[qYk],[(.exit 0,qT4)],AC,fun k d=>qWs (Lf k k) d,fun b x _ K=>K (.exit 0) (zL b qT4 (((),()),(x,())))⟩
def Tq:zY:=⟨[],[(7,Tl),(4,Tp)],[],true⟩
theorem yZp:zU prog 1000 0 47 (zO (zO (zS f165) 0) 0) Tl:=lp (A:=Tq) Tl (fun d=>(d.1.1.1,d.1.2.2.2.1.1,d.2.1,d.2.2.1)) yD4 Tn yF8 (e2 Th HV) loops0
theorem vJ2:zU prog 1000 0 47 (zO (zS f165) 0) Tp:=lp (A:=Tq) Tp (fun d=>d.2.1) qWs Lf yQq (e2 Th HV) (qC yZp)
def yXv:=zJ 165 [.c .i,.c .i] (.c (.own .i)) (fun k d=>Lg k d.1 d.2.1) (fun x=>(x,())) (fun d=>d.1)
theorem vKm:zD prog yXv:=fA f165 Tq (e2 Th HV) (qC vJ2)
def qVm:zE:=sp [sO 0 0,sI 1,sI 5] [oA .i]
def qZ2 (f:Int→Int→AC→Option AC)(d:qVm.den):=f d.1.2.1.1 d.1.2.2.1.1 d.2.1
def Ts:zX:=⟨[qVm],[(.exit 0,qXh)],AC,fun k d=>qZ2 (Ld k k) d,fun b x _ K=>K (.exit 0) (zL b qXh (((),()),(x,())))⟩
def yHw:zY:=⟨[],[(2,Ts)],[],true⟩
theorem vHf:zU prog 1000 0 23 (zO (zS f166) 0) Ts:=lp (A:=yHw) Ts (fun d=>d.2.1) qZ2 Ld yR8 (e1 HV) loops0
def vO8:=vW 166 [.c (.own .i),.c (.p .i)] (.c (.own .i)) [] 0 (fun k d=>Lc k d.1 d.2.1) (fun x=>(x,())) (fun d=>d.1)
theorem yVl:zD prog vO8:=fX f166 yHw 0 (e1 HV) (qC vHf)
def yIq:zE:=sp [sO 0 0,sI 1,sI 6,sI 7] [oA .i]
def qUx (f:Tt)(d:yIq.den):=f d.1.2.1.1 d.1.2.2.1.1 d.1.2.2.2.1.1 d.2.1
def Mi:zX:=⟨[yIq],[(.exit 0,qXh)],AC,fun k d=>qUx (GY k k) d,fun b x _ K=>K (.exit 0) (zL b qXh (((),()),(x,())))⟩
def yP0:zE:=sp [sO 0 0,sI 9] [oA .i]
def yH5:zE:=sp [sI 4,(5,.c .bool)] []
def ySy (f:Tu)(d:yP0.den):=f d.1.2.1.1 d.2.1
def Mj:zX:=⟨[yP0],[(.exit 2,qXh),(.ret,yH5)],(AC⊕wW),fun k d=>ySy (CA k k) d,fun b x _ K=>match x with|.inl x=>K (.exit 2) (zL b qXh (((),()),(x,())))|.inr x=>K .ret (zL b yH5 (((x.1,()),(x.2,()),()),()))⟩
def Tv:zY:=⟨[],[(3,Mi),(9,Mj)],[],true⟩
theorem yXf:zU prog 1000 0 66 (zO (zS f167) 0) Mi:=lp (A:=Tv) Mi (fun d=>d.2.1) qUx GY yFw e0 loops0
theorem vIb:zU prog 1000 0 66 (zO (zS f167) 1) Mj:=lp (A:=Tv) Mj (fun d=>match d with|.inl d=>.inl d.2.1|.inr d=>.inr (d.1.1.1,d.1.2.1.1)) ySy CA yRt e0 loops0
def vPs:=vW 167 [.c (.own .i),.c (.p .i)] (.tup [(false,vJ),(false,[.bool])]) [] 0 (fun k d=>Le k d.1 d.2.1) (fun x=>(x.1,x.2,())) (fun d=>(d.1,d.2.1))
theorem vBa:zD prog vPs:=fX f167 Tv 0 e0 (nU (n:=2) (by kernel_rfl) fun i hi=>match i,hi with|0,_=>⟨Mi,by kernel_rfl,yXf⟩|1,_=>⟨Mj,by kernel_rfl,vIb⟩|i+2,hi=>absurd hi (by omega))
def vFt:=zJ 117 [.c .i,.c .i,.c .i] (.tup [(false,vJ),(false,[.bool])]) (fun k d=>Lp k d.1 d.2.1 d.2.2.1) (fun x=>(x.1,x.2,())) (fun d=>(d.1,d.2.1))
theorem yR7:zD prog vFt:=fA f117 n0 (e3 vKm yVl vBa) loops0
def vHm:=zJ 118 [.c .i,.c .i] (.tup [(false,vJ),(false,[.bool])]) (fun k d=>CD k d.1 d.2.1) (fun x=>(x.1,x.2,())) (fun d=>(d.1,d.2.1))
theorem Tw:zD prog vHm:=fA f118 n0 e0 loops0
def yJj:zE:=sp [(0,.c (.dat false jL)),(1,.c (.dat false .i)),(2,.c (.dat false .i)),sI 8,sI 9] []
def yCu:zE:=sp [sI 8] []
def qYe (f:Tx)(d:yJj.den):=f d.1.1.1 d.1.2.1.1 d.1.2.2.1.1 d.1.2.2.2.1.1 d.1.2.2.2.2.1.1
def Tz:zX:=⟨[yJj],[(.exit 0,yCu),(.ret,yK9)],(Int⊕wW),fun k d=>qYe (G2 k k) d,fun b x _ K=>match x with|.inl x=>K (.exit 0) (zL b yCu (((x,()),()),()))|.inr x=>K .ret (zL b yK9 (((x.1,()),(x.2,()),()),()))⟩
def yA4:zY:=⟨[],[(5,Tz)],[],true⟩
theorem vLv:zU prog 1000 0 63 (zO (zS f69) 0) Tz:=lp (A:=yA4) Tz (fun d=>match d with|.inl d=>.inl d.1.1.1|.inr d=>.inr (d.1.1.1,d.1.2.1.1)) qYe G2 CE (e2 yR7 Tw) loops0
def vMt:=zJ 69 [.c (.dat false jL),.c (.dat false .i),.c (.dat false .i)] (.tup [(false,vJ),(false,[.bool])]) (fun k d=>tE k d.1 d.2.1 d.2.2.1) (fun x=>(x.1,x.2,())) (fun d=>(d.1,d.2.1))
theorem xG:zD prog vMt:=fA f69 yA4 (e2 yR7 Tw) (qC vLv)
def qVz:zE:=sp [sP 2 0,sP 3 1,sI 5] [oB iH,oB mo]
def qUu:zE:=sp [sP 2 0,sP 3 1] [oB iH,oB mo]
def qYc (f:TA)(d:qVz.den):=f d.1.2.2.1.1 (qX d.2.1) (qR d.2.2.1)
def Mk:zX:=⟨[qVz],[(.exit 0,qUu),(.ret,qWq)],TB,fun k d=>qYc (tR k k) d,fun b x _ K=>match x with|.inl x=>K (.exit 0) (zL b qUu (((),(),()),((eW x.1 ()),(jP x.2 ()),())))|.inr x=>K .ret (zL b qWq (((x,()),()),()))⟩
def yQ6:zE:=sp [sP 2 0,sP 3 1,sI 6,sI 7] [oB iH,oB mo]
def yIf:zE:=sp [sP 2 0,sP 3 1,sI 6] [oB iH,oB mo]
def yP9 (f:TC)(d:yQ6.den):=f d.1.2.2.1.1 d.1.2.2.2.1.1 (qX d.2.1) (qR d.2.2.1)
def TD:zX:=⟨[yQ6],[(.exit 4,yIf),(.ret,qWq)],TE,fun k d=>yP9 (xC k k) d,fun b x _ K=>match x with|.inl x=>K (.exit 4) (zL b yIf (((),(),(x.1,()),()),((eW x.2.1 ()),(jP x.2.2 ()),())))|.inr x=>K .ret (zL b qWq (((x,()),()),()))⟩
def yDu (f:TF)(d:yIf.den):=f d.1.2.2.1.1 (qX d.2.1) (qR d.2.2.1)
def Mm:zX:=⟨[yIf],[(.exit 2,yBe),(.ret,qWq)],(Unit⊕Bool),fun k d=>yDu (tS k k) d,fun b x _ K=>match x with|.inl x=>K (.exit 2) (zL b yBe ((),()))|.inr x=>K .ret (zL b qWq (((x,()),()),()))⟩
def Mn:zY:=⟨[],[(4,Mk),(14,TD),(9,Mm)],[],true⟩
theorem yTr:zU prog 1000 0 122 (zO (zS f23) 0) Mk:=lp (A:=Mn) Mk (fun d=>match d with|.inl d=>.inl ((qX d.2.1),(qR d.2.2.1))|.inr d=>.inr d.1.1.1) qYc tR DJ (e1 xG) loops0
theorem vEs:zU prog 1000 0 122 (zO (zO (zS f23) 1) 0) TD:=lp (A:=Mn) TD (fun d=>match d with|.inl d=>.inl (d.1.2.2.1.1,(qX d.2.1),(qR d.2.2.1))|.inr d=>.inr d.1.1.1) yP9 xC DK (e1 xG) loops0
theorem vJv:zU prog 1000 0 122 (zO (zS f23) 1) Mm:=lp (A:=Mn) Mm (fun d=>match d with|.inl d=>.inl ()|.inr d=>.inr d.1.1.1) yDu tS DL (e1 xG) (qC vEs)
def vRq:=zJ 23 [.agg fM,.agg kM] (.c .bool) (fun k d=>HP k (qX d) (mn d)) (fun x=>(x,())) (fun d=>d.1)
theorem qWp:zD prog vRq:=fA f23 Mn (e1 xG) (nU (n:=2) (by kernel_rfl) fun i hi=>match i,hi with|0,_=>⟨Mk,by kernel_rfl,yTr⟩|1,_=>⟨Mm,by kernel_rfl,vJv⟩|i+2,hi=>absurd hi (by omega))
def yMq:zE:=sp [(0,.c (.dat false zF)),sI 1,sI 5] []
def yIl (f:TG)(d:yMq.den):=f d.1.1.1 d.1.2.1.1 d.1.2.2.1.1
def TH:zX:=⟨[yMq],[(.exit 0,yBe),(.ret,yOe)],(Unit⊕Int),fun k d=>yIl (Bz k k) d,fun b x _ K=>match x with|.inl x=>K (.exit 0) (zL b yBe ((),()))|.inr x=>K .ret (zL b yOe (((x,()),()),()))⟩
def yCg:zY:=⟨[],[(2,TH)],[],false⟩
theorem vBy:zU prog 1000 0 20 (zO (zS f42) 0) TH:=lp (A:=yCg) TH (fun d=>match d with|.inl d=>.inl ()|.inr d=>.inr d.1.1.1) yIl Bz BA e0 loops0
def vLf:=zJ 42 [.c (.dat false zF),.c .i] (.c .i) (fun k d=>j0 k d.1 d.2.1) (fun x=>(x,())) (fun d=>d.1)
theorem DQ:zD prog vLf:=fA f42 yCg e0 (qC vBy)
def yUu:=zJ 119 [.agg vA,.agg vA] (.c .bool) (fun k d=>(DO (CC k) d)) (fun x=>(x,())) (fun d=>d.1)
theorem DR:zD prog yUu:=fA f119 ⟨[],[],[],false⟩ e0 loops0
def yCv:zE:=sp [(0,.c (.dat false zF)),sI 3] []
def yI0 (f:TI)(d:yCv.den):=f d.1.1.1 d.1.2.1.1
def TJ:zX:=⟨[yCv],[(.exit 0,qXn),(.ret,qV9)],SU,fun k d=>yI0 (tP k k) d,fun b x _ K=>match x with|.inl x=>K (.exit 0) (zL b qXn (((x,()),()),()))|.inr x=>K .ret (zL b qV9 (((x,()),()),()))⟩
def yFd:zY:=⟨[],[(2,TJ)],[],false⟩
theorem vFm:zU prog 1000 0 39 (zO (zS f70) 0) TJ:=lp (A:=yFd) TJ (fun d=>match d with|.inl d=>.inl d.1.1.1|.inr d=>.inr d.1.1.1) yI0 tP DC (e2 DQ DR) loops0
def vJ8:=zJ 70 [.c (.dat false zF)] (.c .bool) (fun k d=>HJ k d.1) (fun x=>(x,())) (fun d=>d.1)
theorem qWy:zD prog vJ8:=fA f70 yFd (e2 DQ DR) (qC vFm)
def yKg:zE:=sp [(0,.c (.dat false .i)),sI 3] []
def qT0 (f:TL)(d:yKg.den):=f d.1.1.1 d.1.2.1.1
def TM:zX:=⟨[yKg],[(.exit 0,yH9),(.ret,qV9)],(AC⊕Bool),fun k d=>qT0 (xA k k) d,fun b x _ K=>match x with|.inl x=>K (.exit 0) (zL b yH9 (((x,()),()),()))|.inr x=>K .ret (zL b qV9 (((x,()),()),()))⟩
def yCq:zY:=⟨[],[(2,TM)],[],true⟩
theorem vO9:zU prog 1000 0 34 (zO (zS f71) 0) TM:=lp (A:=yCq) TM (fun d=>match d with|.inl d=>.inl d.1.1.1|.inr d=>.inr d.1.1.1) qT0 xA DE e0 loops0
def vJl:=zJ 71 [.c (.dat false .i)] (.c .bool) (fun k d=>HL k d.1) (fun x=>(x,())) (fun d=>d.1)
theorem yDp:zD prog vJl:=fA f71 yCq e0 (qC vO9)
def vG7:=zJ 72 [.agg wN,.agg vA] (.c .bool) (fun k d=>(oN (J5 k) d)) (fun x=>(x,())) (fun d=>d.1)
theorem Mo:zD prog vG7:=fA f72 ⟨[],[],[],false⟩ e0 loops0
def qYa:zE:=sp [(0,.c (.dat false .i)),sI 1,sI 5] []
def yKy (f:TN)(d:qYa.den):=f d.1.1.1 d.1.2.1.1 d.1.2.2.1.1
def TO:zX:=⟨[qYa],[(.exit 0,yBe),(.ret,qWq)],(Unit⊕Bool),fun k d=>yKy (oK k k) d,fun b x _ K=>match x with|.inl x=>K (.exit 0) (zL b yBe ((),()))|.inr x=>K .ret (zL b qWq (((x,()),()),()))⟩
def qWa:zY:=⟨[],[(2,TO)],[],true⟩
theorem vFq:zU prog 1000 0 18 (zO (zS f73) 0) TO:=lp (A:=qWa) TO (fun d=>match d with|.inl d=>.inl ()|.inr d=>.inr d.1.1.1) yKy oK oL e0 loops0
def vFh:=zJ 73 [.c (.dat false .i),.c .i] (.c .bool) (fun k d=>xg k d.1 d.2.1) (fun x=>(x,())) (fun d=>d.1)
theorem Mp:zD prog vFh:=fA f73 qWa e0 (qC vFq)
def yA5:zE:=sp [sP 1 0,sI 3] [oB mo]
def yNt (f:TP)(d:yA5.den):=f d.1.2.1.1 (qR d.2.1)
def TQ:zX:=⟨[yA5],[(.exit 0,yBe),(.ret,qV9)],(Unit⊕Bool),fun k d=>yNt (tQ k k) d,fun b x _ K=>match x with|.inl x=>K (.exit 0) (zL b yBe ((),()))|.inr x=>K .ret (zL b qV9 (((x,()),()),()))⟩
def yKh:zY:=⟨[],[(4,TQ)],[],true⟩
theorem vQ9:zU prog 1000 0 57 (zO (zS f24) 0) TQ:=lp (A:=yKh) TQ (fun d=>match d with|.inl d=>.inl ()|.inr d=>.inr d.1.1.1) yNt tQ DH (e4 qWy yDp Mo Mp) loops0
def yY1:=zJ 24 [.agg kM] (.c .bool) (fun k d=>HM k (qR d)) (fun x=>(x,())) (fun d=>d.1)
theorem yGb:zD prog yY1:=fA f24 yKh (e4 qWy yDp Mo Mp) (qC vQ9)
def vF9:=zJ 74 [.agg [.i,.i],.c .i] (.agg [.i,.i]) (fun k d=>L1 k d.1 d.2.1 d.2.2.1) (fun x=>(x.1,x.2,())) (fun d=>(d.1,d.2.1))
theorem qZ1:zD prog vF9:=fA f74 ⟨[],[],[],false⟩ e0 loops0
def qWu:zE:=sp [(0,.c (.dat false .i)),sP 4 0,sI 5] [oB [.i,.i]]
def qZl:zE:=sp [sP 4 0] [oB [.i,.i]]
def yDa (f:TR)(d:qWu.den):=f d.1.1.1 d.1.2.2.1.1 d.2.1.1 d.2.1.2.1
def TS:zX:=⟨[qWu],[(.exit 0,qZl)],wD,fun k d=>yDa (HI k k) d,fun b x _ K=>K (.exit 0) (zL b qZl (((),()),((x.1,x.2,()),())))⟩
def yCc:zY:=⟨[],[(3,TS)],[],false⟩
theorem vCv:zU prog 1000 0 32 (zO (zS f25) 0) TS:=lp (A:=yCc) TS (fun d=>(d.2.1.1,d.2.1.2.1)) yDa HI DA (e1 qZ1) loops0
def vK3:=zJ 25 [.c (.dat false .i)] (.tup [(false,vJ),(false,[.bool])]) (fun k d=>HH k d.1) (fun x=>(x.1,x.2,())) (fun d=>(d.1,d.2.1))
theorem yP2:zD prog vK3:=fA f25 yCc (e1 qZ1) (qC vCv)
def qXw:zE:=⟨[sP 2 0,sP 3 1,sO 5 2,sI 6],[oB iH,oB mo,oA .i],[(5,none,.i,false)]⟩
def yKt (f:TT)(d:qXw.den):=f d.1.2.2.2.1.1 (qX d.2.1) (qR d.2.2.1) d.2.2.2.1
def TU:zX:=⟨[qXw],[(.exit 0,qVk)],S6,fun k d=>yKt (xD k k) d,fun b x _ K=>K (.exit 0) (zL b qVk (((),(),(),()),((eW x.1 ()),(jP x.2.1 ()),x.2.2,())))⟩
def qW9:zY:=⟨[],[(5,TU)],[],true⟩
theorem vKt:zU prog 1000 0 102 (zO (zS f8) 0) TU:=lp (A:=qW9) TU (fun d=>((qX d.2.1),(qR d.2.2.1),d.2.2.2.1)) yKt xD DM (e4 HU qWp yGb yP2) loops0
def qLo:=zJ 8 [.agg fM,.agg kM] (.c .bool) (fun k d=>L3 k (qX d) (mn d)) (fun x=>(x,())) (fun d=>d.1)
theorem vEh:zD prog qLo:=fA f8 qW9 (e4 HU qWp yGb yP2) (qC vKt)
def yLj:=zJ 9 [.c .i] (.agg [.i,.own jL,.i,.i,.i]) (fun k d=>yEt k d.1) (fun x=>(eW x ())) (fun d=>(qX d))
theorem yUb:zD prog yLj:=fA f9 n0 e0 loops0
def vEk:=zJ 120 [.c .i] (.c .bool) (fun k d=>FZ k d.1) (fun x=>(x,())) (fun d=>d.1)
theorem Mq:zD prog vEk:=fA f120 ⟨[],[],[],false⟩ e0 loops0
def yHa:zE:=sp [sI 1,sO 5 0,sI 13,sI 14] [oA .i]
def yDn:zE:=sp [sO 5 0] [oA .i]
def yFu (f:Tt)(d:yHa.den):=f d.1.1.1 d.1.2.2.1.1 d.1.2.2.2.1.1 d.2.1
def TX:zX:=⟨[yHa],[(.exit 0,yDn)],AC,fun k d=>yFu (F0 k k) d,fun b x _ K=>K (.exit 0) (zL b yDn (((),()),(x,())))⟩
def yKs:zY:=⟨[],[(5,TX)],[],false⟩
theorem yWu:zU prog 1000 0 23 (zO (zS f76) 0) TX:=lp (A:=yKs) TX (fun d=>d.2.1) yFu F0 Bb (e1 Mq) loops0
def vRw:=zJ 76 [.c .i,.c .i] (.c (.own .i)) (fun k d=>we k d.1 d.2.1) (fun x=>(x,())) (fun d=>d.1)
theorem xH:zD prog vRw:=fA f76 yKs (e1 Mq) (qC yWu)
def qXb:zE:=sp [sI 0,sI 1,sO 5 0,sI 13,sI 14] [.mat]
def yOi:zE:=sp [sO 5 0] [.mat]
def qWf (f:TY)(d:qXb.den):=f d.1.1.1 d.1.2.1.1 d.1.2.2.2.1.1 d.1.2.2.2.2.1.1 d.2.1
def TZ:zX:=⟨[qXb],[(.exit 0,yOi)],EQ,fun k d=>qWf (F1 k k) d,fun b x _ K=>K (.exit 0) (zL b yOi (((),()),(x,())))⟩
def qX8:zY:=⟨[11],[(5,TZ)],[],false⟩
theorem yZh:zU prog 1000 0 25 (zO (zS f75) 0) TZ:=lp (A:=qX8) TZ (fun d=>d.2.1) qWf F1 Bd (e2 Mq xH) loops0
def yZ9:=zJ 75 [.c .i,.c .i] (.c (.mat)) (fun k d=>Bc k d.1 d.2.1) (fun x=>(x,())) (fun d=>d.1)
theorem HW:zD prog yZ9:=fA f75 qX8 (e2 Mq xH) (qC yZh)
def ySj:zE:=⟨[sP 1 0,sP 2 1,sI 3,sP 4 2,(20,.c (.dat false jL)),sI 21,sI 22],[oB iH,oB iS,oB yJg,oA yC,.mat,oA .i,.mat,oA .i],[(4,some 5,.i,false)]⟩
def yMc:zE:=sp [sP 1 0,sP 2 1,sI 3,sP 4 2] [oB iH,oB iS,oB yJg,oA yC,.mat,oA .i,.mat,oA .i]
def yE6 (f:T0)(d:ySj.den):=f d.1.2.2.1.1 d.1.2.2.2.2.1.1 d.1.2.2.2.2.2.1.1 d.1.2.2.2.2.2.2.1.1 (qX d.2.1) (d.2.2.1.1,d.2.2.1.2.1,d.2.2.1.2.2.1) (d.2.2.2.1.1,d.2.2.2.1.2.1,d.2.2.2.1.2.2.1) d.2.2.2.2.1 d.2.2.2.2.2.1 d.2.2.2.2.2.2.1 d.2.2.2.2.2.2.2.1 d.2.2.2.2.2.2.2.2.1
def Mr:zX:=⟨[ySj],[(.exit 0,yMc)],T1,fun k d=>yE6 (T2 k k) d,fun b x _ K=>K (.exit 0) (zL b yMc (((),(),(x.1,()),(),()),((eW x.2.1 ()),(x.2.2.1.1,x.2.2.1.2.1,x.2.2.1.2.2,()),(x.2.2.2.1.1,x.2.2.2.1.2.1,x.2.2.2.1.2.2,()),x.2.2.2.2.1,x.2.2.2.2.2.1,x.2.2.2.2.2.2.1,x.2.2.2.2.2.2.2.1,x.2.2.2.2.2.2.2.2,())))⟩
def yHq:zE:=⟨[sP 1 0,sP 2 1,sP 4 2,sI 34,sI 35],[oB iH,oB iS,oB [.i,.lit (.osl 1001003 none),.lit (.osl 1001004 none),.lit (.osl 1001005 none),.lit (.osl 1001006 none),.lit (.osl 1001007 none),.lit (.osl 1001008 none),.lit .nsl,.lit .nsl,.i,.bool],oA yC,.mat,oA .i,.mat,oA .i,.mat],[(4,some 6,(.sl .i),true)]⟩
def yGh:zE:=sp [sP 2 0,sP 4 1] [oB iS,oB [.i,.lit (.osl 1001002 none),.lit (.osl 1001003 none),.lit (.osl 1001004 none),.lit (.osl 1001005 none),.lit (.osl 1001006 none),.lit (.osl 1001007 none),.lit .nsl,.lit .nsl,.i,.bool],oA yC,.mat,oA .i,.mat,oA .i,.mat]
def yA0 (f:T3)(d:yHq.den):=f d.1.2.2.2.1.1 d.1.2.2.2.2.1.1 (qX d.2.1) (d.2.2.1.1,d.2.2.1.2.1,d.2.2.1.2.2.1) (d.2.2.2.1.1,d.2.2.2.1.2.1,d.2.2.2.1.2.2.1) d.2.2.2.2.1 d.2.2.2.2.2.1 d.2.2.2.2.2.2.1 d.2.2.2.2.2.2.2.1 d.2.2.2.2.2.2.2.2.1 d.2.2.2.2.2.2.2.2.2.1
def Ms:zX:=⟨[yHq],[(.exit 2,yGh)],T4,fun k d=>yA0 (T5 k k) d,fun b x _ K=>K (.exit 2) (zL b yGh (((),(),()),((x.1.1,x.1.2.1,x.1.2.2,()),(x.2.1.1,x.2.1.2.1,x.2.1.2.2,()),x.2.2.1,x.2.2.2.1,x.2.2.2.2.1,x.2.2.2.2.2.1,x.2.2.2.2.2.2.1,x.2.2.2.2.2.2.2,())))⟩
def T6:zY:=⟨[43,44],[(4,Mr),(9,Ms)],[],true⟩
theorem vB1:zU prog 1000 0 48 (zO (zS f27) 0) Mr:=lp (A:=T6) Mr (fun d=>(d.1.2.2.1.1,(qX d.2.1),(d.2.2.1.1,d.2.2.1.2.1,d.2.2.1.2.2.1),(d.2.2.2.1.1,d.2.2.2.1.2.1,d.2.2.2.1.2.2.1),d.2.2.2.2.1,d.2.2.2.2.2.1,d.2.2.2.2.2.2.1,d.2.2.2.2.2.2.2.1,d.2.2.2.2.2.2.2.2.1)) yE6 T2 yOb (e2 HW xH) loops0
theorem vD2:zU prog 1000 0 48 (zO (zS f27) 1) Ms:=lp (A:=T6) Ms (fun d=>((d.2.1.1,d.2.1.2.1,d.2.1.2.2.1),(d.2.2.1.1,d.2.2.1.2.1,d.2.2.1.2.2.1),d.2.2.2.1,d.2.2.2.2.1,d.2.2.2.2.2.1,d.2.2.2.2.2.2.1,d.2.2.2.2.2.2.2.1,d.2.2.2.2.2.2.2.2.1)) yA0 T5 yJx (e2 HW xH) loops0
def yDg:=zJ 27 [.agg fM] (.agg [.i,.own yC,.mat,.own .i,.mat,.own .i,.mat,.own zF,.own .i,.i,.bool]) (fun k d=>yAv k (qX d)) (fun x=>(jP x ())) (fun d=>(qR d))
theorem yZn:zD prog yDg:=fA f27 T6 (e2 HW xH) (nU (n:=2) (by kernel_rfl) fun i hi=>match i,hi with|0,_=>⟨Mr,by kernel_rfl,vB1⟩|1,_=>⟨Ms,by kernel_rfl,vD2⟩|i+2,hi=>absurd hi (by omega))
def yNh:zE:=sp [(1,.c (.dat false .i)),sP 4 0,sP 5 1,sI 6] [oB vX,oB vX]
def yE0:zE:=sp [sP 4 0,sP 5 1] [oB vX,oB vX]
def ySf (f:T7)(d:yNh.den):=(j8 (j8 (f d.1.1.1 d.1.2.2.2.1.1) d.2.1) d.2.2.1)
def T8:zX:=⟨[yNh],[(.exit 0,yE0)],T9,fun k d=>ySf (Mt k k) d,fun b x _ K=>K (.exit 0) (zL b yE0 (((),(),()),((gP x ()),(yBi x ()),())))⟩
def yMx:zY:=⟨[],[(3,T8)],[],false⟩
theorem vDo:zU prog 1000 0 27 (zO (zS f29) 0) T8:=lp (A:=yMx) T8 (fun d=>(gP d.2.1 (wC d.2.2.1))) ySf Mt yJf e0 loops0
def yFm:=zJ 29 [.c .i,.c (.dat false .i)] (.agg oO) (fun k d=>wY k d.1 d.2.1) (fun x=>(gg x ())) (fun d=>(wC d))
theorem oP:zD prog yFm:=fA f29 yMx e0 (qC vDo)
def yD1:=zJ 28 [.c .i,.c .i,.c (.dat false .i)] (.agg [.i,.i,.i,.i,.i,.i,.i,.i]) (fun k d=>Ua k d.1 d.2.1 d.2.2.1) (fun x=>(Mu x ())) (fun d=>(DS d))
theorem yYm:zD prog yD1:=fA f28 n0 (e1 oP) loops0
def yUd:=zJ 77 [.c .i] (.c .bool) (fun k d=>LK k d.1) (fun x=>(x,())) (fun d=>d.1)
theorem vNi:zD prog yUd:=fA f77 n0 e0 loops0
def vK5:=zJ 78 [.c .i] (.c .bool) (fun k d=>Hs k d.1) (fun x=>(x,())) (fun d=>d.1)
theorem vD4:zD prog vK5:=fA f78 n0 e0 loops0
def yTh:=zJ 121 [.c .i] (.c .i) (fun k d=>LJ k d.1) (fun x=>(x,())) (fun d=>d.1)
theorem qZa:zD prog yTh:=fA f121 n0 e0 loops0
def qYo:zE:=sp [(13,.c (.dat true .i)),sI 14,sI 15] []
def yAo (f:TN)(d:qYo.den):=f d.1.1.1 d.1.2.1.1 d.1.2.2.1.1
def Uc:zX:=⟨[qYo],[(.exit 0,yBe),(.ret,qV9)],(Unit⊕Bool),fun k d=>yAo (qy k k) d,fun b x _ K=>match x with|.inl x=>K (.exit 0) (zL b yBe ((),()))|.inr x=>K .ret (zL b qV9 (((x,()),()),()))⟩
def yOz:zY:=⟨[],[(5,Uc)],[],true⟩
theorem vOi:zU prog 1000 0 22 (zO (zS f79) 0) Uc:=lp (A:=yOz) Uc (fun d=>match d with|.inl d=>.inl ()|.inr d=>.inr d.1.1.1) yAo qy tI (e1 qZa) loops0
def vAz:=zJ 79 [.agg vA] (.c .bool) (fun k d=>tJ k (wC d)) (fun x=>(x,())) (fun d=>d.1)
theorem yTq:zD prog vAz:=fA f79 yOz (e1 qZa) (qC vOi)
def yXs:=zJ 30 [.agg fM,.agg kM,.agg DT] (.c .i) (fun k d=>tK k (qX d) (mn d) (xF d)) (fun x=>(x,())) (fun d=>d.1)
theorem vNs:zD prog yXs:=fA f30 n0 (e3 vNi vD4 yTq) loops0
def yW2:=zJ 123 [.agg vA,.ptr [.i]] (.c .bool) (fun k d=>(j7 (Q4 k) d)) (fun x=>(x,())) (fun d=>d.1)
theorem yRy:zD prog yW2:=fA f123 ⟨[],[],[],false⟩ e0 loops0
def yLm:zE:=⟨[(1,.c (.lit (.fn 123 [1001000]))),sO 5 1,(8,.c (.dat false zF)),sI 9,sI 10],[.robox [.i],oA zF],[(5,none,zF,false)]⟩
def yNg:zE:=sp [sO 5 0] [oA zF]
def qZ0 (f:Ud)(d:yLm.den):=f d.1.2.2.1.1 d.1.2.2.2.1.1 d.1.2.2.2.2.1.1 d.2.1.1 d.2.2.1
def Ue:zX:=⟨[yLm],[(.exit 0,yNg)],Uf,fun k d=>qZ0 (GK k k) d,fun b x _ K=>K (.exit 0) (zL b yNg (((),()),(x,())))⟩
def yR1:zY:=⟨[],[(3,Ue)],[],false⟩
theorem vG3:zU prog 1000 0 23 (zO (zS f122) 0) Ue:=lp (A:=yR1) Ue (fun d=>d.2.1) qZ0 GK Ca (e1 yRy) loops0
def vAg:=zJ 122 [.c (.dat false zF),.fn 123 [[.i]]] (.c (.own zF)) (fun k d=>Q3 k d.1 d.2.1) (fun x=>(x,())) (fun d=>d.1)
theorem vDi:zD prog vAg:=fA f122 yR1 (e1 yRy) (qC vG3)
def yU0:=zJ 80 [.c (.dat false zF),.c .i] (.c (.own zF)) (fun k d=>GJ k d.1 d.2.1) (fun x=>(x,())) (fun d=>d.1)
theorem HX:zD prog yU0:=fA f80 ⟨[],[],[],false⟩ (e1 vDi) loops0
def yWc:=vW 32 [.ptr true [.p .i,.p (.nil),.p .i,.p .i,.p .i,.p .i,.p (.nil),.p (.nil),.p (.nil),.p (.nil),.p (.nil),.p (.nil),.p (.nil),.p (.nil),.p .i,.p .bool,.p .i,.p (.nil)],.c (.p .i),.c (.p (.dat false .i))] (.tup []) [[.i,.own jL,.i,.i,.i,.i,.own yC,.mat,.own .i,.mat,.own .i,.mat,.own zF,.own .i,.i,.bool,.i,.own yL]] 0 (fun k d=>yEr k (d.1,(Mv d (d.2.2.2.2.2.2.2.2.2.2.2.2.2.2.1,d.2.2.2.2.2.2.2.2.2.2.2.2.2.2.2.1,d.2.2.2.2.2.2.2.2.2.2.2.2.2.2.2.2.1))) d.2.2.2.2.2.2.2.2.2.2.2.2.2.2.2.2.2.2.1 d.2.2.2.2.2.2.2.2.2.2.2.2.2.2.2.2.2.2.2.1) (fun x=>(jS x ())) (fun d=>(fm d))
theorem vCp:zD prog yWc:=fX f32 n0 1 e0 loops0
def vE6:=zJ 31 [.agg kM,.c .i] (.c (.own yL)) (fun k d=>LQ k (qR d) d.2.2.2.2.2.2.2.2.2.2.2.1) (fun x=>(x,())) (fun d=>d.1)
theorem vDu:zD prog vE6:=fA f31 n0 (e2 HX vCp) loops0
def yVf:=vW 32 [.ptr true tW,.c (.p .i),.c (.p (.dat false .i))] (.tup []) [iT] 0 (fun k d=>LR k (iU d) d.2.2.2.2.2.2.2.2.2.2.2.2.2.2.2.2.2.2.1 d.2.2.2.2.2.2.2.2.2.2.2.2.2.2.2.2.2.2.2.1) (fun x=>(jS x ())) (fun d=>(fm d))
theorem qZv:zD prog yVf:=fX f32 n0 1 e0 loops0
def yVy:=zJ 198 [.agg fM,.c .i] (.c .bool) (fun k d=>GU k (qX d) d.2.2.2.2.2.1) (fun x=>(x,())) (fun d=>d.1)
theorem vRl:zD prog yVy:=fA f198 n0 e0 loops0
def yXh:=zJ 168 [.agg fM,.c .i,.agg vA] (.c .bool) (fun k d=>K8 k (qX d) d.2.2.2.2.2.1 (Ug d)) (fun x=>(x,())) (fun d=>d.1)
theorem vL6:zD prog yXh:=fA f168 n0 (e1 vRl) loops0
def vR3:=zJ 129 [.agg fM,.c .i,.c .i] (.c .i) (fun k d=>xa k (qX d) d.2.2.2.2.2.1 d.2.2.2.2.2.2.1) (fun x=>(x,())) (fun d=>d.1)
theorem Uh:zD prog vR3:=fA f129 n0 e0 loops0
def vKq:=zJ 124 [.agg fM,.c .i,.agg vA] (.c .i) (fun k d=>Cw k (qX d) d.2.2.2.2.2.1 (Ug d)) (fun x=>(x,())) (fun d=>d.1)
theorem yK2:zD prog vKq:=fA f124 n0 (e2 vL6 Uh) loops0
def vJw:=vu 170 false .i (.own .i) mW
theorem HY:zD prog vJw:=fC f170 ⟨[],[],[],false⟩ e0 loops0
theorem yW1 (A X:Option Addr)(n c vc:Nat)(w w':World)(rv:Value)(hr:(Builtin.append_ #[27,27] 27 #[.slice A n c,.slice X 1 vc]).run prog w=.ok rv w'):
    Calls prog 169 #[.slice A n c,.int .i64 n,.slice X 1 vc] w fun e ma=>e=.returned rv∧ma=w':=by
  have t0:prog.underlying 27=some (.slice 2):=by kernel_rfl
  have t3:prog.underlying 3=some (.int .i64):=by kernel_rfl
  have z0:∀w,(Go.sizeOf 2).run prog w=.ok 1 w:=fun w=>by kernel_rfl
  have u0:=run_underlying t0;have u3:=run_underlying t3
  go_enter Proofs.Tryz.func169,Proofs.Tryz.ntmps169
  go_wp2_with (at_builtin;refine Lib.wpList_append_run _ rfl _ _ _ _ rfl _ _ rfl rfl _ _ hr ?_)
  all_goals (go_ret;exact⟨rfl,rfl⟩)
theorem vEr:JL prog 169 27 3 1 where
  ends:=yW1
  grow B off n c i X vo vc N G w w1 w2 w3 hi hnc aS GX hG hz hA hB:=by
    simp only[Nat.mul_one] at hA hB;have t0:prog.underlying 27=some (.slice 2):=by kernel_rfl
    have t3:prog.underlying 3=some (.int .i64):=by kernel_rfl
    have z0:∀w,(Go.sizeOf 2).run prog w=.ok 1 w:=fun w=>by kernel_rfl
    have u0:=run_underlying t0;have u3:=run_underlying t3;have mixed:prog.follows .mixedOrders=true:=fl;have Ui:¬((i:Int)=(n:Int)):=by omega
    have nW:IntKind.i64.wrap ((i:Int)+1)=(i:Int)+1:=by rw[IntKind.wrap_i64];omega
    have gD:(0:Int)≤(i:Int)+1:=by omega
    have dZ:i≤n:=by omega
    have fh:((i:Int)+1).toNat=i+1:=by omega
    have Uj:¬(c=i):=by omega
    have hz3:(c:Int)<(n:Int)+1:=by omega
    have Uk:(i:Int)≤(n:Int):=by omega
    have hGi:¬(G=i):=by omega
    have Ul:¬(G=i+1):=by omega
    go_enter Proofs.Tryz.func169,Proofs.Tryz.ntmps169
    go_wp2_with (first
      |(at_builtin;refine Lib.wpList_append_run _ rfl _ _ _ _ rfl _ _ rfl rfl _ _ hz ?_)
      |(at_builtin;refine JP _ rfl _ _ 27 27 rfl _ _ rfl rfl (hA _) ?_))
    go_region_law_o (refine JQ rfl _ _ 27 27 rfl (.slice (some ⟨N,(i+1),none⟩) (n+1-(i+1)) (G-(i+1))) (.slice (some ⟨B,off+i,none⟩) (n-i) (c-i)) (by simp[Act.eval,Act.put]) (by simp[Act.eval,Act.put]) (hB (G-(i+1)) (c-i)) ?_)
    go_wp2
    go_ret
    exact⟨rfl,rfl⟩
  shift B off n c i X vo vc w w1 w2 hi aS GX nQ hA hB:=by
    simp only[Nat.mul_one] at hA hB;have t0:prog.underlying 27=some (.slice 2):=by kernel_rfl
    have t3:prog.underlying 3=some (.int .i64):=by kernel_rfl
    have z0:∀w,(Go.sizeOf 2).run prog w=.ok 1 w:=fun w=>by kernel_rfl
    have u0:=run_underlying t0;have u3:=run_underlying t3;have mixed:prog.follows .mixedOrders=true:=fl;have Ui:¬((i:Int)=(n:Int)):=by omega
    have nW:IntKind.i64.wrap ((i:Int)+1)=(i:Int)+1:=by rw[IntKind.wrap_i64];omega
    have gD:(0:Int)≤(i:Int)+1:=by omega
    have dZ:i≤n:=by omega
    have fh:((i:Int)+1).toNat=i+1:=by omega
    have Uj:¬(c=i):=by omega
    have qz:=fun lb cb=>yIe (P:=prog) (fo:=199) (tb:=4) (e:=2) (size:=1) Proofs.Tryz.func199 (by kernel_rfl) (by kernel_rfl) (by kernel_rfl) (by kernel_rfl) t0 z0 nQ vo (off+(i+1)) vc lb cb
    have hb2:¬(c=i+1):=by omega
    have Uk:(i:Int)≤(n:Int)+1:=by omega
    go_enter Proofs.Tryz.func169,Proofs.Tryz.ntmps169
    go_wp2_with (simp only[qz])
    go_region_law_o (refine JQ rfl _ _ 27 27 rfl (.slice (some ⟨B,off+(i+1),none⟩) (n-i) (c-(i+1))) (.slice (some ⟨B,off+i,none⟩) (n+1-i) (c-i)) (by simp[Act.eval,Act.put]) (by simp[Act.eval,Act.put]) (hA _ _) ?_)
    go_wp2_with (at_builtin;refine JP _ rfl _ _ 27 27 rfl _ _ rfl rfl (hB _) ?_)
    go_ret
    exact⟨rfl,rfl⟩
def vKc:Nat×lY:=(169,PO .i 8)
theorem vF4:zD prog vKc:=qVs (e:=2) (fn:=f169) vEr
def vR9:=zJ 125 [.c (.dat true .i),.c .i] (.tup [(false,[.fro .i]),(false,vJ)]) (fun k d=>BN k d.1 d.2.1) (fun x=>(x.1,x.2,())) (fun d=>(d.1,d.2.1))
theorem yGa:zD prog vR9:=fA f125 n0 (e3 qUg HY vF4) loops0
def yV3:=vu 172 false zF (.own zF) sW
theorem Mw:zD prog yV3:=fC f172 ⟨[],[],[],false⟩ e0 loops0
theorem vFp (A X:Option Addr)(n c vc:Nat)(w w':World)(rv:Value)(hr:(Builtin.append_ #[30,30] 30 #[.slice A n c,.slice X 1 vc]).run prog w=.ok rv w'):
    Calls prog 171 #[.slice A n c,.int .i64 n,.slice X 1 vc] w fun e ma=>e=.returned rv∧ma=w':=by
  have t0:prog.underlying 30=some (.slice 97):=by kernel_rfl
  have t3:prog.underlying 3=some (.int .i64):=by kernel_rfl
  have z0:∀w,(Go.sizeOf 97).run prog w=.ok 7 w:=fun w=>by kernel_rfl
  have u0:=run_underlying t0;have u3:=run_underlying t3
  go_enter Proofs.Tryz.func171,Proofs.Tryz.ntmps171
  go_wp2_with (at_builtin;refine Lib.wpList_append_run _ rfl _ _ _ _ rfl _ _ rfl rfl _ _ hr ?_)
  all_goals (go_ret;exact⟨rfl,rfl⟩)
theorem vB8:JL prog 171 30 3 7 where
  ends:=vFp
  grow B off n c i X vo vc N G w w1 w2 w3 hi hnc aS GX hG hz hA hB:=by
    have t0:prog.underlying 30=some (.slice 97):=by kernel_rfl
    have t3:prog.underlying 3=some (.int .i64):=by kernel_rfl
    have z0:∀w,(Go.sizeOf 97).run prog w=.ok 7 w:=fun w=>by kernel_rfl
    have u0:=run_underlying t0;have u3:=run_underlying t3;have mixed:prog.follows .mixedOrders=true:=fl;have Ui:¬((i:Int)=(n:Int)):=by omega
    have nW:IntKind.i64.wrap ((i:Int)+1)=(i:Int)+1:=by rw[IntKind.wrap_i64];omega
    have gD:(0:Int)≤(i:Int)+1:=by omega
    have dZ:i≤n:=by omega
    have fh:((i:Int)+1).toNat=i+1:=by omega
    have Uj:¬(c=i):=by omega
    have hz3:(c:Int)<(n:Int)+1:=by omega
    have Uk:(i:Int)≤(n:Int):=by omega
    have hGi:¬(G=i):=by omega
    have Ul:¬(G=i+1):=by omega
    go_enter Proofs.Tryz.func171,Proofs.Tryz.ntmps171
    go_wp2_with (first
      |(at_builtin;refine Lib.wpList_append_run _ rfl _ _ _ _ rfl _ _ rfl rfl _ _ hz ?_)
      |(at_builtin;refine JP _ rfl _ _ 30 30 rfl _ _ rfl rfl (hA _) ?_))
    go_region_law_o (refine JQ rfl _ _ 30 30 rfl (.slice (some ⟨N,(i+1)*7,none⟩) (n+1-(i+1)) (G-(i+1))) (.slice (some ⟨B,off+i*7,none⟩) (n-i) (c-i)) (by simp[Act.eval,Act.put]) (by simp[Act.eval,Act.put]) (hB (G-(i+1)) (c-i)) ?_)
    go_wp2
    go_ret
    exact⟨rfl,rfl⟩
  shift B off n c i X vo vc w w1 w2 hi aS GX nQ hA hB:=by
    have t0:prog.underlying 30=some (.slice 97):=by kernel_rfl
    have t3:prog.underlying 3=some (.int .i64):=by kernel_rfl
    have z0:∀w,(Go.sizeOf 97).run prog w=.ok 7 w:=fun w=>by kernel_rfl
    have u0:=run_underlying t0;have u3:=run_underlying t3;have mixed:prog.follows .mixedOrders=true:=fl;have Ui:¬((i:Int)=(n:Int)):=by omega
    have nW:IntKind.i64.wrap ((i:Int)+1)=(i:Int)+1:=by rw[IntKind.wrap_i64];omega
    have gD:(0:Int)≤(i:Int)+1:=by omega
    have dZ:i≤n:=by omega
    have fh:((i:Int)+1).toNat=i+1:=by omega
    have Uj:¬(c=i):=by omega
    have qz:=fun lb cb=>yIe (P:=prog) (fo:=201) (tb:=4) (e:=97) (size:=7) Proofs.Tryz.func201 (by kernel_rfl) (by kernel_rfl) (by kernel_rfl) (by kernel_rfl) t0 z0 nQ vo (off+(i+1)*7) vc lb cb
    have hb2:¬(c=i+1):=by omega
    have Uk:(i:Int)≤(n:Int)+1:=by omega
    go_enter Proofs.Tryz.func171,Proofs.Tryz.ntmps171
    go_wp2_with (simp only[qz])
    go_region_law_o (refine JQ rfl _ _ 30 30 rfl (.slice (some ⟨B,off+(i+1)*7,none⟩) (n-i) (c-(i+1))) (.slice (some ⟨B,off+i*7,none⟩) (n+1-i) (c-i)) (by simp[Act.eval,Act.put]) (by simp[Act.eval,Act.put]) (hA _ _) ?_)
    go_wp2_with (at_builtin;refine JP _ rfl _ _ 30 30 rfl _ _ rfl rfl (hB _) ?_)
    go_ret
    exact⟨rfl,rfl⟩
def yYt:Nat×lY:=(171,PO zF 56)
theorem Mx:zD prog yYt:=qVs (e:=97) (fn:=f171) vB8
def yPc:zE:=sp [(0,.c (.dat true zF)),sP 3 0,sI 6] [oB vX]
def yF7 (f:Um)(d:yPc.den):=f d.1.1.1 d.1.2.2.1.1 (wC d.2.1)
def Un:zX:=⟨[yPc],[(.exit 1,yPc)],Uo,fun k d=>yF7 (Gq k k) d,fun b x _ K=>K (.exit 1) (zL b yPc (((x.1,()),(),(x.2.1,()),()),((gg x.2.2 ()),())))⟩
def yRf:zY:=⟨[],[(6,Un)],[],true⟩
theorem vOd:zU prog 1000 0 40 (zO (zS f126) 0) Un:=lp (A:=yRf) Un (fun d=>(d.1.1.1,d.1.2.2.1.1,(wC d.2.1))) yF7 Gq BH (e4 tV DP Mw Mx) loops0
def vNb:=zJ 126 [.c (.dat true zF),.agg vA] (.tup [(false,[.fro zF]),(false,vJ)]) (fun k d=>sX k d.1 (My d)) (fun x=>(x.1,x.2,())) (fun d=>(d.1,d.2.1))
theorem Mz:zD prog vNb:=fA f126 yRf (e4 tV DP Mw Mx) (qC vOd)
def yUw:=vW 81 [.ptr true tX,.agg HZ] (.c .i) [iT] 0 (fun k d=>K9 k (fm d) (yN5 d)) (fun x=>(x.1,(jS x.2 ()))) (fun d=>(d.1,(kN d)))
theorem vQr:zD prog yUw:=fX f81 n0 1 (e4 fN yK2 yGa Mz) loops0
def vK8:=zJ 127 [.ptr Uq,.c .i] (.tup [(true,oO),(false,vJ)]) (fun k d=>Ur k (fm d) d.2.2.2.2.2.2.2.2.2.2.2.2.2.2.2.2.2.2.1) (fun x=>(gg x.1 (x.2,()))) (fun d=>((wC d),d.2.2.2.2.2.2.2.1))
theorem yJz:zD prog vK8:=fA f127 n0 (e1 tV) loops0
def vN4:=vW 173 [.c (.own zF),.c (.p .i),.c (.p .i)] (.c (.own zF)) [] 0 (fun k d=>Gk k d.1 d.2.1 d.2.2.1) (fun x=>(x,())) (fun d=>d.1)
theorem yAc:zD prog vN4:=fX f173 ⟨[],[],[],false⟩ 0 e0 loops0
def vOk:=zJ 128 [.c (.dat true zF),.c .i] (.tup [(false,[.fro zF]),(true,oO),(false,vJ)]) (fun k d=>nc k d.1 d.2.1) (fun x=>(MA x ())) (fun d=>(MB d))
theorem np:zD prog vOk:=fA f128 ⟨[],[],[],false⟩ (e3 tV Mw yAc) loops0
def vI6:=vW 32 [.ptr true tX,.c (.p .i),.c (.p (.dat false .i))] (.tup []) [iT] 0 (fun k d=>tt k (fm d) d.2.2.2.2.2.2.2.2.2.2.2.2.2.2.2.2.2.2.1 d.2.2.2.2.2.2.2.2.2.2.2.2.2.2.2.2.2.2.2.1) (fun x=>(jS x ())) (fun d=>(fm d))
theorem yDi:zD prog vI6:=fX f32 n0 1 e0 loops0
def vJ3:=zJ 130 [.c (.dat true zF),.c .i,.c .i] (.tup [(false,[.fro zF]),(false,vJ)]) (fun k d=>BI k d.1 d.2.1 d.2.2.1) (fun x=>(x.1,x.2,())) (fun d=>(d.1,d.2.1))
theorem qUv:zD prog vJ3:=fA f130 n0 (e2 np Mz) loops0
def vEu:=zJ 128 [.c (.dat false zF),.c .i] (.tup [(false,[.own zF]),(true,oO),(false,vJ)]) (fun k d=>QN k d.1 d.2.1) (fun x=>(MA x ())) (fun d=>(MB d))
theorem yF9:zD prog vEu:=fA f128 ⟨[],[],[],false⟩ (e3 tV Mw yAc) loops0
def qV4:zE:=sp [sO 6 0,sP 7 1,sI 9] [oA zF,oB vX]
def yMj (f:Us)(d:qV4.den):=f d.1.2.2.1.1 d.2.1 (wC d.2.2.1)
def Ut:zX:=⟨[qV4],[(.exit 0,qV4)],Uu,fun k d=>yMj (Gt k k) d,fun b x _ K=>K (.exit 0) (zL b qV4 (((),(),(x.1,()),()),(x.2.1,(gg x.2.2 ()),())))⟩
def yG7:zY:=⟨[],[(5,Ut)],[],true⟩
theorem yUh:zU prog 1000 0 41 (zO (zS f131) 0) Ut:=lp (A:=yG7) Ut (fun d=>(d.1.2.2.1.1,d.2.1,(wC d.2.2.1))) yMj Gt BK (e3 yF9 DP Mx) loops0
def vR1:=zJ 131 [.c (.dat true zF),.c .i] (.tup [(false,[.fro zF]),(false,vJ)]) (fun k d=>BL k d.1 d.2.1) (fun x=>(x.1,x.2,())) (fun d=>(d.1,d.2.1))
theorem yJk:zD prog vR1:=fA f131 yG7 (e3 yF9 DP Mx) (qC yUh)
def vCg:=zJ 132 [.c (.dat true zF),.c .i] (.tup [(false,[.fro zF]),(false,vJ)]) (fun k d=>BJ k d.1 d.2.1) (fun x=>(x.1,x.2,())) (fun d=>(d.1,d.2.1))
theorem qY9:zD prog vCg:=fA f132 n0 (e2 np Mz) loops0
def vKz:=vW 82 [.ptr true tX,.agg vA] (.c .i) [iT] 0 (fun k d=>xc k (fm d) (DU d)) (fun x=>(x.1,(jS x.2 ()))) (fun d=>(d.1,(kN d)))
theorem vFf:zD prog vKz:=fX f82 n0 1 (e8 yJz np yDi fN Uh qUv yJk qY9) loops0
def vC9:=vu 174 false yC (.own yC) Qb
theorem vO7:zD prog vC9:=fC f174 ⟨[],[],[],false⟩ e0 loops0
def vCw:=vu 136 true (.sl .i) (.jun) Qa
theorem yMa:zD prog vCw:=fC f136 ⟨[],[],[],false⟩ e0 loops0
def qWn:zE:=sp [sO 3 0,(8,.c (.dat true (.sl .i))),sI 9,sI 10] [.pmat]
def yMw:zE:=sp [sO 3 0] [.pmat]
def yNw (f:Uv)(d:qWn.den):=f d.1.2.1.1 d.1.2.2.1.1 d.1.2.2.2.1.1 d.2.1.1 d.2.1.2
def Uw:zX:=⟨[qWn],[(.exit 0,yMw)],(EQ×Nat),fun k d=>yNw (FF k k) d,fun b x _ K=>K (.exit 0) (zL b yMw (((),()),((x.1,x.2),())))⟩
def yKf:zY:=⟨[],[(3,Uw)],[],false⟩
theorem vJd:zU prog 1000 0 22 (zO (zS f175) 0) Uw:=lp (A:=yKf) Uw (fun d=>d.2.1) yNw FF AM (e2 yMa HY) loops0
def yWx:=zJ 175 [.c (.dat true (.sl .i))] (.c (.mat)) (fun k d=>FG k d.1) (fun x=>(x,())) (fun d=>d.1)
theorem yZr:zD prog yWx:=fA f175 yKf (e2 yMa HY) (qC vJd)
def yVq:=zJ 133 [.agg [.dat false yC,.dat true (.sl .i),.dat false .i,.dat true (.sl .i)]] (.agg [.own yC,.mat,.own .i,.mat]) (fun k d=>(yU (jW k) d)) (fun x=>(rp x ())) (fun d=>(rj d))
theorem mq:zD prog yVq:=fA f133 ⟨[],[],[],false⟩ (e3 vO7 yZr HY) loops0
def vN3:=zJ 134 [.ptr Uq,.c .i] (.c .bool) (fun k d=>Ux k (fm d) d.2.2.2.2.2.2.2.2.2.2.2.2.2.2.2.2.2.2.1) (fun x=>(x,())) (fun d=>d.1)
theorem qUa:zD prog vN3:=fA f134 n0 (e1 fN) loops0
def yWv:=vW 83 [.ptr true tX,.agg vA] (.c .i) [iT] 0 (fun k d=>xd k (fm d) (DU d)) (fun x=>(x.1,(jS x.2 ()))) (fun d=>(d.1,(kN d)))
theorem yXl:zD prog yWv:=fX f83 n0 1 (e3 mq qUa fN) loops0
def yXk:=zJ 135 [.ptr Uq,.c .i] (.c .bool) (fun k d=>H0 k (fm d) d.2.2.2.2.2.2.2.2.2.2.2.2.2.2.2.2.2.2.1) (fun x=>(x,())) (fun d=>d.1)
theorem DV:zD prog yXk:=fA f135 n0 (e1 fN) loops0
def yWe:=vu 136 true (.sl .i) (.own (.sl .i)) Cy
theorem qWx:zD prog yWe:=fC f136 ⟨[],[],[],false⟩ e0 loops0
def vRf:=zJ 137 [.c (.dat false .i),.c .i,.c .i] (.c (.own .i)) (fun k d=>ni k d.1 d.2.1 d.2.2.1) (fun x=>(x,())) (fun d=>d.1)
theorem DW:zD prog vRf:=fA f137 n0 (e1 HY) loops0
def yVv:=vW 84 [.ptr true tX,.c (.p .i),.c (.p .i)] (.c .i) [iT] 0 (fun k d=>La k (fm d) d.2.2.2.2.2.2.2.2.2.2.2.2.2.2.2.2.2.2.1 d.2.2.2.2.2.2.2.2.2.2.2.2.2.2.2.2.2.2.2.1) (fun x=>(x.1,(jS x.2 ()))) (fun d=>(d.1,(kN d)))
theorem vIc:zD prog yVv:=fX f84 n0 1 (e6 DV fN qWx DW tU mq) loops0
def yXp:=zJ 203 [.c .i,.c .i] (.tup [(false,vJ),(false,[.bool])]) (fun k d=>Lb k d.1 d.2.1) (fun x=>(x.1,x.2,())) (fun d=>(d.1,d.2.1))
theorem vJr:zD prog yXp:=fA f203 ⟨[],[],[],false⟩ e0 loops0
def vEf:=zJ 176 [.agg lB,.c .i] (.tup [(true,[.i,.i,.i]),(false,vJ)]) (fun k d=>GW k (d.1,d.2.1,d.2.2.1) d.2.2.2.1) (fun x=>(x.1.1,x.1.2.1,x.1.2.2,x.2,())) (fun d=>((d.1,d.2.1,d.2.2.1),d.2.2.2.1))
theorem yI3:zD prog vEf:=fA f176 n0 (e2 vJr F4q) loops0
def vL0:=zJ 138 [.agg lB,.c .i] (.tup [(true,[.i,.i,.i]),(false,vJ)]) (fun k d=>CL k (d.1,d.2.1,d.2.2.1) d.2.2.2.1) (fun x=>(x.1.1,x.1.2.1,x.1.2.2,x.2,())) (fun d=>((d.1,d.2.1,d.2.2.1),d.2.2.2.1))
theorem yCy:zD prog vL0:=fA f138 n0 (e1 yI3) loops0
def vO0:=zJ 177 [.agg lB,.c .i] (.c .i) (fun k d=>(yU (sQ k) d)) (fun x=>(x,())) (fun d=>d.1)
theorem MC:zD prog vO0:=fA f177 ⟨[],[],[],false⟩ e0 loops0
def vAf:=zJ 139 [.agg lB,.c .i,.c .i] (.tup [(true,[.i,.i,.i]),(false,vJ)]) (fun k d=>CM k (d.1,d.2.1,d.2.2.1) d.2.2.2.1 d.2.2.2.2.1) (fun x=>(x.1.1,x.1.2.1,x.1.2.2,x.2,())) (fun d=>((d.1,d.2.1,d.2.2.1),d.2.2.2.1))
theorem yM9:zD prog vAf:=fA f139 n0 (e2 yI3 MC) loops0
def vIp:=zJ 140 [.agg lB,.c .i] (.c .i) (fun k d=>CN k (d.1,d.2.1,d.2.2.1) d.2.2.2.1) (fun x=>(x,())) (fun d=>d.1)
theorem yGi:zD prog vIp:=fA f140 n0 e0 loops0
def vI9:=vW 85 [.ptr true tX,.c (.p .i),.c (.p .i),.c (.p .i)] (.c .i) [iT] 0 (fun k d=>Uy k (fm d) d.2.2.2.2.2.2.2.2.2.2.2.2.2.2.2.2.2.2.1 d.2.2.2.2.2.2.2.2.2.2.2.2.2.2.2.2.2.2.2.1 d.2.2.2.2.2.2.2.2.2.2.2.2.2.2.2.2.2.2.2.2.1) (fun x=>(x.1,(jS x.2 ()))) (fun d=>(d.1,(kN d)))
theorem yZi:zD prog vI9:=fX f85 n0 1 (e5 fN yCy yM9 yGi mq) loops0
def yE8:zE:=sp [sP 0 0,sO 7 2,sP 8 3,(40,.c (.dat true (.sl .i))),sI 41,sI 42] [oB Uz,oA yL,oA .i,oB yJd,oA yC,.mat,oA .i,.mat]
def yNy:zE:=sp [sP 0 0,sO 7 2,sP 8 3] [oB Uz,oA yL,oA .i,oB yJd,oA yC,.mat,oA .i,.mat]
def yOo:zE:=sp [sP 0 0,sI 6] [oB Uz,oA yL]
def yQ1 (f:UA)(d:yE8.den):=f d.1.2.2.2.1.1 d.1.2.2.2.2.1.1 d.1.2.2.2.2.2.1.1 (iU d.2.1) d.2.2.1 d.2.2.2.1 d.2.2.2.2.2.1 d.2.2.2.2.2.2.1 d.2.2.2.2.2.2.2.1 d.2.2.2.2.2.2.2.2.1
def UB:zX:=⟨[yE8],[(.exit 0,yNy),(.ret,yOo)],UC,fun k d=>yQ1 (UD k k) d,fun b x _ K=>match x with|.inl x=>K (.exit 0) (zL b yNy (((),(),(),()),((vD x.1 ()),x.2.1,x.2.2.1,(),x.2.2.2.1,x.2.2.2.2.1,x.2.2.2.2.2.1,x.2.2.2.2.2.2,())))|.inr x=>K .ret (zL b yOo (((),(x.1,()),()),((vD x.2.1 ()),x.2.2,())))⟩
def qYt:zY:=⟨[],[(6,UB)],[],true⟩
theorem vJn:zU prog 1000 1 81 (zO (zS f86) 0) UB:=lp (A:=qYt) UB (fun d=>match d with|.inl d=>.inl ((iU d.2.1),d.2.2.1,d.2.2.2.1,d.2.2.2.2.2.1,d.2.2.2.2.2.2.1,d.2.2.2.2.2.2.2.1,d.2.2.2.2.2.2.2.2.1)|.inr d=>.inr (d.1.2.1.1,(iU d.2.1),d.2.2.1)) yQ1 UD yLt (e5 DV fN DW mq tU) loops0
def yVi:=vW 86 [.ptr true tX,.c (.p .i),.c (.p .i)] (.c .i) [iT] 0 (fun k d=>yEw k (fm d) d.2.2.2.2.2.2.2.2.2.2.2.2.2.2.2.2.2.2.1 d.2.2.2.2.2.2.2.2.2.2.2.2.2.2.2.2.2.2.2.1) (fun x=>(x.1,(jS x.2 ()))) (fun d=>(d.1,(kN d)))
theorem vJt:zD prog yVi:=fX f86 qYt 1 (e5 DV fN DW mq tU) (qC vJn)
def vL9:=vW 33 [.ptr true tX,.agg vA] (.c .i) [iT] 0 (fun k d=>LN k (fm d) (DU d)) (fun x=>(x.1,(jS x.2 ()))) (fun d=>(d.1,(kN d)))
theorem vMo:zD prog vL9:=fX f33 n0 1 (e6 vQr vFf yXl vIc yZi vJt) loops0
def yZg:=zJ 89 [.c .i,.c .i,.c (.dat false .i)] (.agg [.i,.i,.i,.i,.i,.i,.i,.i]) (fun k d=>nk k d.1 d.2.1 d.2.2.1) (fun x=>(Mu x ())) (fun d=>(DS d))
theorem tY:zD prog yZg:=fA f89 ⟨[],[],[],false⟩ e0 loops0
def ySq:zE:=⟨[sP 1 0,sP 2 1,sO 4 2,(10,.c (.dat true zF)),sI 11,sI 12],[oB mr,oB iS,oA yL],[(4,none,yL,false)]⟩
def qU8:zE:=sp [sP 1 0,sP 2 1,sO 4 2] [oB mr,oB iS,oA yL]
def yK4 (f:UE)(d:ySq.den):=(oN (f d.1.2.2.2.1.1 d.1.2.2.2.2.1.1 d.1.2.2.2.2.2.1.1) d.2.1) d.2.2.1.1 d.2.2.1.2.1 d.2.2.1.2.2.1 d.2.2.2.1
def MD:zX:=⟨[ySq],[(.exit 0,qU8)],UF,fun k d=>yK4 (Co k k) d,fun b x _ K=>K (.exit 0) (zL b qU8 (((),(),(),()),((tZ x ()),(x.2.2.2.2.2.2.2.2.2.2.2.1,x.2.2.2.2.2.2.2.2.2.2.2.2.1,x.2.2.2.2.2.2.2.2.2.2.2.2.2.1,()),x.2.2.2.2.2.2.2.2.2.2.2.2.2.2,())))⟩
def yQr:zE:=sp [sP 1 0,sP 2 1,sO 4 2,(28,.c (.dat true yC)),sI 29,sI 30] [oB mr,oB iS,oA yL]
def yDd (f:UG)(d:yQr.den):=(oN (f d.1.2.2.2.1.1 d.1.2.2.2.2.1.1 d.1.2.2.2.2.2.1.1) d.2.1) d.2.2.1.1 d.2.2.1.2.1 d.2.2.1.2.2.1 d.2.2.2.1
def ME:zX:=⟨[yQr],[(.exit 2,qU8)],UF,fun k d=>yDd (GR k k) d,fun b x _ K=>K (.exit 2) (zL b qU8 (((),(),(),()),((tZ x ()),(x.2.2.2.2.2.2.2.2.2.2.2.1,x.2.2.2.2.2.2.2.2.2.2.2.2.1,x.2.2.2.2.2.2.2.2.2.2.2.2.2.1,()),x.2.2.2.2.2.2.2.2.2.2.2.2.2.2,())))⟩
def UI:zY:=⟨[],[(3,MD),(8,ME)],[],false⟩
theorem vL7:zU prog 1000 0 48 (zO (zS f87) 0) MD:=lp (A:=UI) MD (fun d=>(tZ d.2.1 (d.2.2.1.1,d.2.2.1.2.1,d.2.2.1.2.2.1,d.2.2.2.1))) yK4 Co Cp (e1 tY) loops0
theorem vPt:zU prog 1000 0 48 (zO (zS f87) 1) ME:=lp (A:=UI) ME (fun d=>(tZ d.2.1 (d.2.2.1.1,d.2.2.1.2.1,d.2.2.1.2.2.1,d.2.2.2.1))) yDd GR Cr (e1 tY) loops0
def vN7:=zJ 87 [.agg rq] (.tup [(true,[.i,.fro yC,.fro (.sl .i),.fro .i,.fro (.sl .i),.fro .i,.fro (.sl .i),.own zF,.fro .i,.i,.bool]),(false,[.own yL])]) (fun k d=>(oN (K7 k) d)) (fun x=>(DX x ())) (fun d=>(DY d))
theorem yN3:zD prog vN7:=fA f87 UI (e1 tY) (nU (n:=2) (by kernel_rfl) fun i hi=>match i,hi with|0,_=>⟨MD,by kernel_rfl,vL7⟩|1,_=>⟨ME,by kernel_rfl,vPt⟩|i+2,hi=>absurd hi (by omega))
def yXy:=zJ 88 [.agg vA,.c .i] (.c .bool) (fun k d=>(j7 (Q9 k) d)) (fun x=>(x,())) (fun d=>d.1)
theorem yQy:zD prog yXy:=fA f88 ⟨[],[],[],false⟩ e0 loops0
def yUc:=zJ 90 [.agg fM,.c .i] (.c .bool) (fun k d=>(gT (Cv k) d)) (fun x=>(x,())) (fun d=>d.1)
theorem yNn:zD prog yUc:=fA f90 ⟨[],[],[],false⟩ e0 loops0
def vM2:=zJ 210 [.agg vA,.c .i] (.c .bool) (fun k d=>(j7 (Qw k) d)) (fun x=>(x,())) (fun d=>d.1)
theorem vIa:zD prog vM2:=fA f210 ⟨[],[],[],false⟩ e0 loops0
def vA4:=zJ 209 [.agg vA,.ptr [.i]] (.c .bool) (fun k d=>(j7 (Qv k) d)) (fun x=>(x,())) (fun d=>d.1)
theorem yKz:zD prog vA4:=fA f209 ⟨[],[],[],false⟩ (e1 vIa) loops0
def yJ0:zE:=⟨[(1,.c (.lit (.fn 209 [1001000]))),sO 5 1,(8,.c (.dat false zF)),sI 9,sI 10],[.robox [.i],oA zF],[(5,none,zF,false)]⟩
def qV6 (f:Ud)(d:yJ0.den):=f d.1.2.2.1.1 d.1.2.2.2.1.1 d.1.2.2.2.2.1.1 d.2.1.1 d.2.2.1
def UK:zX:=⟨[yJ0],[(.exit 0,yNg)],Uf,fun k d=>qV6 (Ga k k) d,fun b x _ K=>K (.exit 0) (zL b yNg (((),()),(x,())))⟩
def yPu:zY:=⟨[],[(3,UK)],[],false⟩
theorem vQt:zU prog 1000 0 23 (zO (zS f122) 0) UK:=lp (A:=yPu) UK (fun d=>d.2.1) qV6 Ga Bo (e1 yKz) loops0
def vKj:=zJ 122 [.c (.dat false zF),.fn 209 [[.i]]] (.c (.own zF)) (fun k d=>Qu k d.1 d.2.1) (fun x=>(x,())) (fun d=>d.1)
theorem yTd:zD prog vKj:=fA f122 yPu (e1 yKz) (qC vQt)
def yWt:=zJ 182 [.c (.dat false zF),.c .i] (.c (.own zF)) (fun k d=>Bn k d.1 d.2.1) (fun x=>(x,())) (fun d=>d.1)
theorem xI:zD prog yWt:=fA f182 ⟨[],[],[],false⟩ (e1 yTd) loops0
def yZs:=zJ 237 [.agg vA,.ptr vA] (.c .bool) (fun k d=>(DO (QA k) d)) (fun x=>(x,())) (fun d=>d.1)
theorem qVp:zD prog yZs:=fA f237 ⟨[],[],[],false⟩ e0 loops0
def yKj:zE:=sp [(0,.c (.dat false zF)),(1,.c (.lit (.fn 237 [1001000]))),sI 7,sI 8] [.robox vX]
def ySw (f:UM)(d:yKj.den):=(j8 (f d.1.1.1 d.1.2.2.1.1 d.1.2.2.2.1.1) d.2.1)
def UN:zX:=⟨[yKj],[(.exit 0,yBe),(.ret,yOe)],(Unit⊕Int),fun k d=>ySw (Gg k k) d,fun b x _ K=>match x with|.inl x=>K (.exit 0) (zL b yBe ((),()))|.inr x=>K .ret (zL b yOe (((x,()),()),()))⟩
def yRq:zY:=⟨[],[(2,UN)],[],false⟩
theorem yVb:zU prog 1000 0 19 (zO (zS f93) 0) UN:=lp (A:=yRq) UN (fun d=>match d with|.inl d=>.inl ()|.inr d=>.inr d.1.1.1) ySw Gg Bw (e1 qVp) loops0
def vHh:=zJ 93 [.c (.dat false zF),.fn 237 [vA]] (.c .i) (fun k d=>(j7 (QB k) d)) (fun x=>(x,())) (fun d=>d.1)
theorem vIl:zD prog vHh:=fA f93 yRq (e1 qVp) (qC yVb)
def vCh:=zJ 64 [.c (.dat false zF),.fn 237 [vA]] (.c .bool) (fun k d=>(j7 (Kz k) d)) (fun x=>(x,())) (fun d=>d.1)
theorem vAi:zD prog vCh:=fA f64 ⟨[],[],[],false⟩ (e1 vIl) loops0
def vPr:=vW 236 [.agg vA,.ptr true [.map],.ptr false [.p (.dat false zF)]] (.c .bool) [[.map]] 0 (fun k d=>(MF (QD k) d)) (fun x=>(x.1,x.2,())) (fun d=>(d.1,d.2.1))
theorem qY1:zD prog vPr:=fX f236 ⟨[],[],[],false⟩ 3 (e1 vAi) loops0
def yF3:zE:=⟨[(1,.c (.lit (.fn 236 [1001000,1001002]))),sO 5 3,(8,.c (.dat false zF)),sI 9,sI 10],[oB [.lit (.map 1001001)],.imap,.robox [.dat false zF],oA zF],[(5,none,zF,false)]⟩
def yM1:zE:=sp [(1,.c (.lit (.fn 236 [1001000,1001002]))),sO 5 3] [oB [.lit (.map 1001001)],.imap,.robox [.dat false zF],oA zF]
def yOl (f:UO)(d:yF3.den):=f d.1.2.2.1.1 d.1.2.2.2.1.1 d.1.2.2.2.2.1.1 d.2.2.1 d.2.2.2.1.1 d.2.2.2.2.1
def UP:zX:=⟨[yF3],[(.exit 0,yM1)],UQ,fun k d=>yOl (Bx k k) d,fun b x _ K=>K (.exit 0) (zL b yM1 (((),(),()),((),x.1,(x.2.1,()),x.2.2,())))⟩
def yKm:zY:=⟨[],[(3,UP)],[],false⟩
theorem yUf:zU prog 1000 2 23 (zO (zS f122) 0) UP:=lp (A:=yKm) UP (fun d=>(d.2.2.1,d.2.2.2.1.1,d.2.2.2.2.1)) yOl Bx By (e1 qY1) loops0
def vAb:=vW 122 [.c (.p (.dat false zF)),.fn 236 [(true,[.map]),(false,[.p (.dat false zF)])]] (.c (.own zF)) [[.map]] 0 (fun k d=>QC k d.1 d.2.1 d.2.2.1) (fun x=>(x.1,x.2,())) (fun d=>(d.1,d.2.1))
theorem vDb:zD prog vAb:=fX f122 yKm 2 (e1 qY1) (qC yUf)
def yTz:=zJ 224 [.c (.dat false zF),.c .i] (.c (.own zF)) (fun k d=>Gh k d.1 d.2.1) (fun x=>(x,())) (fun d=>d.1)
theorem H2:zD prog yTz:=fA f224 ⟨[],[],[],false⟩ (e2 xI vDb) loops0
def vDf:=zJ 238 [.agg vA,.ptr wN] (.c .bool) (fun k d=>(oN (Qr k) d)) (fun x=>(x,())) (fun d=>d.1)
theorem yPy:zD prog vDf:=fA f238 ⟨[],[],[],false⟩ (e1 SY) loops0
def qT9:zE:=sp [(0,.c (.dat false zF)),(1,.c (.lit (.fn 238 [1001000]))),sI 7,sI 8] [.robox wS]
def yAi (f:UR)(d:qT9.den):=(yU (f d.1.1.1 d.1.2.2.1.1 d.1.2.2.2.1.1) d.2.1)
def US:zX:=⟨[qT9],[(.exit 0,yBe),(.ret,yOe)],(Unit⊕Int),fun k d=>yAi (F8 k k) d,fun b x _ K=>match x with|.inl x=>K (.exit 0) (zL b yBe ((),()))|.inr x=>K .ret (zL b yOe (((x,()),()),()))⟩
def yFj:zY:=⟨[],[(2,US)],[],false⟩
theorem vQi:zU prog 1000 0 19 (zO (zS f93) 0) US:=lp (A:=yFj) US (fun d=>match d with|.inl d=>.inl ()|.inr d=>.inr d.1.1.1) yAi F8 Bm (e1 yPy) loops0
def vEp:=zJ 93 [.c (.dat false zF),.fn 238 [wN]] (.c .i) (fun k d=>(iV (Qs k) d)) (fun x=>(x,())) (fun d=>d.1)
theorem yVm:zD prog vEp:=fA f93 yFj (e1 yPy) (qC vQi)
def yUj:=zJ 64 [.c (.dat false zF),.fn 238 [wN]] (.c .bool) (fun k d=>(iV (Kv k) d)) (fun x=>(x,())) (fun d=>d.1)
theorem vCc:zD prog yUj:=fA f64 ⟨[],[],[],false⟩ (e1 yVm) loops0
def qVg:zE:=sp [sP 4 0,sP 5 1,(15,.c (.dat false zF)),sI 16,sI 17] [oB [.lit .nsl,.lit .nsl,.lit .nsl],oB UT,oA .i,oA .i,.mat]
def yRz:zE:=sp [sP 4 0,sP 5 1] [oB [.lit .nsl,.lit .nsl,.lit .nsl],oB UT,oA .i,oA .i,.mat]
def ySs (f:UU)(d:qVg.den):=f d.1.2.2.1.1 d.1.2.2.2.1.1 d.1.2.2.2.2.1.1 d.2.2.2.1 d.2.2.2.2.1 d.2.2.2.2.2.1
def UW:zX:=⟨[qVg],[(.exit 0,yRz)],UX,fun k d=>ySs (F4 k k) d,fun b x _ K=>K (.exit 0) (zL b yRz (((),(),()),((),(),x.1,x.2.1,x.2.2,())))⟩
def yB2:zY:=⟨[],[(3,UW)],[],false⟩
theorem yVr:zU prog 1000 0 84 (zO (zS f226) 0) UW:=lp (A:=yB2) UW (fun d=>(d.2.2.2.1,d.2.2.2.2.1,d.2.2.2.2.2.1)) ySs F4 Be (e2 xH HW) loops0
def vHg:=zJ 226 [.c .i,.c (.dat false zF)] (.agg [.own .i,.own .i,.mat]) (fun k d=>Kq k d.1 d.2.1) (fun x=>(x.1,x.2.1,x.2.2,())) (fun d=>(d.1,d.2.1,d.2.2.1))
theorem yO1:zD prog vHg:=fA f226 yB2 (e2 xH HW) (qC yVr)
def vDc:=zJ 227 [.agg vA,.ptr [.i]] (.c .bool) (fun k d=>(j7 (Ql k) d)) (fun x=>(x,())) (fun d=>d.1)
theorem yM8:zD prog vDc:=fA f227 ⟨[],[],[],false⟩ e0 loops0
def yPs:zE:=sp [(0,.c (.dat false zF)),(1,.c (.lit (.fn 227 [1001000]))),sI 7,sI 8] [.robox [.i]]
def yEe (f:SK)(d:yPs.den):=f d.1.1.1 d.1.2.2.1.1 d.1.2.2.2.1.1 d.2.1.1
def UZ:zX:=⟨[yPs],[(.exit 0,yBe),(.ret,yOe)],(Unit⊕Int),fun k d=>yEe (F5 k k) d,fun b x _ K=>match x with|.inl x=>K (.exit 0) (zL b yBe ((),()))|.inr x=>K .ret (zL b yOe (((x,()),()),()))⟩
def yQx:zY:=⟨[],[(2,UZ)],[],false⟩
theorem yU3:zU prog 1000 0 19 (zO (zS f93) 0) UZ:=lp (A:=yQx) UZ (fun d=>match d with|.inl d=>.inl ()|.inr d=>.inr d.1.1.1) yEe F5 Bf (e1 yM8) loops0
def yTx:=zJ 93 [.c (.dat false zF),.fn 227 [[.i]]] (.c .i) (fun k d=>Qm k d.1 d.2.1) (fun x=>(x,())) (fun d=>d.1)
theorem yS3:zD prog yTx:=fA f93 yQx (e1 yM8) (qC yU3)
def vNl:=zJ 64 [.c (.dat false zF),.fn 227 [[.i]]] (.c .bool) (fun k d=>Kr k d.1 d.2.1) (fun x=>(x,())) (fun d=>d.1)
theorem yEg:zD prog vNl:=fA f64 ⟨[],[],[],false⟩ (e1 yS3) loops0
def yNu:zE:=sp [sI 5,(12,.c (.dat false .i)),sI 13,sI 14] []
def yS1:zE:=sp [sI 5] []
def yHu (f:Int→AC→Int→Int→Option Int)(d:yNu.den):=f d.1.1.1 d.1.2.1.1 d.1.2.2.1.1 d.1.2.2.2.1.1
def U0:zX:=⟨[yNu],[(.exit 0,yS1)],Int,fun k d=>yHu (A9 k k) d,fun b x _ K=>K (.exit 0) (zL b yS1 (((x,()),()),()))⟩
def ySk:zY:=⟨[],[(3,U0)],[],false⟩
theorem vKv:zU prog 1000 0 23 (zO (zS f239) 0) U0:=lp (A:=ySk) U0 (fun d=>d.1.1.1) yHu A9 Ba e0 loops0
def vB9:=zJ 239 [.agg wN,.c .i] (.c .i) (fun k d=>(iV (Kn k) d)) (fun x=>(x,())) (fun d=>d.1)
theorem qZh:zD prog vB9:=fA f239 ySk e0 (qC vKv)
def yT9:=zJ 240 [.c .i,.c .i] (.c .bool) (fun k d=>Bh k d.1 d.2.1) (fun x=>(x,())) (fun d=>d.1)
theorem U1:zD prog yT9:=fA f240 ⟨[],[],[],false⟩ e0 loops0
def vIe:=zJ 241 [.agg vA,.ptr [.i],.ptr lB,.ptr MG,.ptr [.i],.ptr wN] (.c .bool) (fun k d=>(yUm (Qn k) d)) (fun x=>(x,())) (fun d=>d.1)
theorem yPx:zD prog vIe:=fA f241 ⟨[],[],[],false⟩ (e2 MC U1) loops0
def yEh:zE:=sp [(0,.c (.dat false zF)),(1,.c (.lit (.fn 241 [1001000,1001001,1001002,1001003,1001004]))),sI 7,sI 8] [.robox [.i],.robox [.i,.i,.i],.robox U2,.robox [.i],.robox wS]
def yDe (f:U3)(d:yEh.den):=(yU (f d.1.1.1 d.1.2.2.1.1 d.1.2.2.2.1.1 d.2.1.1 d.2.2.1.1 d.2.2.1.2.1 d.2.2.1.2.2.1 d.2.2.2.1.1 d.2.2.2.1.2.1 d.2.2.2.1.2.2.1 d.2.2.2.2.1.1) d.2.2.2.2.2.1)
def U4:zX:=⟨[yEh],[(.exit 0,yBe),(.ret,yOe)],(Unit⊕Int),fun k d=>yDe (F7 k k) d,fun b x _ K=>match x with|.inl x=>K (.exit 0) (zL b yBe ((),()))|.inr x=>K .ret (zL b yOe (((x,()),()),()))⟩
def qUb:zY:=⟨[],[(2,U4)],[],false⟩
theorem yX9:zU prog 1000 0 19 (zO (zS f93) 0) U4:=lp (A:=qUb) U4 (fun d=>match d with|.inl d=>.inl ()|.inr d=>.inr d.1.1.1) yDe F7 Bi (e1 yPx) loops0
def yZt:=zJ 93 [.c (.dat false zF),.fn 241 [[.i],lB,MG,[.i],wN]] (.c .i) (fun k d=>(U5 (Qo k) d)) (fun x=>(x,())) (fun d=>d.1)
theorem yXg:zD prog yZt:=fA f93 qUb (e1 yPx) (qC yX9)
def vOb:=zJ 64 [.c (.dat false zF),.fn 241 [[.i],lB,MG,[.i],wN]] (.c .bool) (fun k d=>(U5 (Ks k) d)) (fun x=>(x,())) (fun d=>d.1)
theorem yOm:zD prog vOb:=fA f64 ⟨[],[],[],false⟩ (e1 yXg) loops0
def qZ9:zE:=sp [(3,.c (.dat false zF)),sP 4 0,sP 5 1,sP 6 2,sP 9 3,sP 10 4,sI 11,(39,.c (.dat false .i)),sI 40,sI 41] [oB U2,oB wS,oB [.i],oB [.i,.i,.i],oB [.i]]
def qUi:zE:=sp [(3,.c (.dat false zF)),sP 4 0,sP 5 1,sP 6 2,sP 9 3,sP 10 4,sI 11] [oB U2,oB wS,oB [.i],oB [.i,.i,.i],oB [.i]]
def qZf (f:U6)(d:qZ9.den):=(yU (f d.1.1.1 d.1.2.2.2.2.2.2.1.1 d.1.2.2.2.2.2.2.2.1.1 d.1.2.2.2.2.2.2.2.2.1.1 d.1.2.2.2.2.2.2.2.2.2.1.1 d.2.1.1 d.2.1.2.1 d.2.1.2.2.1) d.2.2.1) d.2.2.2.1.1 d.2.2.2.2.1.1 d.2.2.2.2.1.2.1 d.2.2.2.2.1.2.2.1 d.2.2.2.2.2.1.1
def U7:zX:=⟨[qZ9],[(.exit 0,qUi)],U8,fun k d=>qZf (wh k k) d,fun b x _ K=>K (.exit 0) (zL b qUi (((x.1,()),(),(),(),(),(),(x.2.1,()),()),((x.2.2.1,x.2.2.2.1,x.2.2.2.2.1,()),(vOx x ()),(x.2.2.2.2.2.2.2.2.2.1,()),(x.2.2.2.2.2.2.2.2.2.2.1,x.2.2.2.2.2.2.2.2.2.2.2.1,x.2.2.2.2.2.2.2.2.2.2.2.2.1,()),(x.2.2.2.2.2.2.2.2.2.2.2.2.2,()),())))⟩
def yGc:zY:=⟨[],[(7,U7)],[],false⟩
theorem yV2:zU prog 1000 0 59 (zO (zS f228) 0) U7:=lp (A:=yGc) U7 (fun d=>(d.1.1.1,d.1.2.2.2.2.2.2.1.1,d.2.1.1,d.2.1.2.1,d.2.1.2.2.1,(vG d.2.2.1 (d.2.2.2.1.1,d.2.2.2.2.1.1,d.2.2.2.2.1.2.1,d.2.2.2.2.1.2.2.1,d.2.2.2.2.2.1.1)))) qZf wh Bj (e3 qZh U1 yOm) loops0
def vIr:=zJ 228 [.agg MG,.agg wN,.c .i,.c (.dat false zF)] (.c .bool) (fun k d=>(MF (Ku k) d)) (fun x=>(x,())) (fun d=>d.1)
theorem yIs:zD prog vIr:=fA f228 yGc (e3 qZh U1 yOm) (qC yV2)
def yCf:zE:=⟨[(1,.c (.dat false zF)),sP 2 0,sP 5 1,sO 6 5,sI 16,sI 17],[oB wS,oB UT,oA .i,oA .i,.mat,oA .i],[(6,none,.i,false)]⟩
def yCz (f:U9)(d:yCf.den):=(yU (f d.1.1.1 d.1.2.2.2.2.1.1 d.1.2.2.2.2.2.1.1) d.2.1) d.2.2.2.1 d.2.2.2.2.1 d.2.2.2.2.2.1 d.2.2.2.2.2.2.1
def Va:zX:=⟨[yCf],[(.exit 0,qT4)],AC,fun k d=>yCz (Bk k k) d,fun b x _ K=>K (.exit 0) (zL b qT4 (((),()),(x,())))⟩
def yGv:zY:=⟨[],[(4,Va)],[],false⟩
theorem vDt:zU prog 1000 0 37 (zO (zS f206) 0) Va:=lp (A:=yGv) Va (fun d=>d.2.1) yCz Bk Bl (e3 yO1 yEg yIs) loops0
def vDg:=zJ 206 [.agg wN,.c (.dat false zF)] (.c (.own .i)) (fun k d=>(iV (wi k) d)) (fun x=>(x,())) (fun d=>d.1)
theorem H3:zD prog vDg:=fA f206 yGv (e3 yO1 yEg yIs) (qC vDt)
def yUx:=zJ 225 [.agg wN,.c (.dat false zF)] (.c .bool) (fun k d=>(iV (wj k) d)) (fun x=>(x,())) (fun d=>d.1)
theorem H4:zD prog yUx:=fA f225 ⟨[],[],[],false⟩ (e2 vCc H3) loops0
def vMc:=zJ 211 [.agg vA,.ptr wN] (.c .bool) (fun k d=>(oN (Qd k) d)) (fun x=>(x,())) (fun d=>d.1)
theorem yIi:zD prog vMc:=fA f211 ⟨[],[],[],false⟩ (e1 SY) loops0
def qYf:zE:=sp [(0,.c (.dat false zF)),(1,.c (.lit (.fn 211 [1001000]))),sI 7,sI 8] [.robox wS]
def yFn (f:UR)(d:qYf.den):=(yU (f d.1.1.1 d.1.2.2.1.1 d.1.2.2.2.1.1) d.2.1)
def Vc:zX:=⟨[qYf],[(.exit 0,yBe),(.ret,yOe)],(Unit⊕Int),fun k d=>yFn (FP k k) d,fun b x _ K=>match x with|.inl x=>K (.exit 0) (zL b yBe ((),()))|.inr x=>K .ret (zL b yOe (((x,()),()),()))⟩
def yJ1:zY:=⟨[],[(2,Vc)],[],false⟩
theorem yXz:zU prog 1000 0 19 (zO (zS f93) 0) Vc:=lp (A:=yJ1) Vc (fun d=>match d with|.inl d=>.inl ()|.inr d=>.inr d.1.1.1) yFn FP AR (e1 yIi) loops0
def yTp:=zJ 93 [.c (.dat false zF),.fn 211 [wN]] (.c .i) (fun k d=>(iV (Qe k) d)) (fun x=>(x,())) (fun d=>d.1)
theorem yX2:zD prog yTp:=fA f93 yJ1 (e1 yIi) (qC yXz)
def yT0:=zJ 64 [.c (.dat false zF),.fn 211 [wN]] (.c .bool) (fun k d=>(iV (J6 k) d)) (fun x=>(x,())) (fun d=>d.1)
theorem yC6:zD prog yT0:=fA f64 ⟨[],[],[],false⟩ (e1 yX2) loops0
def yMg:zE:=sp [sP 2 0,sP 4 1,sP 7 2,(24,.c (.dat false zF)),sI 25,sI 26] [oB vU,oB lC,oB oQ,oA yC,.mat,oA .i,.mat]
def qU4:zE:=sp [sP 2 0,sP 4 1,sP 7 2] [oB vU,oB lC,oB oQ,oA yC,.mat,oA .i,.mat]
def qVa (f:Vd)(d:yMg.den):=(yU (f d.1.2.2.2.1.1 d.1.2.2.2.2.1.1 d.1.2.2.2.2.2.1.1) d.2.1) d.2.2.2.2.1 d.2.2.2.2.2.1 d.2.2.2.2.2.2.1 d.2.2.2.2.2.2.2.1
def Ve:zX:=⟨[yMg],[(.exit 0,qU4)],Vf,fun k d=>qVa (AV k k) d,fun b x _ K=>K (.exit 0) (zL b qU4 (((),(),(),()),((vG x ()),(),(),x.2.2.2.2.1,x.2.2.2.2.2.1,x.2.2.2.2.2.2.1,x.2.2.2.2.2.2.2,())))⟩
def qVw:zY:=⟨[],[(6,Ve)],[],false⟩
theorem vBx:zU prog 1000 0 104 (zO (zS f183) 0) Ve:=lp (A:=qVw) Ve (fun d=>(vG d.2.1 (d.2.2.2.2.1,d.2.2.2.2.2.1,d.2.2.2.2.2.2.1,d.2.2.2.2.2.2.2.1))) qVa AV AW (e4 yC6 mq MC L9) loops0
def yW0:=zJ 183 [.agg iI,.c (.dat false zF)] (.tup [(true,kO),(false,vJ)]) (fun k d=>(iV (mY k) d)) (fun x=>(eW x ())) (fun d=>(qX d))
theorem xJ:zD prog yW0:=fA f183 qVw (e4 yC6 mq MC L9) (qC vBx)
def yAh:zE:=sp [sP 3 0,sP 6 1,sP 7 2,sO 15 3,sI 16,sI 17] [oB vU,oB vX,oB lC,oA zF]
def yE1:zE:=sp [sP 3 0,sP 6 1,sP 7 2] [oB vU,oB vX,oB lC]
def yMl:zE:=sp [sP 6 0,sP 7 1,(8,.c .bool)] [oB vX,oB vU]
def yEu (f:Vg)(d:yAh.den):=(j8 (yU (f d.1.2.2.2.2.1.1 d.1.2.2.2.2.2.1.1) d.2.1) d.2.2.1) d.2.2.2.2.1
def Vh:zX:=⟨[yAh],[(.exit 0,yE1),(.ret,yMl)],Vi,fun k d=>yEu (Gy k k) d,fun b x _ K=>match x with|.inl x=>K (.exit 0) (zL b yE1 (((),(),(),()),((vG x ()),(vH2 x ()),(),())))|.inr x=>K .ret (zL b yMl (((),(),(x.1,()),()),((Vj x ()),(vR6 x ()),())))⟩
def yB6:zY:=⟨[],[(2,Vh)],[],false⟩
theorem yTt:zU prog 1000 0 40 (zO (zS f204) 0) Vh:=lp (A:=yB6) Vh (fun d=>match d with|.inl d=>.inl (vG d.2.1 (wC d.2.2.1))|.inr d=>.inr (d.1.2.2.1.1,(gP d.2.1 (rj d.2.2.1)))) yEu Gy BX (e3 H2 H4 xJ) loops0
def yT7:=zJ 204 [.agg iI,.c (.dat true zF),.c .i] (.tup [(true,oO),(true,kO),(false,[.bool])]) (fun k d=>(gT (KR k) d)) (fun x=>(DX x ())) (fun d=>(DY d))
theorem qZ6:zD prog yT7:=fA f204 yB6 (e3 H2 H4 xJ) (qC yTt)
def qUw:zE:=⟨[sI 2,sP 6 0,(7,.c (.dat true zF)),sO 8 1],[oB vU,oA zF],[(8,none,zF,false)]⟩
def yEm:zE:=sp [sP 6 0,(7,.c (.dat true zF)),sO 8 1] [oB vU,oA zF]
def yBb (f:Vk)(d:qUw.den):=(yU (f d.1.1.1 d.1.2.2.1.1) d.2.1) d.2.2.1
def Vl:zX:=⟨[qUw],[(.ret,yEm)],Vm,fun k d=>yBb (Gz k k) d,fun b x _ K=>K .ret (zL b yEm (((),(x.1,()),(),()),((fO x ()),x.2.2.2.2.2,())))⟩
def yL1:zY:=⟨[],[(2,Vl)],[],false⟩
theorem vF3:zU prog 1000 0 40 (zO (zS f178) 0) Vl:=lp (A:=yL1) Vl (fun d=>(d.1.2.1.1,(vG d.2.1 d.2.2.1))) yBb Gz BZ (e2 qZ6 np) loops0
def vCi:=zJ 178 [.agg iI,.c (.dat true zF),.c .i] (.tup [(true,kO),(false,[.fro zF]),(false,[.own zF])]) (fun k d=>(gT (KS k) d)) (fun x=>(lD x ())) (fun d=>(kP d))
theorem yNq:zD prog vCi:=fA f178 yL1 (e2 qZ6 np) (qC vF3)
def yIa:zE:=sp [sP 3 0,sP 6 1,sO 8 2,sP 10 3,sO 18 2,sI 19,sI 20,sO 24 2,sI 25,sI 26] [oB vU,oB MH,oA zF,oB vX]
def yCh:zE:=sp [sP 3 0,sP 6 1,sO 8 2,sO 18 2,sI 19,sI 20] [oB vU,oB MH,oA zF]
def yD6:zE:=sp [sP 6 0,(7,.c .bool)] [oB yFi]
def yC4 (f:Vn)(d:yIa.den):=(j8 ((DO (yU (f d.1.2.2.2.2.2.1.1 d.1.2.2.2.2.2.2.1.1 d.1.2.2.2.2.2.2.2.2.1.1 d.1.2.2.2.2.2.2.2.2.2.1.1) d.2.1) d.2.2.1) d.2.2.2.1) d.2.2.2.2.1)
def Vo:zX:=⟨[yIa],[(.exit 2,yCh),(.ret,yD6)],Vp,fun k d=>yC4 (GA k k) d,fun b x _ K=>match x with|.inl x=>K (.exit 2) (zL b yCh (((),(),(),(),(x.1,()),(x.2.1,()),()),((Mv x ()),(vKs x ()),x.2.2.2.2.2.2.2.2.2.2.2.2.2.2.2.2.2.2.2.2,())))|.inr x=>K .ret (zL b yD6 (((),(x.1,()),()),((Vq x ()),())))⟩
def qTu:zE:=sp [sP 6 0] [oB MH]
def qYi (f:Vr)(d:yCh.den):=(DO (yU (f d.1.2.2.2.2.1.1 d.1.2.2.2.2.2.1.1) d.2.1) d.2.2.1) d.2.2.2.1
def Vs:zX:=⟨[yCh],[(.exit 0,qTu),(.ret,yD6)],Vt,fun k d=>qYi (GC k k) d,fun b x _ K=>match x with|.inl x=>K (.exit 0) (zL b qTu (((),()),((Vu x ()),())))|.inr x=>K .ret (zL b yD6 (((),(x.1,()),()),((Vq x ()),())))⟩
def Vv:zY:=⟨[],[(6,Vo),(3,Vs)],[],false⟩
theorem vOm:zU prog 1000 0 74 (zO (zO (zS f205) 0) 0) Vo:=lp (A:=Vv) Vo (fun d=>match d with|.inl d=>.inl (d.1.2.2.2.2.1.1,d.1.2.2.2.2.2.1.1,(vG d.2.1 (Vw d.2.2.1 d.2.2.2.1)))|.inr d=>.inr (d.1.2.1.1,(fm d.2.1))) yC4 GA B3 (e3 H2 H4 xJ) loops0
theorem vLw:zU prog 1000 0 74 (zO (zS f205) 0) Vs:=lp (A:=Vv) Vs (fun d=>match d with|.inl d=>.inl (yBz d.2.1)|.inr d=>.inr (d.1.2.1.1,(fm d.2.1))) qYi GC B4 (e3 H2 H4 xJ) (qC vOm)
def vB5:=zJ 205 [.agg iI,.c (.dat true zF),.c .i] (.tup [(true,[.i,.i,.i,.i,.i,.i,.i,.i,.i,.i,.i,.i,.i,.i,.fro yC,.fro (.sl .i),.fro .i,.fro (.sl .i)]),(false,[.bool])]) (fun k d=>(gT (KU k) d)) (fun x=>(ua x ())) (fun d=>(MI d))
theorem Vx:zD prog vB5:=fA f205 Vv (e3 H2 H4 xJ) (qC vLw)
def yO3:zE:=⟨[sI 2,sP 6 0,(7,.c (.dat true zF)),sO 8 1,sO 33 2,sI 34,sI 35],[oB vU,oA zF,oA zF],[(8,none,zF,false)]⟩
def yGu:zE:=sp [sI 2,sP 6 0,(7,.c (.dat true zF)),sO 8 1] [oB vU,oA zF]
def yH2 (f:Vy)(d:yO3.den):=(yU (f d.1.1.1 d.1.2.2.1.1 d.1.2.2.2.2.2.1.1 d.1.2.2.2.2.2.2.1.1) d.2.1) d.2.2.1 d.2.2.2.1
def Vz:zX:=⟨[yO3],[(.exit 2,yGu)],VA,fun k d=>yH2 (ta k k) d,fun b x _ K=>K (.exit 2) (zL b yGu (((x.1,()),(),(x.2.1,()),(),()),((Mv x ()),x.2.2.2.2.2.2,())))⟩
def yRs (f:Vk)(d:qUw.den):=(yU (f d.1.1.1 d.1.2.2.1.1) d.2.1) d.2.2.1
def VC:zX:=⟨[qUw],[(.ret,yEm)],Vm,fun k d=>yRs (GD k k) d,fun b x _ K=>K .ret (zL b yEm (((),(x.1,()),(),()),((fO x ()),x.2.2.2.2.2,())))⟩
def VE:zY:=⟨[],[(7,Vz),(2,VC)],[],false⟩
theorem vHi:zU prog 1000 0 52 (zO (zO (zS f179) 0) 0) Vz:=lp (A:=VE) Vz (fun d=>(d.1.1.1,d.1.2.2.1.1,(vG d.2.1 d.2.2.1))) yH2 ta tc (e2 Vx np) loops0
theorem yY9:zU prog 1000 0 52 (zO (zS f179) 0) VC:=lp (A:=VE) VC (fun d=>(d.1.2.1.1,(vG d.2.1 d.2.2.1))) yRs GD B5 (e2 Vx np) (qC vHi)
def vPk:=zJ 179 [.agg iI,.c (.dat true zF),.c .i] (.tup [(true,kO),(false,[.fro zF]),(false,[.own zF])]) (fun k d=>(gT (KV k) d)) (fun x=>(lD x ())) (fun d=>(kP d))
theorem qYy:zD prog vPk:=fA f179 VE (e2 Vx np) (qC yY9)
def ySx (f:Vk)(d:qUw.den):=(yU (f d.1.1.1 d.1.2.2.1.1) d.2.1) d.2.2.1
def VG:zX:=⟨[qUw],[(.ret,yEm)],Vm,fun k d=>ySx (GM k k) d,fun b x _ K=>K .ret (zL b yEm (((),(x.1,()),(),()),((fO x ()),x.2.2.2.2.2,())))⟩
def yRh:zY:=⟨[],[(2,VG)],[],false⟩
theorem vC1:zU prog 1000 0 40 (zO (zS f141) 0) VG:=lp (A:=yRh) VG (fun d=>(d.1.2.1.1,(vG d.2.1 d.2.2.1))) ySx GM K2 (e2 yNq qYy) loops0
def vQn:=zJ 141 [.agg iI,.c (.dat true zF),.c .i] (.tup [(true,kO),(false,[.fro zF]),(false,[.own zF])]) (fun k d=>(gT (GN k) d)) (fun x=>(lD x ())) (fun d=>(kP d))
theorem yWp:zD prog vQn:=fA f141 yRh (e2 yNq qYy) (qC vC1)
def vOo:=vu 207 false .i (.own .i) Q0
theorem vCj:zD prog vOo:=fC f207 ⟨[],[],[],false⟩ e0 loops0
def vK0:=vW 208 [.agg vA,.ptr true [.own .i]] (.c .bool) [[.own .i]] 0 (fun k d=>(j7 (Q2 k) d)) (fun x=>(x.1,x.2,())) (fun d=>(d.1,d.2.1))
theorem ySc:zD prog vK0:=fX f208 ⟨[],[],[],false⟩ 2 e0 loops0
def yLl:zE:=⟨[(1,.c (.lit (.fn 208 [1001000]))),sO 5 2,(8,.c (.dat false zF)),sI 9,sI 10],[oB [.lit (.osl 1001001 none)],oA .i,oA zF],[(5,none,zF,false)]⟩
def yL4:zE:=sp [(1,.c (.lit (.fn 208 [1001000]))),sO 5 2] [oB [.lit (.osl 1001001 none)],oA .i,oA zF]
def qUp (f:VI)(d:yLl.den):=f d.1.2.2.1.1 d.1.2.2.2.1.1 d.1.2.2.2.2.1.1 d.2.2.1 d.2.2.2.1
def VJ:zX:=⟨[yLl],[(.exit 0,yL4)],VK,fun k d=>qUp (B8 k k) d,fun b x _ K=>K (.exit 0) (zL b yL4 (((),(),()),((),x.1,x.2,())))⟩
def yQ0:zY:=⟨[],[(3,VJ)],[],false⟩
theorem vD7:zU prog 1000 2 23 (zO (zS f122) 0) VJ:=lp (A:=yQ0) VJ (fun d=>(d.2.2.1,d.2.2.2.1)) qUp B8 B9 (e1 ySc) loops0
def vIs:=vW 122 [.c (.p (.dat false zF)),.fn 208 [(true,[.own .i])]] (.c (.own zF)) [[.own .i]] 0 (fun k d=>Q1 k d.1 d.2.1) (fun x=>(x.1,x.2,())) (fun d=>(d.1,d.2.1))
theorem yY0:zD prog vIs:=fX f122 yQ0 2 (e1 ySc) (qC vD7)
def vI1:=zJ 181 [.c (.dat false zF),.c (.dat false .i)] (.c (.own zF)) (fun k d=>B7 k d.1 d.2.1) (fun x=>(x,())) (fun d=>d.1)
theorem DZ:zD prog vI1:=fA f181 ⟨[],[],[],false⟩ (e2 vCj yY0) loops0
def yQ9:zE:=⟨[sP 3 0,sO 6 1,sI 7,sO 8 2,sI 18,sI 19],[oB wS,oA .i,oA zF],[(6,none,.i,false)]⟩
def yLb:zE:=sp [sP 3 0,sO 6 1,sI 7,sO 8 2] [oB wS,oA .i,oA zF]
def yQ8 (f:VL)(d:yQ9.den):=(yU (f d.1.2.2.1.1 d.1.2.2.2.2.1.1 d.1.2.2.2.2.2.1.1) d.2.1) d.2.2.1 d.2.2.2.1
def MJ:zX:=⟨[yQ9],[(.exit 0,yLb)],VM,fun k d=>yQ8 (w4 k k) d,fun b x _ K=>K (.exit 0) (zL b yLb (((),(),(x.1,()),(),()),((fO x ()),x.2.2.2.2.2.1,x.2.2.2.2.2.2,())))⟩
def qZu:zE:=sp [sP 3 0,sO 6 1,sI 7,sO 8 2,sO 42 3,sI 43,sI 44] [oB wS,oA .i,oA zF,oA .i]
def qWh (f:VN)(d:qZu.den):=(yU (f d.1.2.2.1.1 d.1.2.2.2.2.2.1.1 d.1.2.2.2.2.2.2.1.1) d.2.1) d.2.2.1 d.2.2.2.1 d.2.2.2.2.1
def VO:zX:=⟨[qZu],[(.exit 4,yLb)],VM,fun k d=>qWh (Cc k k) d,fun b x _ K=>K (.exit 4) (zL b yLb (((),(),(x.1,()),(),()),((fO x ()),x.2.2.2.2.2.1,x.2.2.2.2.2.2,())))⟩
def yKr:zE:=sp [sO 6 0,sI 7] [oA .i]
def yNa (f:VQ)(d:yLb.den):=(yU (f d.1.2.2.1.1) d.2.1) d.2.2.1 d.2.2.2.1
def MK:zX:=⟨[yLb],[(.ret,yKr)],(Int×AC),fun k d=>yNa (GL k k) d,fun b x _ K=>K .ret (zL b yKr (((),(x.1,()),()),(x.2,())))⟩
def ML:zY:=⟨[],[(3,MJ),(12,VO),(7,MK)],[],false⟩
theorem vPn:zU prog 1000 0 55 (zO (zS f180) 0) MJ:=lp (A:=ML) MJ (fun d=>(d.1.2.2.1.1,(vG d.2.1 (d.2.2.1,d.2.2.2.1)))) yQ8 w4 Cb (e4 xI HX DZ H3) loops0
theorem yUe:zU prog 1000 0 55 (zO (zO (zS f180) 1) 0) VO:=lp (A:=ML) VO (fun d=>(d.1.2.2.1.1,(vG d.2.1 (d.2.2.1,d.2.2.2.1)))) qWh Cc Cd (e4 xI HX DZ H3) loops0
theorem vK9:zU prog 1000 0 55 (zO (zS f180) 1) MK:=lp (A:=ML) MK (fun d=>(d.1.2.1.1,d.2.1)) yNa GL Ce (e4 xI HX DZ H3) (qC yUe)
def yXn:=zJ 180 [.agg wN,.c (.dat false zF),.c .i] (.tup [(false,[.own .i]),(false,vJ)]) (fun k d=>(gT (KZ k) d)) (fun x=>(x.1,x.2,())) (fun d=>(d.1,d.2.1))
theorem yKx:zD prog yXn:=fA f180 ML (e4 xI HX DZ H3) (nU (n:=2) (by kernel_rfl) fun i hi=>match i,hi with|0,_=>⟨MJ,by kernel_rfl,vPn⟩|1,_=>⟨MK,by kernel_rfl,vK9⟩|i+2,hi=>absurd hi (by omega))
def yB1:zE:=sp [sP 6 0,(7,.c (.dat true zF)),sO 11 1,sO 38 1,sI 39,sI 40] [oB vU,oA zF]
def yB7:zE:=sp [sP 6 0,(7,.c (.dat true zF)),sO 11 1] [oB vU,oA zF]
def yFf (f:VR)(d:yB1.den):=(yU (f d.1.2.1.1 d.1.2.2.2.2.1.1 d.1.2.2.2.2.2.1.1) d.2.1) d.2.2.1
def VT:zX:=⟨[yB1],[(.exit 0,yB7)],Vm,fun k d=>yFf (w5 k k) d,fun b x _ K=>K (.exit 0) (zL b yB7 (((),(x.1,()),(),()),((fO x ()),x.2.2.2.2.2,())))⟩
def yNp:zY:=⟨[],[(8,VT)],[],false⟩
theorem vHo:zU prog 1000 0 56 (zO (zS f142) 0) VT:=lp (A:=yNp) VT (fun d=>(d.1.2.1.1,(vG d.2.1 d.2.2.1))) yFf w5 Cf (e5 yKx xI DZ xJ np) loops0
def yX8:=zJ 142 [.agg iI,.c (.dat true zF),.c .i] (.tup [(true,kO),(false,[.fro zF]),(false,[.own zF])]) (fun k d=>(gT (w6 k) d)) (fun x=>(lD x ())) (fun d=>(kP d))
theorem vMg:zD prog yX8:=fA f142 yNp (e5 yKx xI DZ xJ np) (qC vHo)
def yU6:=zJ 91 [.agg iI,.c (.dat true zF),.c .i,.c .bool] (.tup [(true,kO),(false,[.fro zF]),(false,[.own zF])]) (fun k d=>(j8 (th k) d)) (fun x=>(lD x ())) (fun d=>(kP d))
theorem vSb:zD prog yU6:=fA f91 ⟨[],[],[],false⟩ (e2 yWp vMg) loops0
def yRr:zE:=⟨[sO 3 0,sP 5 1,(8,.c (.dat false zF)),sI 9,sI 10,sO 18 2,sI 19,sI 20],[oA yL,oB vX,oA .i],[(3,none,yL,false)]⟩
def yCe:zE:=sp [sO 3 0,(8,.c (.dat false zF)),sI 9,sI 10] [oA yL]
def yLu (f:VV)(d:yRr.den):=(j8 (f d.1.2.2.1.1 d.1.2.2.2.1.1 d.1.2.2.2.2.1.1 d.1.2.2.2.2.2.2.1.1 d.1.2.2.2.2.2.2.2.1.1 d.2.1) d.2.2.1) d.2.2.2.1
def VW:zX:=⟨[yRr],[(.exit 2,yCe)],VX,fun k d=>yLu (tl k k) d,fun b x _ K=>K (.exit 2) (zL b yCe (((),(x.1,()),(x.2.1,()),(x.2.2.1,()),()),(x.2.2.2,())))⟩
def yHb:zE:=⟨[sO 3 0,(8,.c (.dat false zF)),sI 9,sI 10],[oA yL],[(3,none,yL,false)]⟩
def qW1:zE:=sp [sO 3 0] [oA yL]
def yLz (f:VY)(d:yHb.den):=f d.1.2.1.1 d.1.2.2.1.1 d.1.2.2.2.1.1 d.2.1
def VZ:zX:=⟨[yHb],[(.exit 0,qW1)],V0,fun k d=>yLz (GO k k) d,fun b x _ K=>K (.exit 0) (zL b qW1 (((),()),(x,())))⟩
def V1:zY:=⟨[],[(6,VW),(3,VZ)],[],false⟩
theorem yV5:zU prog 1000 0 41 (zO (zO (zS f92) 0) 0) VW:=lp (A:=V1) VW (fun d=>(d.1.2.1.1,d.1.2.2.1.1,d.1.2.2.2.1.1,d.2.1)) yLu tl tm (e1 tY) loops0
theorem vQm:zU prog 1000 0 41 (zO (zS f92) 0) VZ:=lp (A:=V1) VZ (fun d=>d.2.1) yLz GO Ck (e1 tY) (qC yV5)
def yZl:=zJ 92 [.c (.dat false zF)] (.c (.own yL)) (fun k d=>K3 k d.1) (fun x=>(x,())) (fun d=>d.1)
theorem yZb:zD prog yZl:=fA f92 V1 (e1 tY) (qC vQm)
def yWm:=zJ 35 [.agg rq,.c .bool] (.tup [(true,xK),(false,[.own yL])]) (fun k d=>(HT (qf k) d)) (fun x=>(DX x ())) (fun d=>(DY d))
theorem V2:zD prog yWm:=fA f35 ⟨[],[],[],false⟩ (e2 vSb yZb) loops0
def yGq:zE:=⟨[sP 2 0,sP 3 1,sP 4 2,sO 6 3,sO 7 4,(27,.c (.dat true zF)),sI 28,sI 29],[oB iH,oB mr,oB iS,oA yL,oA zF],[(6,none,yL,false),(7,none,zF,false)]⟩
def ySi:zE:=sp [sP 2 0,sP 3 1,sP 4 2,sO 6 3,sO 7 4] [oB iH,oB mr,oB iS,oA yL,oA zF]
def yDh (f:V3)(d:yGq.den):=(oN (iV (f d.1.2.2.2.2.2.1.1 d.1.2.2.2.2.2.2.1.1 d.1.2.2.2.2.2.2.2.1.1) d.2.1) d.2.2.1) d.2.2.2.1.1 d.2.2.2.1.2.1 d.2.2.2.1.2.2.1 d.2.2.2.2.1 d.2.2.2.2.2.1
def V4:zX:=⟨[yGq],[(.exit 0,ySi)],V5,fun k d=>yDh (Ct k k) d,fun b x _ K=>K (.exit 0) (zL b ySi (((),(),(),(),(),()),((xL x ()),(vAt x ()),(x.2.2.2.2.2.2.2.2.2.2.2.2.2.2.2.2.1,x.2.2.2.2.2.2.2.2.2.2.2.2.2.2.2.2.2.1,x.2.2.2.2.2.2.2.2.2.2.2.2.2.2.2.2.2.2.1,()),x.2.2.2.2.2.2.2.2.2.2.2.2.2.2.2.2.2.2.2.1,x.2.2.2.2.2.2.2.2.2.2.2.2.2.2.2.2.2.2.2.2,())))⟩
def qWo:zY:=⟨[],[(9,V4)],[],false⟩
theorem vBz:zU prog 1000 0 66 (zO (zS f34) 0) V4:=lp (A:=qWo) V4 (fun d=>(xL d.2.1 (tZ d.2.2.1 (d.2.2.2.1.1,d.2.2.2.1.2.1,d.2.2.2.1.2.2.1,d.2.2.2.2.1,d.2.2.2.2.2.1)))) yDh Ct Cu (e6 Me yN3 yQy tY yNn V2) loops0
def vLp:=zJ 34 [.agg fM,.agg rq] (.tup [(true,xK),(false,[.own yL])]) (fun k d=>(qX9 (tp k) d)) (fun x=>(DX x ())) (fun d=>(DY d))
theorem vKd:zD prog vLp:=fA f34 qWo (e6 Me yN3 yQy tY yNn V2) (qC vBz)
def vPj:=vW 81 [.ptr true tW,.agg HZ] (.c .i) [iT] 0 (fun k d=>qYp k (iU d) (yN5 d)) (fun x=>(x.1,(jS x.2 ()))) (fun d=>(d.1,(kN d)))
theorem vEg:zD prog vPj:=fX f81 n0 1 (e4 fN yK2 yGa Mz) loops0
def vPe:=vW 82 [.ptr true tW,.agg vA] (.c .i) [iT] 0 (fun k d=>MM k (iU d) (DU d)) (fun x=>(x.1,(jS x.2 ()))) (fun d=>(d.1,(kN d)))
theorem yUs:zD prog vPe:=fX f82 n0 1 (e8 yJz np qZv fN Uh qUv yJk qY9) loops0
def vHr:=vW 83 [.ptr true tW,.agg vA] (.c .i) [iT] 0 (fun k d=>MN k (iU d) (DU d)) (fun x=>(x.1,(jS x.2 ()))) (fun d=>(d.1,(kN d)))
theorem vPv:zD prog vHr:=fX f83 n0 1 (e3 mq qUa fN) loops0
def vD3:=vW 84 [.ptr true tW,.c (.p .i),.c (.p .i)] (.c .i) [iT] 0 (fun k d=>yM3 k (iU d) d.2.2.2.2.2.2.2.2.2.2.2.2.2.2.2.2.2.2.1 d.2.2.2.2.2.2.2.2.2.2.2.2.2.2.2.2.2.2.2.1) (fun x=>(x.1,(jS x.2 ()))) (fun d=>(d.1,(kN d)))
theorem vFg:zD prog vD3:=fX f84 n0 1 (e6 DV fN qWx DW tU mq) loops0
def yZz:=vW 85 [.ptr true tW,.c (.p .i),.c (.p .i),.c (.p .i)] (.c .i) [iT] 0 (fun k d=>CK k (iU d) d.2.2.2.2.2.2.2.2.2.2.2.2.2.2.2.2.2.2.1 d.2.2.2.2.2.2.2.2.2.2.2.2.2.2.2.2.2.2.2.1 d.2.2.2.2.2.2.2.2.2.2.2.2.2.2.2.2.2.2.2.2.1) (fun x=>(x.1,(jS x.2 ()))) (fun d=>(d.1,(kN d)))
theorem vBg:zD prog yZz:=fX f85 n0 1 (e5 fN yCy yM9 yGi mq) loops0
def qW4:zE:=sp [sP 0 0,sO 7 1,sP 8 2,(40,.c (.dat true (.sl .i))),sI 41,sI 42] [oB V6,oA .i,oB oQ,oA yC,.mat,oA .i,.mat]
def qX4:zE:=sp [sP 0 0,sO 7 1,sP 8 2] [oB V6,oA .i,oB oQ,oA yC,.mat,oA .i,.mat]
def qVq:zE:=sp [sP 0 0,sI 6] [oB V6]
def yN4 (f:V7)(d:qW4.den):=f d.1.2.2.2.1.1 d.1.2.2.2.2.1.1 d.1.2.2.2.2.2.1.1 (iU d.2.1) d.2.2.1 d.2.2.2.2.1 d.2.2.2.2.2.1 d.2.2.2.2.2.2.1 d.2.2.2.2.2.2.2.1
def V8:zX:=⟨[qW4],[(.exit 0,qX4),(.ret,qVq)],Wa,fun k d=>yN4 (qp k k) d,fun b x _ K=>match x with|.inl x=>K (.exit 0) (zL b qX4 (((),(),(),()),((vD x.1 ()),x.2.1,(),x.2.2.1,x.2.2.2.1,x.2.2.2.2.1,x.2.2.2.2.2,())))|.inr x=>K .ret (zL b qVq (((),(x.1,()),()),((vD x.2 ()),())))⟩
def qX5:zY:=⟨[],[(6,V8)],[],true⟩
theorem vEw:zU prog 1000 1 81 (zO (zS f86) 0) V8:=lp (A:=qX5) V8 (fun d=>match d with|.inl d=>.inl ((iU d.2.1),d.2.2.1,d.2.2.2.2.1,d.2.2.2.2.2.1,d.2.2.2.2.2.2.1,d.2.2.2.2.2.2.2.1)|.inr d=>.inr (d.1.2.1.1,(iU d.2.1))) yN4 qp CP (e5 DV fN DW mq tU) loops0
def yYp:=vW 86 [.ptr true tW,.c (.p .i),.c (.p .i)] (.c .i) [iT] 0 (fun k d=>Ls k (iU d) d.2.2.2.2.2.2.2.2.2.2.2.2.2.2.2.2.2.2.1 d.2.2.2.2.2.2.2.2.2.2.2.2.2.2.2.2.2.2.2.1) (fun x=>(x.1,(jS x.2 ()))) (fun d=>(d.1,(kN d)))
theorem vDr:zD prog yYp:=fX f86 qX5 1 (e5 DV fN DW mq tU) (qC vEw)
def vJs:=vW 33 [.ptr true tW,.agg vA] (.c .i) [iT] 0 (fun k d=>Dp k (iU d) (DU d)) (fun x=>(x.1,(jS x.2 ()))) (fun d=>(d.1,(kN d)))
theorem vNw:zD prog vJs:=fX f33 n0 1 (e6 vEg yUs vPv vFg vBg vDr) loops0
def qLy:=zJ 11 [.agg H5,.agg rq,.agg DT] (.tup [(true,xK),(false,[.own yL]),(false,vJ)]) (fun k d=>Hv k (qX d) (mn d) (xF d)) (fun x=>(jP x.1 (x.2.1,x.2.2,()))) (fun d=>((qR d),d.2.2.2.2.2.2.2.2.2.2.2.1,d.2.2.2.2.2.2.2.2.2.2.2.2.1))
theorem yDs:zD prog qLy:=fA f11 n0 (e9 vNs vDu qZv vMo vKd V2 tV yDi vNw) loops0
def yBt:=zJ 26 [.agg H5,.agg rq,.agg DT] (.tup [(true,xK),(false,[.own yL]),(false,vJ)]) (fun k d=>Wb k (qX d) (mn d) (xF d)) (fun x=>(jP x.1 (x.2.1,x.2.2,()))) (fun d=>((qR d),d.2.2.2.2.2.2.2.2.2.2.2.1,d.2.2.2.2.2.2.2.2.2.2.2.2.1))
theorem vQ0:zD prog yBt:=fA f26 n0 (e1 yDs) loops0
def qKo:=zJ 10 [] (.c .bool) (fun k d=>R4 k) (fun x=>(x,())) (fun d=>d.1)
theorem yZ0:zD prog qKo:=fA f10 n0 (Aq (l:=[yLj,yDg,yD1,yBt,yFm]) (eqT:=fun t=>[39].any (Nat.beq t)) (Ep (fun t h=>E0 (p:=fun t=>prog.keyTypeAt 8 t&& !prog.eqGuardType prog.depth t) (l:=[39]) (List.forall_mem_cons.2 ⟨by kernel_rfl,List.forall_mem_nil _⟩) t h)) fl ⟨yUb,yZn,yYm,vQ0,oP,trivial⟩) loops0
def vCr:=zJ 95 [.c .i] (.c .bool) (fun k d=>LL k d.1) (fun x=>(x,())) (fun d=>d.1)
theorem yYs:zD prog vCr:=fA f95 n0 e0 loops0
def vH7:=zJ 143 [.c .i] (.c .i) (fun k d=>RV k d.1) (fun x=>(x,())) (fun d=>d.1)
theorem yLv:zD prog vH7:=fA f143 n0 e0 loops0
def yQc:zE:=sp [sP 1 0,sI 3,sI 4] [oB vX]
def yH3 (f:Wc)(d:yQc.den):=f d.1.2.1.1 d.1.2.2.1.1 (wC d.2.1)
def Wd:zX:=⟨[yQc],[(.exit 0,yNe),(.ret,qV9)],(Int⊕Bool),fun k d=>yH3 (Dl k k) d,fun b x _ K=>match x with|.inl x=>K (.exit 0) (zL b yNe (((x,()),()),()))|.inr x=>K .ret (zL b qV9 (((x,()),()),()))⟩
def yR4:zY:=⟨[],[(3,Wd)],[],true⟩
theorem vDh:zU prog 1000 0 21 (zO (zS f96) 0) Wd:=lp (A:=yR4) Wd (fun d=>match d with|.inl d=>.inl d.1.1.1|.inr d=>.inr d.1.1.1) yH3 Dl RU (e1 yLv) loops0
def vPq:=zJ 96 [.agg vA] (.c .bool) (fun k d=>Dm k (wC d)) (fun x=>(x,())) (fun d=>d.1)
theorem vFc:zD prog vPq:=fA f96 yR4 (e1 yLv) (qC vDh)
def vOa:=zJ 97 [.c .i] (.c .bool) (fun k d=>LM k d.1) (fun x=>(x,())) (fun d=>d.1)
theorem yXw:zD prog vOa:=fA f97 n0 e0 loops0
def vI4:=zJ 37 [.agg fM,.agg DT] (.c .bool) (fun k d=>xq k (qX d) (yYo d)) (fun x=>(x,())) (fun d=>d.1)
theorem yY2:zD prog vI4:=fA f37 n0 (e3 yYs vFc yXw) loops0
def yBp:zE:=⟨[(0,.c (.dat false zF)),sI 1,sO 5 0,sI 6],[oA zF],[(5,none,zF,false)]⟩
def yD2 (f:We)(d:yBp.den):=f d.1.1.1 d.1.2.1.1 d.1.2.2.2.1.1 d.2.1
def Wg:zX:=⟨[yBp],[(.exit 0,yNg)],Uf,fun k d=>yD2 (Gd k k) d,fun b x _ K=>K (.exit 0) (zL b yNg (((),()),(x,())))⟩
def yAb:zY:=⟨[],[(3,Wg)],[],false⟩
theorem yW7:zU prog 1000 0 28 (zO (zS f38) 0) Wg:=lp (A:=yAb) Wg (fun d=>d.2.1) yD2 Gd Br e0 loops0
def Wi:=zJ 38 [.c (.dat false zF),.c .i] (.c (.own zF)) (fun k d=>pY k d.1 d.2.1) (fun x=>(x,())) (fun d=>d.1)
theorem ub:zD prog Wi:=fA f38 yAb e0 (qC yW7)
def vCk:=zJ 98 [.agg fM,.c .i] (.c .bool) (fun k d=>LI k (qX d) d.2.2.2.2.2.1) (fun x=>(x,())) (fun d=>d.1)
theorem MO:zD prog vCk:=fA f98 n0 e0 loops0
def vPz:=zJ 99 [.agg vA,.c .i] (.c .bool) (fun k d=>(j7 (RM k) d)) (fun x=>(x,())) (fun d=>d.1)
theorem MP:zD prog vPz:=fA f99 ⟨[],[],[],false⟩ e0 loops0
def yWa:=zJ 100 [.c (.dat true zF),.c .i] (.tup [(false,[.fro zF]),(true,oO),(false,vJ)]) (fun k d=>ly k d.1 d.2.1) (fun x=>(MA x ())) (fun d=>(MB d))
theorem j9:zD prog yWa:=fA f100 ⟨[],[],[],false⟩ (e1 DQ) loops0
def vNc:=zJ 101 [.agg fM,.c .i] (.c .bool) (fun k d=>Hr k (qX d) d.2.2.2.2.2.1) (fun x=>(x,())) (fun d=>d.1)
theorem MQ:zD prog vNc:=fA f101 n0 e0 loops0
def vBq:=zJ 216 [.agg vA,.c .i] (.c .bool) (fun k d=>(j7 (Qy k) d)) (fun x=>(x,())) (fun d=>d.1)
theorem yMf:zD prog vBq:=fA f216 ⟨[],[],[],false⟩ e0 loops0
def qV1 (f:We)(d:yBp.den):=f d.1.1.1 d.1.2.1.1 d.1.2.2.2.1.1 d.2.1
def Wk:zX:=⟨[yBp],[(.exit 0,yNg)],Uf,fun k d=>qV1 (Gc k k) d,fun b x _ K=>K (.exit 0) (zL b yNg (((),()),(x,())))⟩
def yNc:zY:=⟨[],[(3,Wk)],[],false⟩
theorem vKr:zU prog 1000 0 27 (zO (zS f191) 0) Wk:=lp (A:=yNc) Wk (fun d=>d.2.1) qV1 Gc Bq (e1 yMf) loops0
def Wm:=zJ 191 [.c (.dat false zF),.c .i] (.c (.own zF)) (fun k d=>Bp k d.1 d.2.1) (fun x=>(x,())) (fun d=>d.1)
theorem xM:zD prog Wm:=fA f191 yNc (e1 yMf) (qC vKr)
def yBd:zE:=sp [sO 5 0,sO 6 1,sI 7,sO 8 2,(9,.c .bool),sI 10] [oA zF,oA zF,oA zF]
def ySn:zE:=sp [sO 5 0,sO 6 1,sI 7,sO 8 2,(9,.c .bool)] [oA zF,oA zF,oA zF]
def yHh (f:Wn)(d:yBd.den):=f d.1.2.2.1.1 d.1.2.2.2.2.1.1 d.1.2.2.2.2.2.1.1 d.2.1 d.2.2.1 d.2.2.2.1
def Wo:zX:=⟨[yBd],[(.exit 2,ySn)],Wp,fun k d=>yHh (Bt k k) d,fun b x _ K=>K (.exit 2) (zL b ySn (((),(),(x.1,()),(),(x.2.1,()),()),(x.2.2.1,x.2.2.2.1,x.2.2.2.2,())))⟩
def yKc:zE:=⟨[sO 5 0,sO 6 1,sI 7],[oA zF,oA zF],[(6,none,zF,false)]⟩
def qW8:zE:=sp [sO 6 0] [oA zF]
def yBv (f:Wq)(d:yKc.den):=f d.1.2.2.1.1 d.2.1 d.2.2.1
def Wr:zX:=⟨[yKc],[(.exit 0,qW8)],Uf,fun k d=>yBv (Gf k k) d,fun b x _ K=>K (.exit 0) (zL b qW8 (((),()),(x,())))⟩
def vIw:Env:=⟨prog,fun t=>[97].any (Nat.beq t),jQ [Wm,Wi]⟩
theorem Wt:jA vIw:=Aq (l:=[Wm,Wi]) (eqT:=fun t=>[97].any (Nat.beq t)) (Ep (fun t h=>E0 (p:=fun t=>prog.keyTypeAt 8 t&& !prog.eqGuardType prog.depth t) (l:=[97]) (List.forall_mem_cons.2 ⟨by kernel_rfl,List.forall_mem_nil _⟩) t h)) fl ⟨xM,ub,trivial⟩
def Wu:zY:=⟨[],[(9,Wo),(4,Wr)],[],false⟩
theorem vGf:zU prog 1000 0 61 (zO (zO (zS f229) 0) 0) Wo:=lp (A:=Wu) Wo (fun d=>(d.1.2.2.1.1,d.1.2.2.2.2.1.1,d.2.1,d.2.2.1,d.2.2.2.1)) yHh Bt Bu Wt loops0
theorem vM7:zU prog 1000 0 61 (zO (zS f229) 0) Wr:=lp (A:=Wu) Wr (fun d=>d.2.1) yBv Gf Bv Wt (qC vGf)
def vKa:=zJ 229 [.c (.dat false zF),.c .i] (.c (.own zF)) (fun k d=>Ge k d.1 d.2.1) (fun x=>(x,())) (fun d=>d.1)
theorem H6:zD prog vKa:=fA f229 Wu Wt (qC vM7)
def yMk:zE:=sp [(1,.c (.dat false zF)),sP 2 0,sI 5] [oB wS]
def yEa:zE:=sp [(1,.c (.dat false zF))] []
def yGe (f:Wv)(d:yMk.den):=(yU (f d.1.1.1 d.1.2.2.1.1) d.2.1)
def Ww:zX:=⟨[yMk],[(.exit 0,yEa),(.ret,qWq)],SU,fun k d=>yGe (FR k k) d,fun b x _ K=>match x with|.inl x=>K (.exit 0) (zL b yEa (((x,()),()),()))|.inr x=>K .ret (zL b qWq (((x,()),()),()))⟩
def yFe:zY:=⟨[],[(2,Ww)],[],false⟩
theorem vKl:zU prog 1000 0 22 (zO (zS f217) 0) Ww:=lp (A:=yFe) Ww (fun d=>match d with|.inl d=>.inl d.1.1.1|.inr d=>.inr d.1.1.1) yGe FR AT (e1 Mo) loops0
def vBj:=zJ 217 [.agg wN,.c (.dat false zF)] (.c .bool) (fun k d=>(iV (FQ k) d)) (fun x=>(x,())) (fun d=>d.1)
theorem MR:zD prog vBj:=fA f217 yFe (e1 Mo) (qC vKl)
def qVd:zE:=⟨[(0,.c (.dat false (.sl .i))),sO 3 0,sI 4],[.mat],[(3,none,(.sl .i),true)]⟩
def yPw:zE:=sp [sO 3 0] [.mat]
def yB0 (f:Wy)(d:qVd.den):=f d.1.1.1 d.1.2.2.1.1 d.2.1
def Wz:zX:=⟨[qVd],[(.exit 0,yPw)],EQ,fun k d=>yB0 (FD k k) d,fun b x _ K=>K (.exit 0) (zL b yPw (((),()),(x,())))⟩
def yDo:zY:=⟨[18,19],[(3,Wz)],[],false⟩
theorem vAq:zU prog 1000 0 21 (zO (zS f186) 0) Wz:=lp (A:=yDo) Wz (fun d=>d.2.1) yB0 FD AL e0 loops0
def vMd:=zJ 186 [.c (.dat false (.sl .i))] (.c (.mat)) (fun k d=>FE k d.1) (fun x=>(x,())) (fun d=>d.1)
theorem yT6:zD prog vMd:=fA f186 yDo e0 (qC vAq)
def vRk:=zJ 153 [.agg wN] (.agg [.own yC,.mat,.own .i,.mat]) (fun k d=>(yU (mb k) d)) (fun x=>(rp x ())) (fun d=>(rj d))
theorem uc:zD prog vRk:=fA f153 ⟨[],[],[],false⟩ (e1 yT6) loops0
def qV7:zE:=sp [(0,.c (.dat false zF)),sI 1,sI 6,sI 7,sI 8] []
def yJs:zE:=sp [sI 6,sI 7] []
def yBk (f:WA)(d:qV7.den):=f d.1.1.1 d.1.2.1.1 d.1.2.2.1.1 d.1.2.2.2.1.1 d.1.2.2.2.2.1.1
def WB:zX:=⟨[qV7],[(.exit 0,yJs)],wD,fun k d=>yBk (FV k k) d,fun b x _ K=>K (.exit 0) (zL b yJs (((x.1,()),(x.2,()),()),()))⟩
def yPj:zY:=⟨[],[(3,WB)],[],false⟩
theorem vPi:zU prog 1000 0 46 (zO (zS f232) 0) WB:=lp (A:=yPj) WB (fun d=>(d.1.1.1,d.1.2.1.1)) yBk FV AZ e0 loops0
def vMf:=zJ 232 [.c (.dat false zF),.c .i] (.tup [(false,vJ),(false,vJ)]) (fun k d=>FU k d.1 d.2.1) (fun x=>(x.1,x.2,())) (fun d=>(d.1,d.2.1))
theorem WC:zD prog vMf:=fA f232 yPj e0 (qC vPi)
def vP2:=zJ 219 [.c (.dat false zF),.c .i] (.c .i) (fun k d=>Ke k d.1 d.2.1) (fun x=>(x,())) (fun d=>d.1)
theorem WD:zD prog vP2:=fA f219 ⟨[],[],[],false⟩ (e1 WC) loops0
def vCx:=zJ 218 [.agg lB,.c .i] (.c .i) (fun k d=>(yU (FW k) d)) (fun x=>(x,())) (fun d=>d.1)
theorem H7:zD prog vCx:=fA f218 ⟨[],[],[],false⟩ e0 loops0
def yEz:zE:=sp [(0,.c (.dat false zF)),sI 1,sI 2,sI 7,sI 8] []
def qTv:zE:=sp [sI 7] []
def yHs (f:WE)(d:yEz.den):=f d.1.1.1 d.1.2.1.1 d.1.2.2.1.1 d.1.2.2.2.1.1 d.1.2.2.2.2.1.1
def WG:zX:=⟨[yEz],[(.exit 0,qTv)],Int,fun k d=>yHs (FT k k) d,fun b x _ K=>K (.exit 0) (zL b qTv (((x,()),()),()))⟩
def qZy:zY:=⟨[],[(3,WG)],[],false⟩
theorem vFi:zU prog 1000 0 39 (zO (zS f233) 0) WG:=lp (A:=qZy) WG (fun d=>d.1.1.1) yHs FT AY e0 loops0
def vDp:=zJ 233 [.c (.dat false zF),.c .i,.c .i] (.c .i) (fun k d=>sR k d.1 d.2.1 d.2.2.1) (fun x=>(x,())) (fun d=>d.1)
theorem WH:zD prog vDp:=fA f233 qZy e0 (qC vFi)
def vFu:=zJ 220 [.c (.dat false zF),.c .i,.c .i] (.c .i) (fun k d=>Kb k d.1 d.2.1 d.2.2.1) (fun x=>(x,())) (fun d=>d.1)
theorem WI:zD prog vFu:=fA f220 ⟨[],[],[],false⟩ (e1 WH) loops0
def yLa:zE:=sp [(1,.c (.dat false zF)),sP 2 0,sP 4 1,sP 6 2,sI 7,sI 8] [oB vU,oB lC,oB oQ,oA yC,.mat,oA .i,.mat]
def qT7:zE:=sp [(1,.c (.dat false zF)),sP 2 0,sP 4 1,sP 6 2,sI 7] [oB vU,oB lC,oB oQ,oA yC,.mat,oA .i,.mat]
def yKd (f:WJ)(d:yLa.den):=(yU (f d.1.1.1 d.1.2.2.2.2.1.1 d.1.2.2.2.2.2.1.1) d.2.1) d.2.2.2.2.1 d.2.2.2.2.2.1 d.2.2.2.2.2.2.1 d.2.2.2.2.2.2.2.1
def WK:zX:=⟨[yLa],[(.exit 2,qT7)],WL,fun k d=>yKd (A0 k k) d,fun b x _ K=>K (.exit 2) (zL b qT7 (((x.1,()),(),(),(),(x.2.1,()),()),((Mv x ()),(),(),x.2.2.2.2.2.2.1,x.2.2.2.2.2.2.2.1,x.2.2.2.2.2.2.2.2.1,x.2.2.2.2.2.2.2.2.2,())))⟩
def yG5:zE:=sp [sP 2 0,sP 4 1,sP 6 2] [oB vU,oB lC,oB oQ,oA yC,.mat,oA .i,.mat]
def qU9 (f:WM)(d:qT7.den):=(yU (f d.1.1.1 d.1.2.2.2.2.1.1) d.2.1) d.2.2.2.2.1 d.2.2.2.2.2.1 d.2.2.2.2.2.2.1 d.2.2.2.2.2.2.2.1
def WN:zX:=⟨[qT7],[(.exit 0,yG5)],Vf,fun k d=>qU9 (A3 k k) d,fun b x _ K=>K (.exit 0) (zL b yG5 (((),(),(),()),((vG x ()),(),(),x.2.2.2.2.1,x.2.2.2.2.2.1,x.2.2.2.2.2.2.1,x.2.2.2.2.2.2.2,())))⟩
def WQ:zY:=⟨[],[(9,WK),(5,WN)],[],false⟩
theorem vCy:zU prog 1000 0 84 (zO (zO (zS f192) 0) 0) WK:=lp (A:=WQ) WK (fun d=>(d.1.1.1,d.1.2.2.2.2.1.1,(vG d.2.1 (d.2.2.2.2.1,d.2.2.2.2.2.1,d.2.2.2.2.2.2.1,d.2.2.2.2.2.2.2.1)))) yKd A0 A2 (e6 MR uc WD H7 WI HU) loops0
theorem vCe:zU prog 1000 0 84 (zO (zS f192) 0) WN:=lp (A:=WQ) WN (fun d=>(vG d.2.1 (d.2.2.2.2.1,d.2.2.2.2.2.1,d.2.2.2.2.2.2.1,d.2.2.2.2.2.2.2.1))) qU9 A3 A4 (e6 MR uc WD H7 WI HU) (qC vCy)
def yWq:=zJ 192 [.agg iI,.c (.dat false zF)] (.tup [(true,kO),(false,vJ)]) (fun k d=>(iV (wc k) d)) (fun x=>(eW x ())) (fun d=>(qX d))
theorem WR:zD prog yWq:=fA f192 WQ (e6 MR uc WD H7 WI HU) (qC vCe)
def yEy:zE:=sp [sI 1,sP 2 0,sI 5,sI 6] [oB wS]
def yJ8 (f:qOp)(d:yEy.den):=(yU (f d.1.1.1 d.1.2.2.1.1 d.1.2.2.2.1.1) d.2.1)
def WS:zX:=⟨[yEy],[(.exit 0,yS1)],Int,fun k d=>yJ8 (A5 k k) d,fun b x _ K=>K (.exit 0) (zL b yS1 (((x,()),()),()))⟩
def qZn:zY:=⟨[],[(3,WS)],[],false⟩
theorem vKg:zU prog 1000 0 28 (zO (zS f242) 0) WS:=lp (A:=qZn) WS (fun d=>d.1.1.1) yJ8 A5 A6 e0 loops0
def vO1:=zJ 242 [.agg wN,.c .i] (.c .i) (fun k d=>(iV (Ki k) d)) (fun x=>(x,())) (fun d=>d.1)
theorem yJ3:zD prog vO1:=fA f242 qZn e0 (qC vKg)
def yPk:zE:=sp [(1,.c (.dat false zF)),sI 2,sP 3 0,sI 7,sI 8,sI 9,sI 10,sI 11] [oB wS]
def yAd:zE:=sp [sI 2,sP 3 0,sI 7,sI 8,sI 9,sI 10] [oB wS]
def yP6 (f:WT)(d:yPk.den):=(yU (f d.1.1.1 d.1.2.1.1 d.1.2.2.2.1.1 d.1.2.2.2.2.1.1 d.1.2.2.2.2.2.1.1 d.1.2.2.2.2.2.2.1.1 d.1.2.2.2.2.2.2.2.1.1) d.2.1)
def WU:zX:=⟨[yPk],[(.exit 0,yAd),(.ret,qY2)],WV,fun k d=>yP6 (ow k k) d,fun b x _ K=>match x with|.inl x=>K (.exit 0) (zL b yAd (((x.1,()),(),(x.2.1,()),(x.2.2.1,()),(x.2.2.2.1,()),(x.2.2.2.2.1,()),()),((vMp x ()),())))|.inr x=>K .ret (zL b qY2 (((x,()),()),()))⟩
def yQz:zY:=⟨[],[(7,WU)],[],false⟩
theorem vMx:zU prog 1000 0 130 (zO (zS f231) 0) WU:=lp (A:=yQz) WU (fun d=>match d with|.inl d=>.inl (d.1.1.1,d.1.2.2.1.1,d.1.2.2.2.1.1,d.1.2.2.2.2.1.1,d.1.2.2.2.2.2.1.1,(rj d.2.1))|.inr d=>.inr d.1.1.1) yP6 ow A8 (e4 WC yJ3 WH H7) loops0
def vGd:=zJ 231 [.agg wN,.c (.dat false zF),.c .i] (.c .bool) (fun k d=>(gT (Km k) d)) (fun x=>(x,())) (fun d=>d.1)
theorem yFk:zD prog vGd:=fA f231 yQz (e4 WC yJ3 WH H7) (qC vMx)
def yGm:zE:=⟨[(1,.c (.dat false zF)),sP 2 0,sO 5 1,sI 6],[oB wS,oA .i],[(5,none,.i,false)]⟩
def qYs (f:WW)(d:yGm.den):=(yU (f d.1.1.1 d.1.2.2.2.1.1) d.2.1) d.2.2.1
def WX:zX:=⟨[yGm],[(.exit 0,yDn)],AC,fun k d=>qYs (pW k k) d,fun b x _ K=>K (.exit 0) (zL b yDn (((),()),(x,())))⟩
def yO4:zY:=⟨[],[(3,WX)],[],false⟩
theorem yVj:zU prog 1000 0 23 (zO (zS f215) 0) WX:=lp (A:=yO4) WX (fun d=>d.2.1) qYs pW oz (e1 yFk) loops0
def vLg:=zJ 215 [.agg wN,.c (.dat false zF)] (.c (.own .i)) (fun k d=>(iV (pV k) d)) (fun x=>(x,())) (fun d=>d.1)
theorem H8:zD prog vLg:=fA f215 yO4 (e1 yFk) (qC yVj)
def vNg:=zJ 230 [.agg wN,.c (.dat false zF)] (.c .bool) (fun k d=>(iV (FY k) d)) (fun x=>(x,())) (fun d=>d.1)
theorem vE7:zD prog vNg:=fA f230 ⟨[],[],[],false⟩ (e2 MR H8) loops0
def vLh:=zJ 213 [.agg iI,.c (.dat false zF)] (.tup [(true,kO),(false,[.bool])]) (fun k d=>(iV (qu k) d)) (fun x=>(eW x ())) (fun d=>(qX d))
theorem rr:zD prog vLh:=fA f213 ⟨[],[],[],false⟩ (e2 WR vE7) loops0
def qXp:zE:=sp [sP 3 0,sP 6 1,sO 8 2,sI 9] [oB vU,oB vX,oA zF]
def yF0:zE:=sp [sP 6 0] [oB vX]
def yDm:zE:=sp [sP 6 0,(7,.c .bool)] [oB vX]
def ySd (f:WY)(d:qXp.den):=(j8 (yU (f d.1.2.2.2.1.1) d.2.1) d.2.2.1) d.2.2.2.1
def WZ:zX:=⟨[qXp],[(.exit 0,yF0),(.ret,yDm)],W0,fun k d=>ySd (Hg k k) d,fun b x _ K=>match x with|.inl x=>K (.exit 0) (zL b yF0 (((),()),((gg x ()),())))|.inr x=>K .ret (zL b yDm (((),(x.1,()),()),((qXr x ()),())))⟩
def qZk:zY:=⟨[],[(3,WZ)],[],false⟩
theorem vKu:zU prog 1000 0 37 (zO (zS f212) 0) WZ:=lp (A:=qZk) WZ (fun d=>match d with|.inl d=>.inl (wC d.2.1)|.inr d=>.inr (d.1.2.1.1,(wC d.2.1))) ySd Hg CW (e2 H6 rr) loops0
def yUk:=zJ 212 [.agg iI,.c (.dat true zF),.c .i] (.tup [(true,oO),(false,[.bool])]) (fun k d=>(gT (LA k) d)) (fun x=>(Mu x ())) (fun d=>(DS d))
theorem yBq:zD prog yUk:=fA f212 qZk (e2 H6 rr) (qC vKu)
def yAu:zE:=⟨[(1,.c (.dat true zF)),sI 2,sP 3 0,sP 6 1,sO 9 2],[oB vU,oB lC,oA zF],[(9,none,zF,false)]⟩
def yFv (f:W1)(d:yAu.den):=(yU (f d.1.1.1 d.1.2.1.1) d.2.1) d.2.2.2.1
def W2:zX:=⟨[yAu],[(.ret,yEm)],Vm,fun k d=>yFv (Hh k k) d,fun b x _ K=>K .ret (zL b yEm (((),(x.1,()),(),()),((fO x ()),x.2.2.2.2.2,())))⟩
def yNx:zY:=⟨[],[(2,W2)],[],false⟩
theorem vNj:zU prog 1000 0 43 (zO (zS f187) 0) W2:=lp (A:=yNx) W2 (fun d=>(d.1.2.1.1,(vG d.2.1 d.2.2.1))) yFv Hh CX (e3 yBq rr j9) loops0
def vRt:=zJ 187 [.agg iI,.c (.dat true zF),.c .i] (.tup [(true,kO),(false,[.fro zF]),(false,[.own zF])]) (fun k d=>(gT (LB k) d)) (fun x=>(lD x ())) (fun d=>(kP d))
theorem yN6:zD prog vRt:=fA f187 yNx (e3 yBq rr j9) (qC vNj)
def yQw:zE:=sp [sP 3 0,sP 6 1,sP 7 2,sO 9 3,sI 10,sI 11] [oB vU,oB vX,oB vX,oA zF]
def yNd:zE:=sp [sP 3 0,sP 6 1,sP 7 2,sO 9 3,sI 10] [oB vU,oB vX,oB vX,oA zF]
def yIx:zE:=sp [sP 6 0,sP 7 1,(8,.c .bool)] [oB vX,oB vX]
def yQt (f:W4)(d:yQw.den):=(j8 (j8 (yU (f d.1.2.2.2.2.1.1 d.1.2.2.2.2.2.1.1) d.2.1) d.2.2.1) d.2.2.2.1) d.2.2.2.2.1
def W5:zX:=⟨[yQw],[(.exit 2,yNd),(.ret,yIx)],W6,fun k d=>yQt (Hj k k) d,fun b x _ K=>match x with|.inl x=>K (.exit 2) (zL b yNd (((),(),(),(),(x.1,()),()),((fO x ()),(yTg x ()),(yXb x ()),x.2.2.2.2.2.2.2.2.2.2.2.2.2.2.2.2.2.2.2,())))|.inr x=>K .ret (zL b yIx (((),(),(x.1,()),()),((Vj x ()),(yA8 x ()),())))⟩
def yOw:zE:=sp [sP 6 0,sP 7 1] [oB vX,oB vX]
def yLc (f:W7)(d:yNd.den):=(j8 (j8 (yU (f d.1.2.2.2.2.1.1) d.2.1) d.2.2.1) d.2.2.2.1) d.2.2.2.2.1
def W8:zX:=⟨[yNd],[(.exit 0,yOw),(.ret,yIx)],W9,fun k d=>yLc (Hk k k) d,fun b x _ K=>match x with|.inl x=>K (.exit 0) (zL b yOw (((),(),()),((gP x ()),(yBi x ()),())))|.inr x=>K .ret (zL b yIx (((),(),(x.1,()),()),((Vj x ()),(yA8 x ()),())))⟩
def Xa:zY:=⟨[],[(6,W5),(3,W8)],[],false⟩
theorem vC5:zU prog 1000 0 71 (zO (zO (zS f214) 0) 0) W5:=lp (A:=Xa) W5 (fun d=>match d with|.inl d=>.inl (d.1.2.2.2.2.1.1,(vG d.2.1 (gP d.2.2.1 (gP d.2.2.2.1 d.2.2.2.2.1))))|.inr d=>.inr (d.1.2.2.1.1,(gP d.2.1 (wC d.2.2.1)))) yQt Hj CY (e2 H6 rr) loops0
theorem vBd:zU prog 1000 0 71 (zO (zS f214) 0) W8:=lp (A:=Xa) W8 (fun d=>match d with|.inl d=>.inl (gP d.2.1 (wC d.2.2.1))|.inr d=>.inr (d.1.2.2.1.1,(gP d.2.1 (wC d.2.2.1)))) yLc Hk CZ (e2 H6 rr) (qC vC5)
def yX0:=zJ 214 [.agg iI,.c (.dat true zF),.c .i] (.tup [(true,oO),(true,oO),(false,[.bool])]) (fun k d=>(gT (LC k) d)) (fun x=>(yH4 x ())) (fun d=>(qUr d))
theorem yMu:zD prog yX0:=fA f214 Xa (e2 H6 rr) (qC vBd)
def qY4 (f:W1)(d:yAu.den):=(yU (f d.1.1.1 d.1.2.1.1) d.2.1) d.2.2.2.1
def Xc:zX:=⟨[yAu],[(.ret,yEm)],Vm,fun k d=>qY4 (Hl k k) d,fun b x _ K=>K .ret (zL b yEm (((),(x.1,()),(),()),((fO x ()),x.2.2.2.2.2,())))⟩
def yC3:zY:=⟨[],[(2,Xc)],[],false⟩
theorem vBh:zU prog 1000 0 55 (zO (zS f188) 0) Xc:=lp (A:=yC3) Xc (fun d=>(d.1.2.1.1,(vG d.2.1 d.2.2.1))) qY4 Hl C3 (e3 yMu rr j9) loops0
def yXa:=zJ 188 [.agg iI,.c (.dat true zF),.c .i] (.tup [(true,kO),(false,[.fro zF]),(false,[.own zF])]) (fun k d=>(gT (LD k) d)) (fun x=>(lD x ())) (fun d=>(kP d))
theorem yOg:zD prog yXa:=fA f188 yC3 (e3 yMu rr j9) (qC vBh)
def qUn (f:W1)(d:yAu.den):=(yU (f d.1.1.1 d.1.2.1.1) d.2.1) d.2.2.2.1
def Xf:zX:=⟨[yAu],[(.ret,yEm)],Vm,fun k d=>qUn (Ho k k) d,fun b x _ K=>K .ret (zL b yEm (((),(x.1,()),(),()),((fO x ()),x.2.2.2.2.2,())))⟩
def qYz:zY:=⟨[],[(2,Xf)],[],false⟩
theorem vAu:zU prog 1000 0 45 (zO (zS f156) 0) Xf:=lp (A:=qYz) Xf (fun d=>(d.1.2.1.1,(vG d.2.1 d.2.2.1))) qUn Ho Dc (e2 yN6 yOg) loops0
def vF8:=zJ 156 [.agg iI,.c (.dat true zF),.c .i] (.tup [(true,kO),(false,[.fro zF]),(false,[.own zF])]) (fun k d=>(gT (Hq k) d)) (fun x=>(lD x ())) (fun d=>(kP d))
theorem vAh:zD prog vF8:=fA f156 qYz (e2 yN6 yOg) (qC vAu)
def yEl:zE:=⟨[(0,.c (.dat false zF)),(1,.c (.dat false .i)),sO 5 0,sI 6],[oA zF],[(5,none,zF,false)]⟩
def yAa (f:Xh)(d:yEl.den):=f d.1.1.1 d.1.2.1.1 d.1.2.2.2.1.1 d.2.1
def Xi:zX:=⟨[yEl],[(.exit 0,yNg)],Uf,fun k d=>yAa (C5 k k) d,fun b x _ K=>K (.exit 0) (zL b yNg (((),()),(x,())))⟩
def yJ7:zY:=⟨[],[(3,Xi)],[],false⟩
theorem vJm:zU prog 1000 0 60 (zO (zS f190) 0) Xi:=lp (A:=yJ7) Xi (fun d=>d.2.1) yAa C5 C6 (e1 ub) loops0
def yZc:=zJ 190 [.c (.dat false zF),.c (.dat false .i)] (.c (.own zF)) (fun k d=>C4 k d.1 d.2.1) (fun x=>(x,())) (fun d=>d.1)
theorem D2:zD prog yZc:=fA f190 yJ7 (e1 ub) (qC vJm)
def yNo:zE:=⟨[sP 3 0,sO 8 1,sO 9 2,sI 10],[oB wS,oA zF,oA .i],[(9,none,.i,false)]⟩
def qYn:zE:=sp [sP 3 0,sO 8 1,sO 9 2] [oB wS,oA zF,oA .i]
def qUh (f:Xk)(d:yNo.den):=(yU (f d.1.2.2.2.1.1) d.2.1) d.2.2.1 d.2.2.2.1
def MS:zX:=⟨[yNo],[(.exit 0,qYn)],Xl,fun k d=>qUh (xo k k) d,fun b x _ K=>K (.exit 0) (zL b qYn (((),(),(),()),((vG x ()),x.2.2.2.2.1,x.2.2.2.2.2,())))⟩
def qX6:zE:=sp [sP 3 0,sO 8 1,sO 9 2,sI 11,sO 12 3,sI 13] [oB wS,oA zF,oA .i,oA .i]
def yBy:zE:=sp [sP 3 0,sO 8 1,sO 9 2,sI 11] [oB wS,oA zF,oA .i]
def yEo (f:Xm)(d:qX6.den):=(yU (f d.1.2.2.2.1.1 d.1.2.2.2.2.2.1.1) d.2.1) d.2.2.1 d.2.2.2.1 d.2.2.2.2.1
def Xn:zX:=⟨[qX6],[(.exit 4,yBy)],Xo,fun k d=>yEo (C8 k k) d,fun b x _ K=>K (.exit 4) (zL b yBy (((),(),(),(x.1,()),()),((fO x ()),x.2.2.2.2.2.1,x.2.2.2.2.2.2,())))⟩
def qV8 (f:Xp)(d:yBy.den):=(yU (f d.1.2.2.2.1.1) d.2.1) d.2.2.1 d.2.2.2.1
def MU:zX:=⟨[yBy],[(.ret,yKr)],(Int×AC),fun k d=>qV8 (Hm k k) d,fun b x _ K=>K .ret (zL b yKr (((),(x.1,()),()),(x.2,())))⟩
def MV:zY:=⟨[],[(4,MS),(13,Xn),(9,MU)],[],false⟩
theorem vL8:zU prog 1000 0 58 (zO (zS f189) 0) MS:=lp (A:=MV) MS (fun d=>(vG d.2.1 (d.2.2.1,d.2.2.2.1))) qUh xo C7 (e4 xM ub D2 H8) loops0
theorem vF6:zU prog 1000 0 58 (zO (zO (zS f189) 1) 0) Xn:=lp (A:=MV) Xn (fun d=>(d.1.2.2.2.1.1,(vG d.2.1 (d.2.2.1,d.2.2.2.1)))) yEo C8 C9 (e4 xM ub D2 H8) loops0
theorem vD1:zU prog 1000 0 58 (zO (zS f189) 1) MU:=lp (A:=MV) MU (fun d=>(d.1.2.1.1,d.2.1)) qV8 Hm Da (e4 xM ub D2 H8) (qC vF6)
def yZd:=zJ 189 [.agg wN,.c (.dat false zF),.c .i] (.tup [(false,[.own .i]),(false,vJ)]) (fun k d=>(gT (LF k) d)) (fun x=>(x.1,x.2,())) (fun d=>(d.1,d.2.1))
theorem yDt:zD prog yZd:=fA f189 MV (e4 xM ub D2 H8) (nU (n:=2) (by kernel_rfl) fun i hi=>match i,hi with|0,_=>⟨MS,by kernel_rfl,vL8⟩|1,_=>⟨MU,by kernel_rfl,vD1⟩|i+2,hi=>absurd hi (by omega))
def yR9:zE:=sp [(1,.c (.dat true zF)),sP 6 0,sO 11 1,sP 12 2,sI 14] [oB lC,oA zF,oB vU]
def qZ4:zE:=sp [(1,.c (.dat true zF)),sP 6 0,sO 11 1,sP 12 2] [oB lC,oA zF,oB vU]
def qV0 (f:Xq)(d:yR9.den):=(yU (f d.1.1.1 d.1.2.2.2.2.1.1 d.2.2.1) d.2.2.2.1)
def Xr:zX:=⟨[yR9],[(.exit 0,qZ4)],Xs,fun k d=>qV0 (xp k k) d,fun b x _ K=>K (.exit 0) (zL b qZ4 (((x.1,()),(),(),(),()),((),x.2.1,(xi x ()),())))⟩
def qW0:zY:=⟨[],[(7,Xr)],[],false⟩
theorem vNz:zU prog 1000 0 57 (zO (zS f157) 0) Xr:=lp (A:=qW0) Xr (fun d=>(d.1.1.1,d.2.2.1,(rj d.2.2.2.1))) qV0 xp Db (e5 yDt xM D2 WR j9) loops0
def vBw:=zJ 157 [.agg iI,.c (.dat true zF),.c .i] (.tup [(true,kO),(false,[.fro zF]),(false,[.own zF])]) (fun k d=>(gT (Hn k) d)) (fun x=>(lD x ())) (fun d=>(kP d))
theorem vHa:zD prog vBw:=fA f157 qW0 (e5 yDt xM D2 WR j9) (qC vNz)
def vI3:=zJ 108 [.agg iI,.c (.dat true zF),.c .i,.c .bool] (.tup [(true,kO),(false,[.fro zF]),(false,[.own zF])]) (fun k d=>(j8 (LG k) d)) (fun x=>(lD x ())) (fun d=>(kP d))
theorem vA5:zD prog vI3:=fA f108 ⟨[],[],[],false⟩ (e2 vAh vHa) loops0
def yMb:zE:=⟨[(0,.c (.dat false zF)),sO 3 0,sI 4],[oA yL],[(3,none,yL,false)]⟩
def yBw (f:Xt)(d:yMb.den):=f d.1.1.1 d.1.2.2.1.1 d.2.1
def Xu:zX:=⟨[yMb],[(.exit 0,qW1)],V0,fun k d=>yBw (GP k k) d,fun b x _ K=>K (.exit 0) (zL b qW1 (((),()),(x,())))⟩
def yJn:zY:=⟨[],[(3,Xu)],[],false⟩
theorem vOf:zU prog 1000 0 39 (zO (zS f109) 0) Xu:=lp (A:=yJn) Xu (fun d=>d.2.1) yBw GP Cl (e1 oP) loops0
def vNn:=zJ 109 [.c (.dat false zF)] (.c (.own yL)) (fun k d=>K4 k d.1) (fun x=>(x,())) (fun d=>d.1)
theorem yZa:zD prog vNn:=fA f109 yJn (e1 oP) (qC vOf)
def vI7:=zJ 41 [.agg rq,.c .bool] (.tup [(true,xK),(false,[.own yL])]) (fun k d=>(HT (lz k) d)) (fun x=>(DX x ())) (fun d=>(DY d))
theorem H9:zD prog vI7:=fA f41 ⟨[],[],[],false⟩ (e2 vA5 yZa) loops0
def yH8:zE:=⟨[sP 3 0,sP 4 1,sO 6 2,(7,.c (.dat true zF)),sI 8],[oB mr,oB iS,oA yL],[(6,none,yL,false)]⟩
def yIj:zE:=sp [sP 3 0,sP 4 1,sO 6 2] [oB mr,oB iS,oA yL]
def yPh (f:Xw)(d:yH8.den):=f d.1.2.2.2.1.1 d.1.2.2.2.2.1.1 (qR d.2.1) (d.2.2.1.1,d.2.2.1.2.1,d.2.2.1.2.2.1) d.2.2.2.1
def MW:zX:=⟨[yH8],[(.exit 0,yIj)],Xx,fun k d=>yPh (tG k k) d,fun b x _ K=>K (.exit 0) (zL b yIj (((),(),(),()),((jP x.1 ()),(x.2.1.1,x.2.1.2.1,x.2.1.2.2,()),x.2.2,())))⟩
def yEp:zE:=sp [sP 3 0,sP 4 1,sO 6 2,sI 9] [oB mr,oB iS,oA yL]
def qVb (f:Xy)(d:yEp.den):=f d.1.2.2.2.1.1 (qR d.2.1) (d.2.2.1.1,d.2.2.1.2.1,d.2.2.1.2.2.1) d.2.2.2.1
def MX:zX:=⟨[yEp],[(.exit 2,yIj)],Xx,fun k d=>qVb (tH k k) d,fun b x _ K=>K (.exit 2) (zL b yIj (((),(),(),()),((jP x.1 ()),(x.2.1.1,x.2.1.2.1,x.2.1.2.2,()),x.2.2,())))⟩
def yCb:zE:=⟨[sP 2 0,sP 3 1,sP 4 2,sO 6 3,(7,.c (.dat true zF)),sI 10],[oB [.i,.dat true jL,.i,.i,.i],oB mr,oB iS,oA yL],[(6,none,yL,false)]⟩
def yQf:zE:=sp [sP 2 0,sP 3 1,sP 4 2,sO 6 3] [oB [.i,.dat true jL,.i,.i,.i],oB mr,oB iS,oA yL]
def yJo (f:XA)(d:yCb.den):=f d.1.2.2.2.2.1.1 d.1.2.2.2.2.2.1.1 (qX d.2.1) (qR d.2.2.1) (d.2.2.2.1.1,d.2.2.2.1.2.1,d.2.2.2.1.2.2.1) d.2.2.2.2.1
def MY:zX:=⟨[yCb],[(.exit 4,yQf)],XB,fun k d=>yJo (qw k k) d,fun b x _ K=>K (.exit 4) (zL b yQf (((),(),(),(),()),((eW x.1 ()),(jP x.2.1 ()),(x.2.2.1.1,x.2.2.1.2.1,x.2.2.1.2.2,()),x.2.2.2,())))⟩
def MZ:zY:=⟨[],[(8,MW),(12,MX),(18,MY)],[],true⟩
theorem vRy:zU prog 1000 0 129 (zO (zS f39) 0) MW:=lp (A:=MZ) MW (fun d=>((qR d.2.1),(d.2.2.1.1,d.2.2.1.2.1,d.2.2.1.2.2.1),d.2.2.2.1)) yPh tG Dd (e6 MO oP MP j9 MQ H9) loops0
theorem yYq:zU prog 1000 0 129 (zO (zS f39) 1) MX:=lp (A:=MZ) MX (fun d=>((qR d.2.1),(d.2.2.1.1,d.2.2.1.2.1,d.2.2.1.2.2.1),d.2.2.2.1)) qVb tH De (e6 MO oP MP j9 MQ H9) loops0
theorem yW4:zU prog 1000 0 129 (zO (zS f39) 2) MY:=lp (A:=MZ) MY (fun d=>((qX d.2.1),(qR d.2.2.1),(d.2.2.2.1.1,d.2.2.2.1.2.1,d.2.2.2.1.2.2.1),d.2.2.2.2.1)) yJo qw Df (e6 MO oP MP j9 MQ H9) loops0
def vO3:=zJ 39 [.agg H5,.agg rq] (.tup [(true,xK),(false,[.own yL])]) (fun k d=>Dg k (qX d) (mn d)) (fun x=>(jP x.1 (x.2,()))) (fun d=>((qR d),d.2.2.2.2.2.2.2.2.2.2.2.1))
theorem yZo:zD prog vO3:=fA f39 MZ (e6 MO oP MP j9 MQ H9) (nU (n:=3) (by kernel_rfl) fun i hi=>match i,hi with|0,_=>⟨MW,by kernel_rfl,vRy⟩|1,_=>⟨MX,by kernel_rfl,yYq⟩|2,_=>⟨MY,by kernel_rfl,yW4⟩|i+3,hi=>absurd hi (by omega))
def vJe:=zJ 144 [.ptr yMp,.c .i] (.c .i) (fun k d=>qq k (MI d) d.2.2.2.2.2.2.2.2.2.2.2.2.2.2.2.2.2.2.2.1) (fun x=>(x,())) (fun d=>d.1)
theorem XE:zD prog vJe:=fA f144 n0 e0 loops0
def vQy:=zJ 151 [.agg fM,.c .i,.c .i] (.c .i) (fun k d=>CR k (qX d) d.2.2.2.2.2.1 d.2.2.2.2.2.2.1) (fun x=>(x,())) (fun d=>d.1)
theorem yQi:zD prog vQy:=fA f151 n0 e0 loops0
def vH3:=zJ 145 [.agg fM,.c .i,.agg vA] (.c .i) (fun k d=>xk k (qX d) d.2.2.2.2.2.1 (Ug d)) (fun x=>(x,())) (fun d=>d.1)
theorem vOr:zD prog vH3:=fA f145 n0 (e1 yQi) loops0
def yQ4:zE:=sp [(0,.c (.dat true .i)),sI 1,sI 6] []
def yAz (f:XF)(d:yQ4.den):=f d.1.1.1 d.1.2.1.1 d.1.2.2.1.1
def XG:zX:=⟨[yQ4],[(.exit 0,yQ4)],(AC×Int×Int),fun k d=>yAz (G9 k k) d,fun b x _ K=>K (.exit 0) (zL b yQ4 (((x.1,()),(x.2.1,()),(x.2.2,()),()),()))⟩
def yGr:zY:=⟨[],[(6,XG)],[],true⟩
theorem vMr:zU prog 1000 0 41 (zO (zS f146) 0) XG:=lp (A:=yGr) XG (fun d=>(d.1.1.1,d.1.2.1.1,d.1.2.2.1.1)) yAz G9 CJ (e1 Mp) loops0
def vBo:=zJ 146 [.c (.dat true .i),.c .i] (.tup [(false,[.fro .i]),(false,vJ)]) (fun k d=>xh k d.1 d.2.1) (fun x=>(x.1,x.2,())) (fun d=>(d.1,d.2.1))
theorem yYf:zD prog vBo:=fA f146 yGr (e1 Mp) (qC vMr)
def yIg:zE:=sp [(0,.c (.dat false zF)),sP 3 0,sI 5] [oB vX]
def yGs (f:XH)(d:yIg.den):=(j8 (f d.1.1.1 d.1.2.2.1.1) d.2.1)
def XI:zX:=⟨[yIg],[(.exit 0,yS1)],Int,fun k d=>yGs (CG k k) d,fun b x _ K=>K (.exit 0) (zL b yS1 (((x,()),()),()))⟩
def yEv:zY:=⟨[],[(2,XI)],[],false⟩
theorem vP0:zU prog 1000 0 21 (zO (zS f185) 0) XI:=lp (A:=yEv) XI (fun d=>d.1.1.1) yGs CG CH (e1 DR) loops0
def vAc:=zJ 185 [.c (.dat false zF),.agg vA] (.c .i) (fun k d=>(j7 (CF k) d)) (fun x=>(x,())) (fun d=>d.1)
theorem XJ:zD prog vAc:=fA f185 yEv (e1 DR) (qC vP0)
def yZk:=zJ 184 [.c (.dat false zF),.c .i,.agg vA] (.c (.own zF)) (fun k d=>(MF (xe k) d)) (fun x=>(x,())) (fun d=>d.1)
theorem Ia:zD prog yZk:=fA f184 ⟨[],[],[],false⟩ e0 loops0
def vHl:=zJ 147 [.c (.dat true zF),.agg vA] (.tup [(false,[.fro zF]),(false,vJ)]) (fun k d=>(j7 (xf k) d)) (fun x=>(x.1,x.2,())) (fun d=>(d.1,d.2.1))
theorem yX3:zD prog vHl:=fA f147 ⟨[],[],[],false⟩ (e3 DQ XJ Ia) loops0
def vBr:=vW 102 [.ptr true xN,.agg HZ] (.c .i) [xO] 0 (fun k d=>Lv k (qU d d.2.2.2.2.2.2.2.2.2.2.2.2.2.2.2.2.2.2.1) (vK1 d)) (fun x=>(x.1,(ua x.2 ()))) (fun d=>(d.1,(xP d)))
theorem vKp:zD prog vBr:=fX f102 n0 1 (e4 XE vOr yYf yX3) loops0
def vJc:=zJ 148 [.ptr yMp,.c .i] (.tup [(true,oO),(false,[.bool])]) (fun k d=>qVu k (MI d) d.2.2.2.2.2.2.2.2.2.2.2.2.2.2.2.2.2.2.2.1) (fun x=>(gg x.1 (x.2,()))) (fun d=>((wC d),d.2.2.2.2.2.2.2.1))
theorem vFv:zD prog vJc:=fA f148 n0 (e1 DQ) loops0
def yI5:zE:=sp [(6,.c (.dat true zF)),sP 7 0,sI 9] [oB vX]
def yRp (f:Um)(d:yI5.den):=f d.1.1.1 d.1.2.2.1.1 (wC d.2.1)
def XM:zX:=⟨[yI5],[(.exit 0,yI5)],Uo,fun k d=>yRp (G8 k k) d,fun b x _ K=>K (.exit 0) (zL b yI5 (((x.1,()),(),(x.2.1,()),()),((gg x.2.2 ()),())))⟩
def qWv:zY:=⟨[],[(5,XM)],[],true⟩
theorem vIx:zU prog 1000 0 40 (zO (zS f149) 0) XM:=lp (A:=qWv) XM (fun d=>(d.1.1.1,d.1.2.2.1.1,(wC d.2.1))) yRp G8 CI (e3 j9 DR Ia) loops0
def vOg:=zJ 149 [.c (.dat true zF),.c .i] (.tup [(false,[.fro zF]),(false,vJ)]) (fun k d=>G6 k d.1 d.2.1) (fun x=>(x.1,x.2,())) (fun d=>(d.1,d.2.1))
theorem yVo:zD prog vOg:=fA f149 qWv (e3 j9 DR Ia) (qC vIx)
def vOu:=zJ 150 [.c (.dat true zF),.c .i] (.tup [(false,[.fro zF]),(false,vJ)]) (fun k d=>G5 k d.1 d.2.1) (fun x=>(x.1,x.2,())) (fun d=>(d.1,d.2.1))
theorem yXc:zD prog vOu:=fA f150 n0 (e3 j9 XJ Ia) loops0
def vL4:=zJ 152 [.c (.dat true zF),.c .i,.c .i] (.tup [(false,[.fro zF]),(false,vJ)]) (fun k d=>G4 k d.1 d.2.1 d.2.2.1) (fun x=>(x.1,x.2,())) (fun d=>(d.1,d.2.1))
theorem vNt:zD prog vL4:=fA f152 n0 (e3 j9 XJ Ia) loops0
def vEl:=vW 103 [.ptr true xN,.c (.p .i),.agg HZ] (.c .i) [xO] 0 (fun k d=>xm k (qU d d.2.2.2.2.2.2.2.2.2.2.2.2.2.2.2.2.2.2.1) d.2.2.2.2.2.2.2.2.2.2.2.2.2.2.2.2.2.2.2.1 (yI8 d)) (fun x=>(x.1,(ua x.2 ()))) (fun d=>(d.1,(xP d)))
theorem yW3:zD prog vEl:=fX f103 n0 1 (e7 vFv j9 oP yVo yXc yQi vNt) loops0
def vIy:=vW 104 [.ptr true xN,.c (.p .i),.agg HZ] (.c .i) [xO] 0 (fun k d=>xn k (qU d d.2.2.2.2.2.2.2.2.2.2.2.2.2.2.2.2.2.2.1) d.2.2.2.2.2.2.2.2.2.2.2.2.2.2.2.2.2.2.2.1 (yI8 d)) (fun x=>(x.1,(ua x.2 ()))) (fun d=>(d.1,(xP d)))
theorem vB7:zD prog vIy:=fX f104 n0 1 (e2 uc XE) loops0
def vPx:=zJ 154 [.c (.dat false .i),.c .i,.c .i] (.c (.own .i)) (fun k d=>qs k d.1 d.2.1 d.2.2.1) (fun x=>(x,())) (fun d=>d.1)
theorem XO:zD prog vPx:=fA f154 n0 e0 loops0
def vPa:=vW 105 [.ptr true xN,.c (.p .i),.c (.p .i)] (.c .i) [xO] 0 (fun k d=>Lw k (qU d d.2.2.2.2.2.2.2.2.2.2.2.2.2.2.2.2.2.2.1) d.2.2.2.2.2.2.2.2.2.2.2.2.2.2.2.2.2.2.2.1 d.2.2.2.2.2.2.2.2.2.2.2.2.2.2.2.2.2.2.2.2.1) (fun x=>(x.1,(ua x.2 ()))) (fun d=>(d.1,(xP d)))
theorem yTj:zD prog vPa:=fX f105 n0 1 (e3 XO xG uc) loops0
def yX6:=zJ 155 [.agg lB,.c .i] (.tup [(true,[.i,.i,.i]),(false,vJ)]) (fun k d=>CT k (d.1,d.2.1,d.2.2.1) d.2.2.2.1) (fun x=>(x.1.1,x.1.2.1,x.1.2.2,x.2,())) (fun d=>((d.1,d.2.1,d.2.2.1),d.2.2.2.1))
theorem yTw:zD prog yX6:=fA f155 n0 (e2 Tw Mh) loops0
def vJ0:=vW 106 [.ptr true xN,.c (.p .bool),.c (.p .i),.c (.p .i)] (.c .i) [xO] 0 (fun k d=>CU k (qU d d.2.2.2.2.2.2.2.2.2.2.2.2.2.2.2.2.2.2.1) d.2.2.2.2.2.2.2.2.2.2.2.2.2.2.2.2.2.2.2.1 d.2.2.2.2.2.2.2.2.2.2.2.2.2.2.2.2.2.2.2.2.1 d.2.2.2.2.2.2.2.2.2.2.2.2.2.2.2.2.2.2.2.2.2.1) (fun x=>(x.1,(ua x.2 ()))) (fun d=>(d.1,(xP d)))
theorem vIh:zD prog vJ0:=fX f106 n0 1 (e3 XE uc yTw) loops0
def yIz:zE:=sp [sP 0 0,sO 7 1,sP 8 2,sI 9] [oB XP,oA .i,oB oQ,oA yC,.mat,oA .i,.mat]
def yAs:zE:=sp [sP 0 0,sO 7 1,sP 8 2] [oB XP,oA .i,oB oQ,oA yC,.mat,oA .i,.mat]
def yQg:zE:=sp [sP 0 0,sI 6] [oB XP]
def yL7 (f:XQ)(d:yIz.den):=f d.1.2.2.2.1.1 (fm d.2.1) d.2.2.1 d.2.2.2.2.1 d.2.2.2.2.2.1 d.2.2.2.2.2.2.1 d.2.2.2.2.2.2.2.1
def XR:zX:=⟨[yIz],[(.exit 0,yAs),(.ret,yQg)],XS,fun k d=>yL7 (qt k k) d,fun b x _ K=>match x with|.inl x=>K (.exit 0) (zL b yAs (((),(),(),()),((jS x.1 ()),x.2.1,(),x.2.2.1,x.2.2.2.1,x.2.2.2.2.1,x.2.2.2.2.2,())))|.inr x=>K .ret (zL b yQg (((),(x.1,()),()),((jS x.2 ()),())))⟩
def yFb:zY:=⟨[],[(6,XR)],[],true⟩
theorem vPo:zU prog 1000 1 93 (zO (zS f107) 0) XR:=lp (A:=yFb) XR (fun d=>match d with|.inl d=>.inl ((fm d.2.1),d.2.2.1,d.2.2.2.2.1,d.2.2.2.2.2.1,d.2.2.2.2.2.2.1,d.2.2.2.2.2.2.2.1)|.inr d=>.inr (d.1.2.1.1,(fm d.2.1))) yL7 qt CV (e3 XO uc xG) loops0
def vM9:=vW 107 [.ptr true xN,.c (.p .i),.c (.p .i)] (.c .i) [xO] 0 (fun k d=>Lx k (qU d d.2.2.2.2.2.2.2.2.2.2.2.2.2.2.2.2.2.2.1) d.2.2.2.2.2.2.2.2.2.2.2.2.2.2.2.2.2.2.2.1 d.2.2.2.2.2.2.2.2.2.2.2.2.2.2.2.2.2.2.2.2.1) (fun x=>(x.1,(ua x.2 ()))) (fun d=>(d.1,(xP d)))
theorem vQ6:zD prog vM9:=fX f107 yFb 1 (e3 XO uc xG) (qC vPo)
def vQg:=vW 40 [.ptr true xN,.agg vA] (.c .i) [xO] 0 (fun k d=>tM k (qU d d.2.2.2.2.2.2.2.2.2.2.2.2.2.2.2.2.2.2.1) (vB4 d)) (fun x=>(x.1,(ua x.2 ()))) (fun d=>(d.1,(xP d)))
theorem vGb:zD prog vQg:=fX f40 n0 1 (e6 vKp yW3 vB7 yTj vIh vQ6) loops0
def qMa:=zJ 12 [.agg H5,.agg rq,.agg DT] (.tup [(true,xK),(false,[.own yL]),(false,vJ)]) (fun k d=>Hu k (qX d) (mn d) (xF d)) (fun x=>(jP x.1 (x.2.1,x.2.2,()))) (fun d=>((qR d),d.2.2.2.2.2.2.2.2.2.2.2.1,d.2.2.2.2.2.2.2.2.2.2.2.2.1))
theorem vM6:zD prog qMa:=fA f12 n0 (e7 yY2 ub oP yZo vGb H9 DQ) loops0
def yD0:zE:=sp [(0,.c (.dat false .i)),(1,.c (.dat false .i)),sI 5] []
def yCr (f:XT)(d:yD0.den):=f d.1.1.1 d.1.2.1.1 d.1.2.2.1.1
def XU:zX:=⟨[yD0],[(.exit 0,yBe),(.ret,qWq)],(Unit⊕Bool),fun k d=>yCr (FL k k) d,fun b x _ K=>match x with|.inl x=>K (.exit 0) (zL b yBe ((),()))|.inr x=>K .ret (zL b qWq (((x,()),()),()))⟩
def yP3:zY:=⟨[],[(4,XU)],[],false⟩
theorem vM8:zU prog 1000 0 26 (zO (zS f44) 0) XU:=lp (A:=yP3) XU (fun d=>match d with|.inl d=>.inl ()|.inr d=>.inr d.1.1.1) yCr FL AN e0 loops0
def XV:=zJ 44 [.c (.dat false .i),.c (.dat false .i)] (.c .bool) (fun k d=>pR k d.1 d.2.1) (fun x=>(x,())) (fun d=>d.1)
theorem M3:zD prog XV:=fA f44 yP3 e0 (qC vM8)
def yA9:zE:=sp [(0,.c (.dat false (.sl .i))),(1,.c (.dat false (.sl .i))),sI 5] []
def yE4 (f:XW)(d:yA9.den):=f d.1.1.1 d.1.2.1.1 d.1.2.2.1.1
def XX:zX:=⟨[yA9],[(.exit 0,yBe),(.ret,qWq)],(Unit⊕Bool),fun k d=>yE4 (FM k k) d,fun b x _ K=>match x with|.inl x=>K (.exit 0) (zL b yBe ((),()))|.inr x=>K .ret (zL b qWq (((x,()),()),()))⟩
def qZ7:zY:=⟨[],[(4,XX)],[],false⟩
theorem vEc:zU prog 1000 0 27 (zO (zS f45) 0) XX:=lp (A:=qZ7) XX (fun d=>match d with|.inl d=>.inl ()|.inr d=>.inr d.1.1.1) yE4 FM AO (e1 M3) loops0
def XY:=zJ 45 [.c (.dat false (.sl .i)),.c (.dat false (.sl .i))] (.c .bool) (fun k d=>v9 k d.1 d.2.1) (fun x=>(x,())) (fun d=>d.1)
theorem yK0:zD prog XY:=fA f45 qZ7 (e1 M3) (qC vEc)
def yA1:zE:=sp [sP 2 0,sP 3 1,sI 5] [oB wS,oB wS]
def yP8 (f:XZ)(d:yA1.den):=(yU (yU (f d.1.2.2.1.1) d.2.1) d.2.2.1)
def X0:zX:=⟨[yA1],[(.exit 0,yBe),(.ret,qWq)],(Unit⊕Bool),fun k d=>yP8 (FO k k) d,fun b x _ K=>match x with|.inl x=>K (.exit 0) (zL b yBe ((),()))|.inr x=>K .ret (zL b qWq (((x,()),()),()))⟩
def yT8:Env:=⟨prog,fun t=>[57].any (Nat.beq t),jQ [XY,XV]⟩
theorem yId:jA yT8:=Aq (l:=[XY,XV]) (eqT:=fun t=>[57].any (Nat.beq t)) (Ep (fun t h=>E0 (p:=fun t=>prog.keyTypeAt 8 t&& !prog.eqGuardType prog.depth t) (l:=[57]) (List.forall_mem_cons.2 ⟨by kernel_rfl,List.forall_mem_nil _⟩) t h)) fl ⟨yK0,M3,trivial⟩
def yF5:zY:=⟨[],[(4,X0)],[],false⟩
theorem vEd:zU prog 1000 0 55 (zO (zS f43) 0) X0:=lp (A:=yF5) X0 (fun d=>match d with|.inl d=>.inl ()|.inr d=>.inr d.1.1.1) yP8 FO AP yId loops0
def vAl:=zJ 43 [.agg wN,.agg wN] (.c .bool) (fun k d=>(j7 (FN k) d)) (fun x=>(x,())) (fun d=>d.1)
theorem vPp:zD prog vAl:=fA f43 yF5 yId (qC vEd)
def yKo:zE:=sp [(0,.c (.dat false zF)),(1,.c (.dat false zF)),sI 5] []
def qWz (f:X1)(d:yKo.den):=f d.1.1.1 d.1.2.1.1 d.1.2.2.1.1
def X2:zX:=⟨[yKo],[(.exit 0,yBe),(.ret,qWq)],(Unit⊕Bool),fun k d=>qWz (HG k k) d,fun b x _ K=>match x with|.inl x=>K (.exit 0) (zL b yBe ((),()))|.inr x=>K .ret (zL b qWq (((x,()),()),()))⟩
def vCt:Env:=⟨prog,fun t=>[97].any (Nat.beq t),jQ []⟩
theorem yM7:jA vCt:=Aq (l:=[]) (eqT:=fun t=>[97].any (Nat.beq t)) (Ep (fun t h=>E0 (p:=fun t=>prog.keyTypeAt 8 t&& !prog.eqGuardType prog.depth t) (l:=[97]) (List.forall_mem_cons.2 ⟨by kernel_rfl,List.forall_mem_nil _⟩) t h)) fl trivial
def qWl:zY:=⟨[],[(4,X2)],[],false⟩
theorem vOn:zU prog 1000 0 26 (zO (zS f46) 0) X2:=lp (A:=qWl) X2 (fun d=>match d with|.inl d=>.inl ()|.inr d=>.inr d.1.1.1) qWz HG Dy yM7 loops0
def yZf:=zJ 46 [.c (.dat false zF),.c (.dat false zF)] (.c .bool) (fun k d=>HF k d.1 d.2.1) (fun x=>(x,())) (fun d=>d.1)
theorem vDw:zD prog yZf:=fA f46 qWl yM7 (qC vOn)
def qSv:=zJ 13 [.agg kM,.agg kM] (.c .bool) (fun k d=>LZ k (qR d) (vHc d)) (fun x=>(x,())) (fun d=>d.1)
theorem vEt:zD prog qSv:=fA f13 n0 (e4 vPp M3 yK0 vDw) loops0
def yEn:zE:=sp [(0,.c (.dat false yL)),(1,.c (.dat false yL)),sI 5] []
def yJ9 (f:X3)(d:yEn.den):=f d.1.1.1 d.1.2.1.1 d.1.2.2.1.1
def X4:zX:=⟨[yEn],[(.exit 0,yBe),(.ret,qWq)],(Unit⊕Bool),fun k d=>yJ9 (GQ k k) d,fun b x _ K=>match x with|.inl x=>K (.exit 0) (zL b yBe ((),()))|.inr x=>K .ret (zL b qWq (((x,()),()),()))⟩
def vEi:Env:=⟨prog,fun t=>[65].any (Nat.beq t),jQ []⟩
theorem yEd:jA vEi:=Aq (l:=[]) (eqT:=fun t=>[65].any (Nat.beq t)) (Ep (fun t h=>E0 (p:=fun t=>prog.keyTypeAt 8 t&& !prog.eqGuardType prog.depth t) (l:=[65]) (List.forall_mem_cons.2 ⟨by kernel_rfl,List.forall_mem_nil _⟩) t h)) fl trivial
def yFx:zY:=⟨[],[(4,X4)],[],false⟩
theorem vGq:zU prog 1000 0 26 (zO (zS f14) 0) X4:=lp (A:=yFx) X4 (fun d=>match d with|.inl d=>.inl ()|.inr d=>.inr d.1.1.1) yJ9 GQ Cm yEd loops0
def qEp:=zJ 14 [.c (.dat false yL),.c (.dat false yL)] (.c .bool) (fun k d=>K5 k d.1 d.2.1) (fun x=>(x,())) (fun d=>d.1)
theorem vKk:zD prog qEp:=fA f14 yFx yEd (qC vGq)
def yIt:Env:=⟨prog,fun _=>false,jQ [R0q,R2q,qLo,qLy,qMa,qSv,qEp,qMz,qKo]⟩
theorem yIy:jA yIt:=mS fl ⟨F0q,F2q,vEh,yDs,vM6,vEt,vKk,yW5,yZ0,trivial⟩
def vOz:zY:=n0
def R5:List AS:=[.agg H5,.agg rq,.agg DT]
theorem vBk:PN yIt vOz 0 f4 R5 (.c .bool) (fun d=>d.1) (fun k d=>L7 k (qX d) (mn d) (xF d)):=by intro k d;kernel_rfl
end
end Go.Ab.Gi
