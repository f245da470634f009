/- part 96 -/
import Derived.Test.YtjmhjbihkkofeaaGreatGiXS
import Derived.Test.YtjmhjbihkkofeaaGreatGiAbE
import Derived.Test.YtjmhjbihkkofeaaGreatProg
set_option linter.unusedVariables false
set_option maxRecDepth 100000
set_option maxHeartbeats 4000000
namespace Go.Ab.Gi
open Go.RowKit Go.Lib Go.Proofs Go.Proofs.Tryz
noncomputable section
theorem fB:prog.follows .mixedOrders=true:=by kernel_rfl
abbrev n0:qB:=⟨[],[],[],true⟩
theorem e0:jL ⟨prog,fun _=>false,dI []⟩:=lz (l:=[]) fB trivial
theorem e1 {a0}(h0:zB prog a0):jL ⟨prog,fun _=>false,dI [a0]⟩:=lz (l:=[a0]) fB ⟨h0,trivial⟩
theorem e2 {a0 a1}(h0:zB prog a0)(h1:zB prog a1):jL ⟨prog,fun _=>false,dI [a0,a1]⟩:=lz (l:=[a0,a1]) fB ⟨h0,h1,trivial⟩
theorem e3 {a0 a1 a2}(h0:zB prog a0)(h1:zB prog a1)(h2:zB prog a2):jL ⟨prog,fun _=>false,dI [a0,a1,a2]⟩:=lz (l:=[a0,a1,a2]) fB ⟨h0,h1,h2,trivial⟩
theorem e4 {a0 a1 a2 a3}(h0:zB prog a0)(h1:zB prog a1)(h2:zB prog a2)(h3:zB prog a3):jL ⟨prog,fun _=>false,dI [a0,a1,a2,a3]⟩:=lz (l:=[a0,a1,a2,a3]) fB ⟨h0,h1,h2,h3,trivial⟩
theorem e5 {a0 a1 a2 a3 a4}(h0:zB prog a0)(h1:zB prog a1)(h2:zB prog a2)(h3:zB prog a3)(h4:zB prog a4):jL ⟨prog,fun _=>false,dI [a0,a1,a2,a3,a4]⟩:=lz (l:=[a0,a1,a2,a3,a4]) fB ⟨h0,h1,h2,h3,h4,trivial⟩
theorem e6 {a0 a1 a2 a3 a4 a5}(h0:zB prog a0)(h1:zB prog a1)(h2:zB prog a2)(h3:zB prog a3)(h4:zB prog a4)(h5:zB prog a5):jL ⟨prog,fun _=>false,dI [a0,a1,a2,a3,a4,a5]⟩:=lz (l:=[a0,a1,a2,a3,a4,a5]) fB ⟨h0,h1,h2,h3,h4,h5,trivial⟩
theorem e8 {a0 a1 a2 a3 a4 a5 a6 a7}(h0:zB prog a0)(h1:zB prog a1)(h2:zB prog a2)(h3:zB prog a3)(h4:zB prog a4)(h5:zB prog a5)(h6:zB prog a6)(h7:zB prog a7):jL ⟨prog,fun _=>false,dI [a0,a1,a2,a3,a4,a5,a6,a7]⟩:=lz (l:=[a0,a1,a2,a3,a4,a5,a6,a7]) fB ⟨h0,h1,h2,h3,h4,h5,h6,h7,trivial⟩
theorem e9 {a0 a1 a2 a3 a4 a5 a6 a7 a8}(h0:zB prog a0)(h1:zB prog a1)(h2:zB prog a2)(h3:zB prog a3)(h4:zB prog a4)(h5:zB prog a5)(h6:zB prog a6)(h7:zB prog a7)(h8:zB prog a8):jL ⟨prog,fun _=>false,dI [a0,a1,a2,a3,a4,a5,a6,a7,a8]⟩:=lz (l:=[a0,a1,a2,a3,a4,a5,a6,a7,a8]) fB ⟨h0,h1,h2,h3,h4,h5,h6,h7,h8,trivial⟩
theorem Kq {a0 a1 a2 a3 a4 a5 a6 a7 a8 a9}(h0:zB prog a0)(h1:zB prog a1)(h2:zB prog a2)(h3:zB prog a3)(h4:zB prog a4)(h5:zB prog a5)(h6:zB prog a6)(h7:zB prog a7)(h8:zB prog a8)(h9:zB prog a9):jL ⟨prog,fun _=>false,dI [a0,a1,a2,a3,a4,a5,a6,a7,a8,a9]⟩:=lz (l:=[a0,a1,a2,a3,a4,a5,a6,a7,a8,a9]) fB ⟨h0,h1,h2,h3,h4,h5,h6,h7,h8,h9,trivial⟩
theorem e13 {a0 a1 a2 a3 a4 a5 a6 a7 a8 a9 D4 D5 QH}(h0:zB prog a0)(h1:zB prog a1)(h2:zB prog a2)(h3:zB prog a3)(h4:zB prog a4)(h5:zB prog a5)(h6:zB prog a6)(h7:zB prog a7)(h8:zB prog a8)(h9:zB prog a9)(EB:zB prog D4)(EC:zB prog D5)(OJ:zB prog QH):jL ⟨prog,fun _=>false,dI [a0,a1,a2,a3,a4,a5,a6,a7,a8,a9,D4,D5,QH]⟩:=lz (l:=[a0,a1,a2,a3,a4,a5,a6,a7,a8,a9,D4,D5,QH]) fB ⟨h0,h1,h2,h3,h4,h5,h6,h7,h8,h9,EB,EC,OJ,trivial⟩
def R0q:=zK 4 [.c .i] (.agg [.i,.own vL,.i,.i,.i]) (fun k d=>Gg k d.1) (fun x=>(eu x ()))
theorem F0q:zB prog R0q:=fA (rs:=.agg [.i,.own vL,.i,.i,.i]) f4 n0 (fun d=>(vT d)) e0 zF
def R1q:=H7 5 [.c (.p .i)] (.c (.link 0)) [vG] 1 (.c (.nilp)) [] 0 (fun k d=>Ki k d.1) (fun x=>((),(fa x ()))) (fun x=>((),()))
theorem QI:zB prog R1q:=fN (rs:=.c (.link 0)) (os:=[vG]) (ns:=1) (rs2:=.c (.nilp)) (os2:=[]) (ns2:=0) f5 n0 0 (fun d=>(Cf d)) (fun d=>()) e0 zF
def R2q:=zK 41 [.c .i,.c .i,.c .i] (.c .bool) (fun k d=>od k d.1 d.2.1 d.2.2.1) (fun x=>(x,()))
theorem F2q:zB prog R2q:=fA (rs:=.c .bool) f41 n0 (fun d=>d.1) e0 zF
def R3q:=zK 40 [.agg [.i,.i]] (.c .bool) (fun k d=>qY1 k (d.1,d.2.1)) (fun x=>(x,()))
theorem F3q:zB prog R3q:=fA (rs:=.c .bool) f40 n0 (fun d=>d.1) (e1 F2q) zF
def yKc:zG:=⟨[(0,.c (.dat false vL)),(1,.c (.lit (.fn 40 []))),(7,.c .i),(8,.c .i)],[],[]⟩
def yHy:zG:=⟨[],[],[]⟩
def yAt:zG:=⟨[(4,.c .i)],[],[]⟩
def yJh (f:QJ)(d:yKc.den):=f d.1.1.1 d.1.2.2.1.1 d.1.2.2.2.1.1
def QK:qA:=⟨[yKc],[(.exit 0,yHy),(.ret,yAt)],(Unit⊕Int),fun k d=>yJh (QL k k) d,fun b x _ K=>match x with|.inl x=>K (.exit 0) (zP b yHy ((),()))|.inr x=>K .ret (zP b yAt (((x,()),()),()))⟩
def A4q:qB:=⟨[],[(2,QK)],[],true⟩
theorem yVw:zZ prog 1000 0 19 (zX (zY f73) 0) QK:=lp (A:=A4q) QK (fun d=>match d with|.inl d=>.inl ()|.inr d=>.inr d.1.1.1) yJh QL qZy (e1 F3q) zF
def R4q:=zK 73 [.c (.dat false vL),.c (.fn 40)] (.c .i) (fun k d=>yJp k d.1) (fun x=>(x,()))
theorem F4q:zB prog R4q:=fA (rs:=.c .i) f73 A4q (fun d=>d.1) (e1 F3q) (qN yVw)
def R5q:=zK 42 [.c (.dat false vL),.c (.fn 40)] (.c .bool) (fun k d=>qY4 k d.1) (fun x=>(x,()))
theorem F5q:zB prog R5q:=fA (rs:=.c .bool) f42 n0 (fun d=>d.1) (e1 F4q) zF
def R6q:=zK 14 [.agg lR] (.c .bool) (fun k d=>kR k (vT d)) (fun x=>(x,()))
theorem Kr:zB prog R6q:=fA (rs:=.c .bool) f14 n0 (fun d=>d.1) (e2 F2q F5q) zF
def R7q:=zK 123 [.c .i] (.c .bool) (fun k d=>Ks k d.1) (fun x=>(x,()))
theorem QM:zB prog R7q:=fA (rs:=.c .bool) f123 n0 (fun d=>d.1) e0 zF
def R8q:=rV 124 false (.int .u8) (.own (.int .u8)) vw
theorem F8q:zB prog R8q:=fC f124 n0 e0 zF
def R9q:=zK 75 [.ptr Gk,.c .i] (.c (.own (.int .u8))) (fun k d=>Qu k (jS d) d.2.2.2.2.2.2.2.2.2.2.1) (fun x=>(x,()))
theorem F9q:zB prog R9q:=fA (rs:=.c (.own (.int .u8))) f75 n0 (fun d=>d.1) (e2 QM F8q) zF
def qS7:zG:=⟨[(0,.c (.dat false (.int .u8))),(2,.c (.lit (.osl 1001000 none)))],[.arr true (.sl (.int .u8))],[(2,none,(.sl (.int .u8)),false)]⟩
def qZ3:zG:=⟨[(0,.c (.dat false (.int .u8))),(2,.c (.lit (.osl 1001000 none)))],[.arr true (.sl (.int .u8))],[]⟩
def yCx (f:QN)(d:qS7.den):=f d.1.1.1 d.2.1
def QO:qA:=⟨[qS7],[(.exit 0,qZ3)],QP,fun k d=>yCx (yx k k) d,fun b x _ K=>K (.exit 0) (zP b qZ3 (((x.1,()),(),()),(x.2,())))⟩
def yMm:qB:=⟨[],[(1,QO)],[],true⟩
theorem yYe:zZ prog 1000 0 43 (zX (zY f74) 0) QO:=lp (A:=yMm) QO (fun d=>(d.1.1.1,d.2.1)) yCx yx yy e0 zF
def vH3:=zK 74 [.c (.dat false (.int .u8))] (.tup [(false,[.own (.sl (.int .u8))]),(false,qO)]) (fun k d=>El k d.1) (fun x=>(x.1,x.2,()))
theorem yMd:zB prog vH3:=fA (rs:=.tup [(false,[.own (.sl (.int .u8))]),(false,qO)]) f74 yMm (fun d=>(d.1,d.2.1)) e0 (qN yYe)
def yMw:zG:=⟨[(0,.c (.dat false (.int .u8))),(4,.c (.lit (.osl 1001000 none))),(5,.c (.int .u64)),(16,.c (.dat false (.int .u8))),(17,.c .i),(18,.c .i)],[.arr true .i],[]⟩
def yB2:zG:=⟨[(0,.c (.dat false (.int .u8))),(4,.c (.lit (.osl 1001000 none))),(5,.c (.int .u64))],[.arr true .i],[]⟩
def yA0 (f:QQ)(d:yMw.den):=f d.1.1.1 d.1.2.2.1.1 d.1.2.2.2.1.1 d.1.2.2.2.2.1.1 d.1.2.2.2.2.2.1.1 d.2.1
def QR:qA:=⟨[yMw],[(.exit 2,yB2)],QS,fun k d=>yA0 (yl k k) d,fun b x _ K=>K (.exit 2) (zP b yB2 (((x.1,()),(),(x.2.1,()),()),(x.2.2,())))⟩
def yGh:zG:=⟨[(0,.c (.dat false (.int .u8))),(4,.c (.lit (.osl 1001000 none)))],[.arr true .i],[(4,none,.i,false)]⟩
def yGf:zG:=⟨[(4,.c (.lit (.osl 1001000 none)))],[.arr true .i],[]⟩
def qVn (f:AC→AC→Option AC)(d:yGh.den):=f d.1.1.1 d.2.1
def QT:qA:=⟨[yGh],[(.exit 0,yGf)],AC,fun k d=>qVn (ym k k) d,fun b x _ K=>K (.exit 0) (zP b yGf (((),()),(x,())))⟩
def QU:qB:=⟨[],[(7,QR),(4,QT)],[],true⟩
theorem vKj:zZ prog 1000 0 36 (zX (zX (zY f59) 0) 0) QR:=lp (A:=QU) QR (fun d=>(d.1.1.1,d.1.2.2.1.1,d.2.1)) yA0 yl Ij e0 zF
theorem ySl:zZ prog 1000 0 36 (zX (zY f59) 0) QT:=lp (A:=QU) QT (fun d=>d.2.1) qVn ym yn e0 (qN vKj)
def vGx:=zK 59 [.c (.dat false (.int .u8))] (.tup [(false,oe),(false,qO)]) (fun k d=>mw k d.1) (fun x=>(x.1,x.2,()))
theorem Gl:zB prog vGx:=fA (rs:=.tup [(false,oe),(false,qO)]) f59 QU (fun d=>(d.1,d.2.1)) e0 (qN ySl)
def yM6:=zK 43 [.ptr Gk,.c .i] (.tup [(false,qO),(false,lS),(false,og)]) (fun k d=>sL k (jS d) d.2.2.2.2.2.2.2.2.2.2.1) (fun x=>(x.1,x.2.1,x.2.2,()))
theorem vI4:zB prog yM6:=fA (rs:=.tup [(false,qO),(false,lS),(false,og)]) f43 n0 (fun d=>(d.1,d.2.1,d.2.2.1)) (e3 F9q yMd Gl) zF
def yT4:=zK 15 [.ptr Gk] (.tup [(false,qO),(false,qO),(false,lS),(false,og),(false,[.bool])]) (fun k d=>F9 k (jS d)) (fun x=>(eu x ()))
theorem QV:zB prog yT4:=fA (rs:=.tup [(false,qO),(false,qO),(false,lS),(false,og),(false,[.bool])]) f15 ⟨[],[],[(2,3)],true⟩ (fun d=>(d.1,d.2.1,d.2.2.1,d.2.2.2.1,d.2.2.2.2.1)) (e1 vI4) (xW (n:=1) (by kernel_rfl) fun i hi=>match i,hi with|0,_=>.inr ⟨by kernel_rfl,zF⟩|i+1,hi=>absurd hi (by omega))
def vJk:=zK 82 [.c .i] (.c .bool) (fun k d=>ER k d.1) (fun x=>(x,()))
theorem Kt:zB prog vJk:=fA (rs:=.c .bool) f82 ⟨[],[],[],false⟩ (fun d=>d.1) e0 zF
def qR5:zG:=⟨[(1,.c .i),(5,.c (.lit (.osl 1001000 none))),(13,.c .i),(14,.c .i)],[.arr true .i],[]⟩
def qUe:zG:=⟨[(5,.c (.lit (.osl 1001000 none)))],[.arr true .i],[]⟩
def yLv (f:QW)(d:qR5.den):=f d.1.1.1 d.1.2.2.1.1 d.1.2.2.2.1.1 d.2.1
def QX:qA:=⟨[qR5],[(.exit 0,qUe)],AC,fun k d=>yLv (ES k k) d,fun b x _ K=>K (.exit 0) (zP b qUe (((),()),(x,())))⟩
def yHe:qB:=⟨[],[(5,QX)],[],false⟩
theorem yXo:zZ prog 1000 0 23 (zX (zY f48) 0) QX:=lp (A:=yHe) QX (fun d=>d.2.1) yLv ES zx (e1 Kt) zF
def yUn:=zK 48 [.c .i,.c .i] (.c (.own .i)) (fun k d=>uH k d.1 d.2.1) (fun x=>(x,()))
theorem v7:zB prog yUn:=fA (rs:=.c (.own .i)) f48 yHe (fun d=>d.1) (e1 Kt) (qN yXo)
def yDf:zG:=⟨[(0,.c .i),(1,.c .i),(5,.c (.lit (.osl 1001000 none))),(13,.c .i),(14,.c .i)],[.mat],[]⟩
def yLz:zG:=⟨[(5,.c (.lit (.osl 1001000 none)))],[.mat],[]⟩
def qW3 (f:QY)(d:yDf.den):=f d.1.1.1 d.1.2.1.1 d.1.2.2.2.1.1 d.1.2.2.2.2.1.1 d.2.1
def QZ:qA:=⟨[yDf],[(.exit 0,yLz)],EQ,fun k d=>qW3 (ET k k) d,fun b x _ K=>K (.exit 0) (zP b yLz (((),()),(x,())))⟩
def yLk:qB:=⟨[11],[(5,QZ)],[],false⟩
theorem yN1:zZ prog 1000 0 25 (zX (zY f47) 0) QZ:=lp (A:=yLk) QZ (fun d=>d.2.1) qW3 ET zz (e2 Kt v7) zF
def vAu:=zK 47 [.c .i,.c .i] (.c (.mat)) (fun k d=>zy k d.1 d.2.1) (fun x=>(x,()))
theorem Gm:zB prog vAu:=fA (rs:=.c (.mat)) f47 yLk (fun d=>d.1) (e2 Kt v7) (qN yN1)
def qSb:zG:=⟨[(1,.c (.lit (.ptr 1001000 0))),(2,.c (.lit (.ptr 1001001 0))),(3,.c .i),(4,.c (.lit (.ptr 1001002 0))),(20,.c (.dat false vL)),(21,.c .i),(22,.c .i)],[.box true sO,.box true ka,.box true yIq,.arr true qZ,.mat,.arr true .i,.mat,.arr true .i],[(4,some 5,.i,false)]⟩
def yLt:zG:=⟨[(1,.c (.lit (.ptr 1001000 0))),(2,.c (.lit (.ptr 1001001 0))),(3,.c .i),(4,.c (.lit (.ptr 1001002 0)))],[.box true sO,.box true ka,.box true yIq,.arr true qZ,.mat,.arr true .i,.mat,.arr true .i],[]⟩
def yAh (f:Q0)(d:qSb.den):=f d.1.2.2.1.1 d.1.2.2.2.2.1.1 d.1.2.2.2.2.2.1.1 d.1.2.2.2.2.2.2.1.1 (vT d.2.1) (d.2.2.1.1,d.2.2.1.2.1,d.2.2.1.2.2.1) (d.2.2.2.1.1,d.2.2.2.1.2.1,d.2.2.2.1.2.2.1) d.2.2.2.2.1 d.2.2.2.2.2.1 d.2.2.2.2.2.2.1 d.2.2.2.2.2.2.2.1 d.2.2.2.2.2.2.2.2.1
def Ku:qA:=⟨[qSb],[(.exit 0,yLt)],Q1,fun k d=>yAh (Q2 k k) d,fun b x _ K=>K (.exit 0) (zP b yLt (((),(),(x.1,()),(),()),((eu x.2.1 ()),(x.2.2.1.1,x.2.2.1.2.1,x.2.2.1.2.2,()),(x.2.2.2.1.1,x.2.2.2.1.2.1,x.2.2.2.1.2.2,()),x.2.2.2.2.1,x.2.2.2.2.2.1,x.2.2.2.2.2.2.1,x.2.2.2.2.2.2.2.1,x.2.2.2.2.2.2.2.2,())))⟩
def yC9:zG:=⟨[(1,.c (.lit (.ptr 1001000 0))),(2,.c (.lit (.ptr 1001001 0))),(4,.c (.lit (.ptr 1001002 0))),(34,.c .i),(35,.c .i)],[.box true sO,.box true ka,.box true [.i,.lit (.osl 1001003 none),.lit (.osl 1001004 none),.lit (.osl 1001005 none),.lit (.osl 1001006 none),.lit (.osl 1001007 none),.lit (.osl 1001008 none),.lit .nsl,.lit .nsl,.i,.bool],.arr true qZ,.mat,.arr true .i,.mat,.arr true .i,.mat],[(4,some 6,(.sl .i),true)]⟩
def qRy:zG:=⟨[(2,.c (.lit (.ptr 1001000 0))),(4,.c (.lit (.ptr 1001001 0)))],[.box true ka,.box true [.i,.lit (.osl 1001002 none),.lit (.osl 1001003 none),.lit (.osl 1001004 none),.lit (.osl 1001005 none),.lit (.osl 1001006 none),.lit (.osl 1001007 none),.lit .nsl,.lit .nsl,.i,.bool],.arr true qZ,.mat,.arr true .i,.mat,.arr true .i,.mat],[]⟩
def yD9 (f:Q3)(d:yC9.den):=f d.1.2.2.2.1.1 d.1.2.2.2.2.1.1 (vT d.2.1) (d.2.2.1.1,d.2.2.1.2.1,d.2.2.1.2.2.1) (d.2.2.2.1.1,d.2.2.2.1.2.1,d.2.2.2.1.2.2.1) d.2.2.2.2.1 d.2.2.2.2.2.1 d.2.2.2.2.2.2.1 d.2.2.2.2.2.2.2.1 d.2.2.2.2.2.2.2.2.1 d.2.2.2.2.2.2.2.2.2.1
def Kv:qA:=⟨[yC9],[(.exit 2,qRy)],Q4,fun k d=>yD9 (Q5 k k) d,fun b x _ K=>K (.exit 2) (zP b qRy (((),(),()),((x.1.1,x.1.2.1,x.1.2.2,()),(x.2.1.1,x.2.1.2.1,x.2.1.2.2,()),x.2.2.1,x.2.2.2.1,x.2.2.2.2.1,x.2.2.2.2.2.1,x.2.2.2.2.2.2.1,x.2.2.2.2.2.2.2,())))⟩
def Q6:qB:=⟨[43,44],[(4,Ku),(9,Kv)],[],true⟩
theorem yPj:zZ prog 1000 0 48 (zX (zY f18) 0) Ku:=lp (A:=Q6) Ku (fun d=>(d.1.2.2.1.1,(vT d.2.1),(d.2.2.1.1,d.2.2.1.2.1,d.2.2.1.2.2.1),(d.2.2.2.1.1,d.2.2.2.1.2.1,d.2.2.2.1.2.2.1),d.2.2.2.2.1,d.2.2.2.2.2.1,d.2.2.2.2.2.2.1,d.2.2.2.2.2.2.2.1,d.2.2.2.2.2.2.2.2.1)) yAh Q2 qUo (e2 Gm v7) zF
theorem yQr:zZ prog 1000 0 48 (zX (zY f18) 1) Kv:=lp (A:=Q6) Kv (fun d=>((d.2.1.1,d.2.1.2.1,d.2.1.2.2.1),(d.2.2.1.1,d.2.2.1.2.1,d.2.2.1.2.2.1),d.2.2.2.1,d.2.2.2.2.1,d.2.2.2.2.2.1,d.2.2.2.2.2.2.1,d.2.2.2.2.2.2.2.1,d.2.2.2.2.2.2.2.2.1)) yD9 Q5 yHu (e2 Gm v7) zF
def yUl:=zK 18 [.agg lR] (.agg Kw) (fun k d=>iU k (vT d)) (fun x=>(jN x ()))
theorem Kx:zB prog yUl:=fA (rs:=.agg Kw) f18 Q6 (fun d=>(vH d)) (e2 Gm v7) (loopsOK_of (n:=2) (by kernel_rfl) fun i hi=>match i,hi with|0,_=>⟨Ku,by kernel_rfl,yPj⟩|1,_=>⟨Kv,by kernel_rfl,yQr⟩|i+2,hi=>absurd hi (by omega))
def yM3:=zK 45 [.c .bool] (.c .i) (fun k d=>Ip k d.1) (fun x=>(x,()))
theorem Q7:zB prog yM3:=fA (rs:=.c .i) f45 n0 (fun d=>d.1) e0 zF
def yJ7:zG:=⟨[(3,.c (.lit (.osl 1001000 none))),(5,.c .i),(6,.c .i),(11,.c (.dat false .i)),(12,.c .i),(13,.c .i)],[.arr true (.int .u8)],[]⟩
def yJc:zG:=⟨[(3,.c (.lit (.osl 1001000 none))),(11,.c (.dat false .i)),(12,.c .i),(13,.c .i)],[.arr true (.int .u8)],[]⟩
def qWy (f:Q8)(d:yJ7.den):=f d.1.2.1.1 d.1.2.2.1.1 d.1.2.2.2.1.1 d.1.2.2.2.2.1.1 d.1.2.2.2.2.2.1.1 d.2.1
def Q9:qA:=⟨[yJ7],[(.exit 2,yJc)],Ra,fun k d=>qWy (sb k k) d,fun b x _ K=>K (.exit 2) (zP b yJc (((),(x.1,()),(x.2.1,()),(x.2.2.1,()),()),(x.2.2.2,())))⟩
def yAb:zG:=⟨[(3,.c (.lit (.osl 1001000 none))),(11,.c (.dat false .i)),(12,.c .i),(13,.c .i)],[.arr true (.int .u8)],[]⟩
def yKd:zG:=⟨[(3,.c (.lit (.osl 1001000 none)))],[.arr true (.int .u8)],[]⟩
def yC2 (f:Rb)(d:yAb.den):=f d.1.2.1.1 d.1.2.2.1.1 d.1.2.2.2.1.1 d.2.1
def Rc:qA:=⟨[yAb],[(.exit 0,yKd)],AC,fun k d=>yC2 (uA k k) d,fun b x _ K=>K (.exit 0) (zP b yKd (((),()),(x,())))⟩
def Re:qB:=⟨[],[(6,Q9),(3,Rc)],[],true⟩
theorem yZj:zZ prog 1000 0 31 (zX (zX (zY f70) 0) 0) Q9:=lp (A:=Re) Q9 (fun d=>(d.1.2.1.1,d.1.2.2.1.1,d.1.2.2.2.1.1,d.2.1)) qWy sb Il e0 zF
theorem yXe:zZ prog 1000 0 31 (zX (zY f70) 0) Rc:=lp (A:=Re) Rc (fun d=>d.2.1) yC2 uA yq e0 (qN yZj)
def vBi:=zK 70 [.c (.dat false .i)] (.c (.own (.int .u8))) (fun k d=>sd k d.1) (fun x=>(x,()))
theorem Ky:zB prog vBi:=fA (rs:=.c (.own (.int .u8))) f70 Re (fun d=>d.1) e0 (qN yXe)
def vI0:=zK 81 [.c (.dat false .i)] (.c (.own (.int .u8))) (fun k d=>Im k d.1) (fun x=>(x,()))
theorem yKi:zB prog vI0:=fA (rs:=.c (.own (.int .u8))) f81 n0 (fun d=>d.1) (e1 Ky) zF
def yIe:zG:=⟨[(3,.c (.lit (.osl 1001000 none))),(6,.c (.dat false (.sl .i))),(7,.c .i),(8,.c .i)],[.arr true (.int .u8)],[(3,none,(.int .u8),false)]⟩
def yHp:zG:=⟨[(3,.c (.lit (.osl 1001000 none)))],[.arr true (.int .u8)],[]⟩
def yJb (f:Rf)(d:yIe.den):=f d.1.2.1.1 d.1.2.2.1.1 d.1.2.2.2.1.1 d.2.1
def Rg:qA:=⟨[yIe],[(.exit 0,yHp)],AC,fun k d=>yJb (yr k k) d,fun b x _ K=>K (.exit 0) (zP b yHp (((),()),(x,())))⟩
def qTh:qB:=⟨[],[(3,Rg)],[],true⟩
theorem vGd:zZ prog 1000 0 18 (zX (zY f46) 0) Rg:=lp (A:=qTh) Rg (fun d=>d.2.1) yJb yr yt (e1 yKi) zF
def yO5:=zK 46 [.c (.dat false (.sl .i))] (.c (.own (.int .u8))) (fun k d=>Ek k d.1) (fun x=>(x,()))
theorem Rh:zB prog yO5:=fA (rs:=.c (.own (.int .u8))) f46 qTh (fun d=>d.1) (e1 yKi) (qN vGd)
def qT5:zG:=⟨[(1,.c (.lit (.ptr 1001000 0))),(3,.c (.lit (.ptr 1001001 0))),(4,.c (.lit (.osl 1001002 none))),(39,.c (.dat true qZ)),(40,.c .i),(41,.c .i)],[.box true ic,.box true fb,.arr true (.sl .i)],[]⟩
def yA4:zG:=⟨[(1,.c (.lit (.ptr 1001000 0))),(3,.c (.lit (.ptr 1001001 0))),(4,.c (.lit (.osl 1001002 none)))],[.box true ic,.box true fb,.arr true (.sl .i)],[]⟩
def yE8 (f:Ri)(d:qT5.den):=f d.1.2.2.2.1.1 d.1.2.2.2.2.1.1 d.1.2.2.2.2.2.1.1 (vH d.2.1) (wI d.2.2.1) d.2.2.2.1
def Kz:qA:=⟨[qT5],[(.exit 0,yA4)],Rj,fun k d=>yE8 (uB k k) d,fun b x _ K=>K (.exit 0) (zP b yA4 (((),(),(),()),((jN x.1 ()),(jF x.2.1 ()),x.2.2,())))⟩
def yI3:zG:=⟨[(1,.c (.lit (.ptr 1001000 0))),(4,.c (.lit (.osl 1001001 none))),(79,.c (.dat true zI)),(80,.c .i),(81,.c .i)],[.box true ic,.arr true (.sl .i)],[]⟩
def yL3:zG:=⟨[(1,.c (.lit (.ptr 1001000 0))),(4,.c (.lit (.osl 1001001 none)))],[.box true ic,.arr true (.sl .i)],[]⟩
def qTw (f:Rk)(d:yI3.den):=f d.1.2.2.1.1 d.1.2.2.2.1.1 d.1.2.2.2.2.1.1 (vH d.2.1) d.2.2.1
def KA:qA:=⟨[yI3],[(.exit 2,yL3)],Rl,fun k d=>qTw (uC k k) d,fun b x _ K=>K (.exit 2) (zP b yL3 (((),(),()),((jN x.1 ()),x.2,())))⟩
def Rm:qB:=⟨[],[(4,Kz),(14,KA)],[],true⟩
theorem vHd:zZ prog 1000 0 110 (zX (zY f17) 0) Kz:=lp (A:=Rm) Kz (fun d=>((vH d.2.1),(wI d.2.2.1),d.2.2.2.1)) yE8 uB yu (e2 Q7 Rh) zF
theorem vI6:zZ prog 1000 0 110 (zX (zY f17) 1) KA:=lp (A:=Rm) KA (fun d=>((vH d.2.1),d.2.2.1)) qTw uC yv (e2 Q7 Rh) zF
def vEl:=zK 17 [.agg Gn] (.c (.own (.int .u8))) (fun k d=>ft k (vH d)) (fun x=>(x,()))
theorem pX:zB prog vEl:=fA (rs:=.c (.own (.int .u8))) f17 Rm (fun d=>d.1) (e2 Q7 Rh) (loopsOK_of (n:=2) (by kernel_rfl) fun i hi=>match i,hi with|0,_=>⟨Kz,by kernel_rfl,vHd⟩|1,_=>⟨KA,by kernel_rfl,vI6⟩|i+2,hi=>absurd hi (by omega))
def yX2:=zK 76 [.c (.dat false (.int .u8))] (.tup [(false,[.own (.int .u8)]),(false,[.bool])]) (fun k d=>Ej k d.1) (fun x=>(x.1,x.2,()))
theorem qYw:zB prog yX2:=fA (rs:=.tup [(false,[.own (.int .u8)]),(false,[.bool])]) f76 n0 (fun d=>(d.1,d.2.1)) e0 zF
def yPk:=zK 77 [.ptr Gk] (.c .i) (fun k d=>Qs k (jS d)) (fun x=>(x,()))
theorem yNe:zB prog yPk:=fA (rs:=.c .i) f77 n0 (fun d=>d.1) e0 zF
def yT1:=zK 125 [.ptr Gk] (.c .bool) (fun k d=>KB k (jS d)) (fun x=>(x,()))
theorem Rn:zB prog yT1:=fA (rs:=.c .bool) f125 n0 (fun d=>d.1) e0 zF
def vC8:=yV 126 [.ptr true ie] (.c .bool) [vG] 0 (fun k d=>gH k (jS d)) (fun x=>(x.1,(fa x.2 ())))
theorem Ro:zB prog vC8:=fX (rs:=.c .bool) (os:=[vG]) (ns:=0) f126 ⟨[],[],[(6,3)],true⟩ 1 (fun d=>(d.1,(Cf d))) e0 (xW (n:=1) (by kernel_rfl) fun i hi=>match i,hi with|0,_=>.inr ⟨by kernel_rfl,zF⟩|i+1,hi=>absurd hi (by omega))
def yTc:=yV 78 [.ptr true ie,.c (.p .i)] (.c .i) [vG] 0 (fun k d=>J7 k (jS d) d.2.2.2.2.2.2.2.2.2.2.1) (fun x=>(x.1,(fa x.2 ())))
theorem yWo:zB prog yTc:=fX (rs:=.c .i) (os:=[vG]) (ns:=0) f78 n0 1 (fun d=>(d.1,(Cf d))) (e3 Rn QM Ro) zF
def yZp:=yV 79 [.ptr true ie,.c (.p .i),.c (.p (.dat false (.int .u8)))] (.c .i) [vG] 0 (fun k d=>sK k (jS d) d.2.2.2.2.2.2.2.2.2.2.1 d.2.2.2.2.2.2.2.2.2.2.2.1) (fun x=>(x.1,(fa x.2 ())))
theorem qU9:zB prog yZp:=fX (rs:=.c .i) (os:=[vG]) (ns:=0) f79 n0 1 (fun d=>(d.1,(Cf d))) (e3 Rn QM Ro) zF
def yUd:=yV 80 [.ptr true ie] (.c .i) [vG] 0 (fun k d=>pV k (jS d)) (fun x=>(x.1,(fa x.2 ())))
theorem qX2:zB prog yUd:=fX (rs:=.c .i) (os:=[vG]) (ns:=0) f80 ⟨[],[],[(4,3)],true⟩ 1 (fun d=>(d.1,(Cf d))) (e2 Rn Ro) (xW (n:=1) (by kernel_rfl) fun i hi=>match i,hi with|0,_=>.inr ⟨by kernel_rfl,zF⟩|i+1,hi=>absurd hi (by omega))
def yOd:=yV 44 [.ptr true ie,.c (.p .i),.c (.p .i),.c (.p (.dat false (.int .u8)))] (.c .i) [vG] 0 (fun k d=>F5 k (jS d) d.2.2.2.2.2.2.2.2.2.2.1 d.2.2.2.2.2.2.2.2.2.2.2.1 d.2.2.2.2.2.2.2.2.2.2.2.2.1) (fun x=>(x.1,(fa x.2 ())))
theorem yAj:zB prog yOd:=fX (rs:=.c .i) (os:=[vG]) (ns:=0) f44 n0 1 (fun d=>(d.1,(Cf d))) (e6 Ky qYw yNe yWo qU9 qX2) zF
def vFk:=H7 16 [.ptr true ie,.c (.p (.dat false (.int .u8)))] (.tup [(false,[.link 1]),(false,lS),(false,og),(false,qO)]) [vG,KC] 1 (.tup [(false,[.nilp]),(false,[.own (.int .u8)]),(false,[.own (.sl (.int .u8))]),(false,qO)]) [vG] 0 (fun k d=>J8 k (jS d) d.2.2.2.2.2.2.2.2.2.2.1) (fun x=>((),x.1,x.2.1,x.2.2.1,(fa x.2.2.2.1 ((),(jF x.2.2.2.2 ()))))) (fun x=>((),x.1,x.2.1,x.2.2.1,(fa x.2.2.2 ())))
theorem yBn:zB prog vFk:=fN (rs:=.tup [(false,[.link 1]),(false,lS),(false,og),(false,qO)]) (os:=[vG,KC]) (ns:=1) (rs2:=.tup [(false,[.nilp]),(false,[.own (.int .u8)]),(false,[.own (.sl (.int .u8))]),(false,qO)]) (os2:=[vG]) (ns2:=0) f16 n0 1 (fun d=>(d.2.1,d.2.2.1,d.2.2.2.1,(yAz d),(vIz d))) (fun d=>(d.2.1,d.2.2.1,d.2.2.2.1,(yAz d))) (e2 QV yAj) zF
def yV9:=zK 83 [.c (.dat true (.int .u8))] (.tup [(false,oe),(false,lS),(false,[.bool])]) (fun k d=>Iq k d.1) (fun x=>(x.1,x.2.1,x.2.2,()))
theorem vFv:zB prog yV9:=fA (rs:=.tup [(false,oe),(false,lS),(false,[.bool])]) f83 n0 (fun d=>(d.1,d.2.1,d.2.2.1)) (e1 Gl) zF
def yZv:=yV 51 [.ptr true [.p (.dat true (.int .u8)),.p .bool]] (.c (.own .i)) [[.fro (.int .u8),.bool]] 0 (fun k d=>sM k (d.1,d.2.1)) (fun x=>(x.1,x.2.1,x.2.2,()))
theorem Cg:zB prog yZv:=fX (rs:=.c (.own .i)) (os:=[[.fro (.int .u8),.bool]]) (ns:=0) f51 n0 1 (fun d=>(d.1,(d.2.1,d.2.2.1))) (e1 vFv) zF
def ySc:=yV 49 [.ptr true [.p (.dat true (.int .u8)),.p .bool],.c (.p .i)] (.c (.own .i)) [[.fro (.int .u8),.bool]] 0 (fun k d=>BZ k (d.1,d.2.1) d.2.2.1) (fun x=>(x.1,x.2.1,x.2.2,()))
theorem Rp:zB prog ySc:=fX (rs:=.c (.own .i)) (os:=[[.fro (.int .u8),.bool]]) (ns:=0) f49 n0 1 (fun d=>(d.1,(d.2.1,d.2.2.1))) (e1 Cg) zF
def qU0:zG:=⟨[(0,.c (.lit (.ptr 1001000 0))),(1,.c .i),(5,.c (.lit (.osl 1001001 none)))],[.box true Ch,.arr true (.sl .i)],[(5,none,(.sl .i),false)]⟩
def yFs:zG:=⟨[(0,.c (.lit (.ptr 1001000 0))),(5,.c (.lit (.osl 1001001 none)))],[.box true Ch,.arr true (.sl .i)],[]⟩
def yBj (f:Rq)(d:qU0.den):=f d.1.2.1.1 (d.2.1.1,d.2.1.2.1) d.2.2.1
def Rr:qA:=⟨[qU0],[(.exit 0,yFs)],Rs,fun k d=>yBj (Gc k k) d,fun b x _ K=>K (.exit 0) (zP b yFs (((),(),()),((x.1.1,x.1.2,()),x.2,())))⟩
def yMb:qB:=⟨[],[(2,Rr)],[],true⟩
theorem yYr:zZ prog 1000 1 23 (zX (zY f50) 0) Rr:=lp (A:=yMb) Rr (fun d=>((d.2.1.1,d.2.1.2.1),d.2.2.1)) yBj Gc J9 (e1 Cg) zF
def vI9:=yV 50 [.ptr true [.p (.dat true (.int .u8)),.p .bool],.c (.p .i)] (.c (.own (.sl .i))) [[.fro (.int .u8),.bool]] 0 (fun k d=>B1 k (d.1,d.2.1) d.2.2.1) (fun x=>(x.1,x.2.1,x.2.2,()))
theorem Rt:zB prog vI9:=fX (rs:=.c (.own (.sl .i))) (os:=[[.fro (.int .u8),.bool]]) (ns:=0) f50 yMb 1 (fun d=>(d.1,(d.2.1,d.2.2.1))) (e1 Cg) (qN yYr)
def yQa:=zK 52 [.c (.dat false (.int .u8)),.c (.dat false (.int .u8))] (.c .bool) (fun k d=>Qx k d.1 d.2.1) (fun x=>(x,()))
theorem Ru:zB prog yQa:=fA (rs:=.c .bool) f52 n0 (fun d=>d.1) e0 zF
def yMy:zG:=⟨[(0,.c (.dat true (.int .u8))),(2,.c (.lit (.ptr 1001000 0))),(4,.c (.lit (.ptr 1001001 0))),(5,.c (.lit (.osl 1001002 none))),(6,.c (.lit (.ptr 1001003 0))),(7,.c .i)],[.box true ka,.box true Ch,.arr true .i,.box true yCj,.arr true qZ],[(6,some 1,qZ,false)]⟩
def qUv:zG:=⟨[(0,.c (.dat true (.int .u8))),(2,.c (.lit (.ptr 1001000 0))),(4,.c (.lit (.ptr 1001001 0))),(5,.c (.lit (.osl 1001002 none))),(6,.c (.lit (.ptr 1001003 0)))],[.box true ka,.box true Ch,.arr true .i,.box true yCj,.arr true qZ],[]⟩
def yGx (f:Rv)(d:yMy.den):=f d.1.1.1 d.1.2.2.2.2.2.1.1 (d.2.1.1,d.2.1.2.1,d.2.1.2.2.1) (d.2.2.1.1,d.2.2.1.2.1) d.2.2.2.1 (d.2.2.2.2.1.1,d.2.2.2.2.1.2.1,d.2.2.2.2.1.2.2.1) d.2.2.2.2.2.1
def KD:qA:=⟨[yMy],[(.exit 0,qUv)],Rw,fun k d=>yGx (B2 k k) d,fun b x _ K=>K (.exit 0) (zP b qUv (((x.1,()),(),(),(),(),()),((x.2.1.1,x.2.1.2.1,x.2.1.2.2,()),(x.2.2.1.1,x.2.2.1.2,()),x.2.2.2.1,(x.2.2.2.2.1.1,x.2.2.2.2.1.2.1,x.2.2.2.2.1.2.2,()),x.2.2.2.2.2,())))⟩
def yJv:zG:=⟨[(0,.c (.dat true (.int .u8))),(2,.c (.lit (.ptr 1001000 0))),(4,.c (.lit (.ptr 1001001 0))),(6,.c (.lit (.ptr 1001002 0))),(9,.c .i)],[.box true ka,.box true Ch,.box true yIk,.arr true qZ,.arr true (.sl .i),.arr true .i,.arr true (.sl .i),.arr true .i,.arr true (.sl .i),.arr true zI],[(6,some 7,zI,false)]⟩
def qUm:zG:=⟨[(0,.c (.dat true (.int .u8))),(2,.c (.lit (.ptr 1001000 0))),(4,.c (.lit (.ptr 1001001 0))),(6,.c (.lit (.ptr 1001002 0)))],[.box true ka,.box true Ch,.box true yIk,.arr true qZ,.arr true (.sl .i),.arr true .i,.arr true (.sl .i),.arr true .i,.arr true (.sl .i),.arr true zI],[]⟩
def yEv (f:Rx)(d:yJv.den):=f d.1.1.1 d.1.2.2.2.2.1.1 (d.2.1.1,d.2.1.2.1,d.2.1.2.2.1) (d.2.2.1.1,d.2.2.1.2.1) (d.2.2.2.1.1,d.2.2.2.1.2.1,d.2.2.2.1.2.2.1) d.2.2.2.2.1 d.2.2.2.2.2.1 d.2.2.2.2.2.2.1 d.2.2.2.2.2.2.2.1 d.2.2.2.2.2.2.2.2.1 d.2.2.2.2.2.2.2.2.2.1 d.2.2.2.2.2.2.2.2.2.2.1
def KE:qA:=⟨[yJv],[(.exit 2,qUm)],Ry,fun k d=>yEv (B3 k k) d,fun b x _ K=>K (.exit 2) (zP b qUm (((x.1,()),(),(),(),()),((x.2.1.1,x.2.1.2.1,x.2.1.2.2,()),(x.2.2.1.1,x.2.2.1.2,()),(x.2.2.2.1.1,x.2.2.2.1.2.1,x.2.2.2.1.2.2,()),x.2.2.2.2.1,x.2.2.2.2.2.1,x.2.2.2.2.2.2.1,x.2.2.2.2.2.2.2.1,x.2.2.2.2.2.2.2.2.1,x.2.2.2.2.2.2.2.2.2.1,x.2.2.2.2.2.2.2.2.2.2,())))⟩
def Rz:qB:=⟨[],[(5,KD),(15,KE)],[],true⟩
theorem vHb:zZ prog 1000 0 146 (zX (zY f19) 0) KD:=lp (A:=Rz) KD (fun d=>(d.1.1.1,(d.2.1.1,d.2.1.2.1,d.2.1.2.2.1),(d.2.2.1.1,d.2.2.1.2.1),d.2.2.2.1,(d.2.2.2.2.1.1,d.2.2.2.2.1.2.1,d.2.2.2.2.1.2.2.1),d.2.2.2.2.2.1)) yGx B2 Ka (e5 Rp Rt Cg pX Ru) zF
theorem vHj:zZ prog 1000 0 146 (zX (zY f19) 1) KE:=lp (A:=Rz) KE (fun d=>(d.1.1.1,(d.2.1.1,d.2.1.2.1,d.2.1.2.2.1),(d.2.2.1.1,d.2.2.1.2.1),(d.2.2.2.1.1,d.2.2.2.1.2.1,d.2.2.2.1.2.2.1),d.2.2.2.2.1,d.2.2.2.2.2.1,d.2.2.2.2.2.2.1,d.2.2.2.2.2.2.2.1,d.2.2.2.2.2.2.2.2.1,d.2.2.2.2.2.2.2.2.2.1,d.2.2.2.2.2.2.2.2.2.2.1)) yEv B3 Kb (e5 Rp Rt Cg pX Ru) zF
def vG6:=zK 19 [.c (.dat true (.int .u8))] (.tup [(true,oh),(false,[.bool])]) (fun k d=>B4 k d.1) (fun x=>(jN x.1 (x.2,())))
theorem KF:zB prog vG6:=fA (rs:=.tup [(true,oh),(false,[.bool])]) f19 Rz (fun d=>((vH d),d.2.2.2.2.2.2.2.2.2.2.2.1)) (e5 Rp Rt Cg pX Ru) (loopsOK_of (n:=2) (by kernel_rfl) fun i hi=>match i,hi with|0,_=>⟨KD,by kernel_rfl,vHb⟩|1,_=>⟨KE,by kernel_rfl,vHj⟩|i+2,hi=>absurd hi (by omega))
def yTq:=zK 67 [.c .i] (.c .i) (fun k d=>rZ k d.1) (fun x=>(x,()))
theorem KG:zB prog yTq:=fA (rs:=.c .i) f67 n0 (fun d=>d.1) e0 zF
def yU1:=zK 25 [.c (.dat false (.int .u8))] (.tup [(true,lT),(false,qO)]) (fun k d=>pC k d.1) (fun x=>(j0 x.1 (x.2,())))
theorem Gp:zB prog yU1:=fA (rs:=.tup [(true,lT),(false,qO)]) f25 n0 (fun d=>((dP d),d.2.2.2.2.2.2.2.1)) (e2 Gl KG) zF
def vGz:=zK 21 [.c (.dat false (.int .u8))] (.tup [(true,Ck),(false,qO)]) (fun k d=>pT k d.1) (fun x=>(sP x.1 (x.2,())))
theorem KH:zB prog vGz:=fA (rs:=.tup [(true,Ck),(false,qO)]) f21 n0 (fun d=>((gI d),d.2.2.2.2.2.2.2.2.1)) (e2 Gl Gp) zF
def yWs:=zK 103 [.c .i] (.c .bool) (fun k d=>JM k d.1) (fun x=>(x,()))
theorem yPt:zB prog yWs:=fA (rs:=.c .bool) f103 n0 (fun d=>d.1) e0 zF
def yW8:=zK 104 [.c .i] (.c .bool) (fun k d=>FC k d.1) (fun x=>(x,()))
theorem vIu:zB prog yW8:=fA (rs:=.c .bool) f104 n0 (fun d=>d.1) e0 zF
def qZj:zG:=⟨[(13,.c (.dat true .i)),(14,.c .i),(15,.c .i)],[],[]⟩
def yJ2:zG:=⟨[],[],[]⟩
def qTd:zG:=⟨[(2,.c .bool)],[],[]⟩
def qVq (f:RA)(d:qZj.den):=f d.1.1.1 d.1.2.1.1 d.1.2.2.1.1
def RB:qA:=⟨[qZj],[(.exit 0,yJ2),(.ret,qTd)],(Unit⊕Bool),fun k d=>qVq (mK k k) d,fun b x _ K=>match x with|.inl x=>K (.exit 0) (zP b yJ2 ((),()))|.inr x=>K .ret (zP b qTd (((x,()),()),()))⟩
def yCw:qB:=⟨[],[(5,RB)],[],true⟩
theorem vBa:zZ prog 1000 0 22 (zX (zY f105) 0) RB:=lp (A:=yCw) RB (fun d=>match d with|.inl d=>.inl ()|.inr d=>.inr d.1.1.1) qVq mK lO (e1 KG) zF
def vH1:=zK 105 [.agg wH] (.c .bool) (fun k d=>kQ k (dP d)) (fun x=>(x,()))
theorem yMq:zB prog vH1:=fA (rs:=.c .bool) f105 yCw (fun d=>d.1) (e1 KG) (qN vBa)
def vD7:=zK 60 [.agg lR,.agg om,.agg Gq] (.c .i) (fun k d=>BD k (vT d) (oc d) (yIw d)) (fun x=>(x,()))
theorem yPm:zB prog vD7:=fA (rs:=.c .i) f60 n0 (fun d=>d.1) (e3 yPt vIu yMq) zF
def yW6:=zK 135 [.agg wH,.ptr [.i]] (.c .bool) (fun k d=>(mN (PZ k) d)) (fun x=>(x,()))
theorem yIi:zB prog yW6:=fA (rs:=.c .bool) f135 ⟨[],[],[],false⟩ (fun d=>d.1) e0 zF
def yCq:zG:=⟨[(1,.c (.lit (.fn 135 [1001000]))),(5,.c (.lit (.osl 1001001 none))),(8,.c (.dat false zI)),(9,.c .i),(10,.c .i)],[.robox [.i],.arr true zI],[(5,none,zI,false)]⟩
def yL2:zG:=⟨[(5,.c (.lit (.osl 1001000 none)))],[.arr true zI],[]⟩
def yI6 (f:RD)(d:yCq.den):=f d.1.2.2.1.1 d.1.2.2.2.1.1 d.1.2.2.2.2.1.1 d.2.1.1 d.2.2.1
def RE:qA:=⟨[yCq],[(.exit 0,yL2)],RF,fun k d=>yI6 (Ft k k) d,fun b x _ K=>K (.exit 0) (zP b yL2 (((),()),(x,())))⟩
def qTs:qB:=⟨[],[(3,RE)],[],false⟩
theorem yVu:zZ prog 1000 0 23 (zX (zY f134) 0) RE:=lp (A:=qTs) RE (fun d=>d.2.1) yI6 Ft Bi (e1 yIi) zF
def vKa:=zK 134 [.c (.dat false zI),.fn 135 [[.i]]] (.c (.own zI)) (fun k d=>PY k d.1 d.2.1) (fun x=>(x,()))
theorem yNa:zB prog vKa:=fA (rs:=.c (.own zI)) f134 qTs (fun d=>d.1) (e1 yIi) (qN yVu)
def yXt:=zK 106 [.c (.dat false zI),.c .i] (.c (.own zI)) (fun k d=>Fs k d.1 d.2.1) (fun x=>(x,()))
theorem Gr:zB prog yXt:=fA (rs:=.c (.own zI)) f106 ⟨[],[],[],false⟩ (fun d=>d.1) (e1 yNa) zF
def yRn:=yV 62 [.ptr true [.p .i,.p (.nil),.p .i,.p .i,.p .i,.p .i,.p (.nil),.p (.nil),.p (.nil),.p (.nil),.p (.nil),.p (.nil),.p (.nil),.p (.nil),.p .i,.p .bool,.p .i,.p (.nil)],.c (.p .i),.c (.p (.dat false .i))] (.tup []) [qTk] 0 (fun k d=>yFb k (d.1,(RG d (d.2.2.2.2.2.2.2.2.2.2.2.2.2.2.1,d.2.2.2.2.2.2.2.2.2.2.2.2.2.2.2.1,d.2.2.2.2.2.2.2.2.2.2.2.2.2.2.2.2.1))) d.2.2.2.2.2.2.2.2.2.2.2.2.2.2.2.2.2.2.1 d.2.2.2.2.2.2.2.2.2.2.2.2.2.2.2.2.2.2.2.1) (fun x=>(wR x ()))
theorem yQ6:zB prog yRn:=fX (rs:=.tup []) (os:=[qTk]) (ns:=0) f62 n0 1 (fun d=>(jM d)) e0 zF
def vCy:=zK 61 [.agg om,.c .i] (.c (.own qV)) (fun k d=>FP k (vH d) d.2.2.2.2.2.2.2.2.2.2.2.1) (fun x=>(x,()))
theorem yR7:zB prog vCy:=fA (rs:=.c (.own qV)) f61 n0 (fun d=>d.1) (e2 Gr yQ6) zF
def yXk:=yV 62 [.ptr true sQ,.c (.p .i),.c (.p (.dat false .i))] (.tup []) [wG] 0 (fun k d=>JZ k (ig d) d.2.2.2.2.2.2.2.2.2.2.2.2.2.2.2.2.2.2.1 d.2.2.2.2.2.2.2.2.2.2.2.2.2.2.2.2.2.2.2.1) (fun x=>(wR x ()))
theorem qSv:zB prog yXk:=fX (rs:=.tup []) (os:=[wG]) (ns:=0) f62 n0 1 (fun d=>(jM d)) e0 zF
def yVy:=zK 53 [.c .i,.c .i,.c .i] (.c .bool) (fun k d=>yS k d.1 d.2.1 d.2.2.1) (fun x=>(x,()))
theorem fc:zB prog yVy:=fA (rs:=.c .bool) f53 n0 (fun d=>d.1) e0 zF
def yVf:=zK 182 [.agg lR,.c .i] (.c .bool) (fun k d=>Fz k (vT d) d.2.2.2.2.2.1) (fun x=>(x,()))
theorem vE9:zB prog yVf:=fA (rs:=.c .bool) f182 n0 (fun d=>d.1) e0 zF
def vIn:=zK 163 [.agg lR,.c .i,.agg wH] (.c .bool) (fun k d=>JI k (vT d) d.2.2.2.2.2.1 (qZi d)) (fun x=>(x,()))
theorem vJc:zB prog vIn:=fA (rs:=.c .bool) f163 n0 (fun d=>d.1) (e1 vE9) zF
def yY4:=zK 141 [.agg lR,.c .i,.c .i] (.c .i) (fun k d=>vg k (vT d) d.2.2.2.2.2.1 d.2.2.2.2.2.2.1) (fun x=>(x,()))
theorem RH:zB prog yY4:=fA (rs:=.c .i) f141 n0 (fun d=>d.1) e0 zF
def vHe:=zK 136 [.agg lR,.c .i,.agg wH] (.c .i) (fun k d=>BA k (vT d) d.2.2.2.2.2.1 (qZi d)) (fun x=>(x,()))
theorem yDx:zB prog vHe:=fA (rs:=.c .i) f136 n0 (fun d=>d.1) (e2 vJc RH) zF
def ySt:=zK 180 [.c .i] (.c .bool) (fun k d=>Jh k d.1) (fun x=>(x,()))
theorem vD0:zB prog ySt:=fA (rs:=.c .bool) f180 n0 (fun d=>d.1) e0 zF
def vHs:=zK 159 [.c .i,.c .i] (.c .bool) (fun k d=>Jg k d.1 d.2.1) (fun x=>(x,()))
theorem qW9:zB prog vHs:=fA (rs:=.c .bool) f159 n0 (fun d=>d.1) (e1 vD0) zF
def vDh:=zK 160 [.c .i] (.c .bool) (fun k d=>Jj k d.1) (fun x=>(x,()))
theorem yL1:zB prog vDh:=fA (rs:=.c .bool) f160 n0 (fun d=>d.1) e0 zF
def qXu:zG:=⟨[(0,.c (.dat false .i)),(1,.c .i),(6,.c .i),(7,.c .i),(8,.c .i)],[],[]⟩
def qZw:zG:=⟨[(0,.c (.dat false .i)),(1,.c .i),(6,.c .i),(7,.c .i)],[],[]⟩
def yF0 (f:RI)(d:qXu.den):=f d.1.1.1 d.1.2.1.1 d.1.2.2.1.1 d.1.2.2.2.1.1 d.1.2.2.2.2.1.1
def RJ:qA:=⟨[qXu],[(.exit 0,qZw)],RK,fun k d=>yF0 (Fe k k) d,fun b x _ K=>K (.exit 0) (zP b qZw (((x.1,()),(x.2.1,()),(x.2.2.1,()),(x.2.2.2,()),()),()))⟩
def yAv:qB:=⟨[],[(3,RJ)],[],true⟩
theorem vJz:zZ prog 1000 0 54 (zX (zY f131) 0) RJ:=lp (A:=yAv) RJ (fun d=>(d.1.1.1,d.1.2.1.1,d.1.2.2.1.1,d.1.2.2.2.1.1)) yF0 Fe Ji (e2 qW9 yL1) zF
def yS2:=zK 131 [.c (.dat false .i),.c .i] (.tup [(false,qO),(false,[.bool])]) (fun k d=>AW k d.1 d.2.1) (fun x=>(x.1,x.2,()))
theorem qVj:zB prog yS2:=fA (rs:=.tup [(false,qO),(false,[.bool])]) f131 yAv (fun d=>(d.1,d.2.1)) (e2 qW9 yL1) (qN vJz)
def yS8:=rV 165 false .i (.own .i) mA
theorem Gs:zB prog yS8:=fC f165 ⟨[],[],[],false⟩ e0 zF
theorem yR0 (A X:Option Addr)(n c vc:Nat)(w w':World)(rv:Value)(hr:(Builtin.append_ #[45,45] 45 #[.slice A n c,.slice X 1 vc]).run prog w=.ok rv w'):
    Calls prog 164 #[.slice A n c,.int .i64 n,.slice X 1 vc] w fun e lA=>e=.returned rv∧lA=w':=by
  have t0:prog.underlying 45=some (.slice 2):=by kernel_rfl
  have t3:prog.underlying 3=some (.int .i64):=by kernel_rfl
  have z0:∀w,(Go.sizeOf 2).run prog w=.ok 1 w:=fun w=>by kernel_rfl
  have u0:=run_underlying t0;have u3:=run_underlying t3
  go_enter Proofs.Tryz.func164,Proofs.Tryz.ntmps164
  go_wp2_with (at_builtin;refine Lib.wpList_append_run _ rfl _ _ _ _ rfl _ _ rfl rfl _ _ hr ?_)
  all_goals (go_ret;exact⟨rfl,rfl⟩)
theorem vAi:H8 prog 164 45 3 1 where
  ends:=yR0
  grow B off n c i X vo vc N G w w1 w2 w3 hi hnc aE RM hG hz hA hB:=by
    simp only[Nat.mul_one] at hA hB
    have t0:prog.underlying 45=some (.slice 2):=by kernel_rfl
    have t3:prog.underlying 3=some (.int .i64):=by kernel_rfl
    have z0:∀w,(Go.sizeOf 2).run prog w=.ok 1 w:=fun w=>by kernel_rfl
    have u0:=run_underlying t0;have u3:=run_underlying t3
    have mixed:prog.follows .mixedOrders=true:=fB
    have RN:¬((i:Int)=(n:Int)):=by omega
    have DJ:IntKind.i64.wrap ((i:Int)+1)=(i:Int)+1:=by rw[IntKind.wrap_i64];omega
    have dF:(0:Int)≤(i:Int)+1:=by omega
    have eM:i≤n:=by omega
    have eg:((i:Int)+1).toNat=i+1:=by omega
    have RO:¬(c=i):=by omega
    have hz3:(c:Int)<(n:Int)+1:=by omega
    have RP:(i:Int)≤(n:Int):=by omega
    have hGi:¬(G=i):=by omega
    have RQ:¬(G=i+1):=by omega
    go_enter Proofs.Tryz.func164,Proofs.Tryz.ntmps164
    go_wp2_with (first
      |(at_builtin;refine Lib.wpList_append_run _ rfl _ _ _ _ rfl _ _ rfl rfl _ _ hz ?_)
      |(at_builtin;refine Ic _ rfl _ _ 45 45 rfl _ _ rfl rfl (hA _) ?_))
    go_region_law_o (refine Ie rfl _ _ 45 45 rfl (.slice (some ⟨N,(i+1),none⟩) (n+1-(i+1)) (G-(i+1))) (.slice (some ⟨B,off+i,none⟩) (n-i) (c-i)) (by simp[Act.eval,Act.put]) (by simp[Act.eval,Act.put]) (hB (G-(i+1)) (c-i)) ?_)
    go_wp2
    go_ret
    exact⟨rfl,rfl⟩
  shift B off n c i X vo vc w w1 w2 hi aE RM nz hA hB:=by
    simp only[Nat.mul_one] at hA hB
    have t0:prog.underlying 45=some (.slice 2):=by kernel_rfl
    have t3:prog.underlying 3=some (.int .i64):=by kernel_rfl
    have z0:∀w,(Go.sizeOf 2).run prog w=.ok 1 w:=fun w=>by kernel_rfl
    have u0:=run_underlying t0;have u3:=run_underlying t3
    have mixed:prog.follows .mixedOrders=true:=fB
    have RN:¬((i:Int)=(n:Int)):=by omega
    have DJ:IntKind.i64.wrap ((i:Int)+1)=(i:Int)+1:=by rw[IntKind.wrap_i64];omega
    have dF:(0:Int)≤(i:Int)+1:=by omega
    have eM:i≤n:=by omega
    have eg:((i:Int)+1).toNat=i+1:=by omega
    have RO:¬(c=i):=by omega
    have FQ:=fun lb cb=>ZP (P:=prog) (fo:=183) (tb:=4) (e:=2) (size:=1) Proofs.Tryz.func183 (by kernel_rfl) (by kernel_rfl) (by kernel_rfl) (by kernel_rfl) t0 z0 nz vo (off+(i+1)) vc lb cb
    have hb2:¬(c=i+1):=by omega
    have RP:(i:Int)≤(n:Int)+1:=by omega
    go_enter Proofs.Tryz.func164,Proofs.Tryz.ntmps164
    go_wp2_with (simp only[FQ])
    go_region_law_o (refine Ie rfl _ _ 45 45 rfl (.slice (some ⟨B,off+(i+1),none⟩) (n-i) (c-(i+1))) (.slice (some ⟨B,off+i,none⟩) (n+1-i) (c-i)) (by simp[Act.eval,Act.put]) (by simp[Act.eval,Act.put]) (hA _ _) ?_)
    go_wp2_with (at_builtin;refine Ic _ rfl _ _ 45 45 rfl _ _ rfl rfl (hB _) ?_)
    go_ret
    exact⟨rfl,rfl⟩
def yY8:Nat×kC:=(164,Oe .i 8)
theorem yXd:zB prog yY8:=ZX (e:=2) (fn:=f164) vAi
def vIv:=zK 137 [.c (.dat true .i),.c .i] (.tup [(false,[.fro .i]),(false,qO)]) (fun k d=>AY k d.1 d.2.1) (fun x=>(x.1,x.2,()))
theorem yDz:zB prog vIv:=fA (rs:=.tup [(false,[.fro .i]),(false,qO)]) f137 n0 (fun d=>(d.1,d.2.1)) (e3 qVj Gs yXd) zF
def ySz:=zK 120 [.agg wH,.ptr [.i]] (.c .bool) (fun k d=>(mN (Pq k) d)) (fun x=>(x,()))
theorem yD1:zB prog ySz:=fA (rs:=.c .bool) f120 ⟨[],[],[],false⟩ (fun d=>d.1) e0 zF
def yCe:zG:=⟨[(0,.c (.dat false zI)),(1,.c (.lit (.fn 120 [1001000]))),(7,.c .i),(8,.c .i)],[.robox [.i]],[]⟩
def qYc:zG:=⟨[],[],[]⟩
def qQ4:zG:=⟨[(4,.c .i)],[],[]⟩
def yEz (f:RR)(d:yCe.den):=f d.1.1.1 d.1.2.2.1.1 d.1.2.2.2.1.1 d.2.1.1
def RT:qA:=⟨[yCe],[(.exit 0,qYc),(.ret,qQ4)],(Unit⊕Int),fun k d=>yEz (AK k k) d,fun b x _ K=>match x with|.inl x=>K (.exit 0) (zP b qYc ((),()))|.inr x=>K .ret (zP b qQ4 (((x,()),()),()))⟩
def qXx:qB:=⟨[],[(2,RT)],[],false⟩
theorem ySg:zZ prog 1000 0 19 (zX (zY f119) 0) RT:=lp (A:=qXx) RT (fun d=>match d with|.inl d=>.inl ()|.inr d=>.inr d.1.1.1) yEz AK AL (e1 yD1) zF
def vAz:=zK 119 [.c (.dat false zI),.fn 120 [[.i]]] (.c .i) (fun k d=>Pr k d.1 d.2.1) (fun x=>(x,()))
theorem vE6:zB prog vAz:=fA (rs:=.c .i) f119 qXx (fun d=>d.1) (e1 yD1) (qN ySg)
def vBg:=zK 66 [.c (.dat false zI),.c .i] (.c .i) (fun k d=>lG k d.1 d.2.1) (fun x=>(x,()))
theorem sR:zB prog vBg:=fA (rs:=.c .i) f66 ⟨[],[],[],false⟩ (fun d=>d.1) (e1 vE6) zF
def yXj:=zK 181 [.c .i] (.c .bool) (fun k d=>Jc k d.1) (fun x=>(x,()))
theorem yTx:zB prog yXj:=fA (rs:=.c .bool) f181 ⟨[],[],[],false⟩ (fun d=>d.1) e0 zF
def vIs:=zK 162 [.c .i,.c .i] (.c .i) (fun k d=>E7 k d.1 d.2.1) (fun x=>(x,()))
theorem yP0:zB prog vIs:=fA (rs:=.c .i) f162 ⟨[],[],[],false⟩ (fun d=>d.1) (e1 yTx) zF
def yF3:zG:=⟨[(3,.c .i),(6,.c (.dat false .i)),(7,.c .i),(8,.c .i)],[],[]⟩
def yK0:zG:=⟨[(3,.c .i)],[],[]⟩
def yDp:zG:=⟨[(2,.c .i)],[],[]⟩
def qWl (f:RU)(d:yF3.den):=f d.1.1.1 d.1.2.1.1 d.1.2.2.1.1 d.1.2.2.2.1.1
def RV:qA:=⟨[yF3],[(.exit 0,yK0),(.ret,yDp)],(Int⊕Int),fun k d=>qWl (AM k k) d,fun b x _ K=>match x with|.inl x=>K (.exit 0) (zP b yK0 (((x,()),()),()))|.inr x=>K .ret (zP b yDp (((x,()),()),()))⟩
def qW2:qB:=⟨[],[(3,RV)],[],false⟩
theorem vFn:zZ prog 1000 0 18 (zX (zY f161) 0) RV:=lp (A:=qW2) RV (fun d=>match d with|.inl d=>.inl d.1.1.1|.inr d=>.inr d.1.1.1) qWl AM qV5 e0 zF
def yYz:=zK 161 [.c (.dat false .i)] (.c .i) (fun k d=>Jb k d.1) (fun x=>(x,()))
theorem vAt:zB prog yYz:=fA (rs:=.c .i) f161 qW2 (fun d=>d.1) e0 (qN vFn)
def vJy:=zK 133 [.agg wH,.agg wH] (.c .i) (fun k d=>(Gt (AN k) d)) (fun x=>(x,()))
theorem Cl:zB prog vJy:=fA (rs:=.c .i) f133 ⟨[],[],[],false⟩ (fun d=>d.1) (e2 yP0 vAt) zF
def yOg:=rV 167 false zI (.own zI) sn
theorem KI:zB prog yOg:=fC f167 ⟨[],[],[],false⟩ e0 zF
theorem vGn (A X:Option Addr)(n c vc:Nat)(w w':World)(rv:Value)(hr:(Builtin.append_ #[48,48] 48 #[.slice A n c,.slice X 1 vc]).run prog w=.ok rv w'):
    Calls prog 166 #[.slice A n c,.int .i64 n,.slice X 1 vc] w fun e lA=>e=.returned rv∧lA=w':=by
  have t0:prog.underlying 48=some (.slice 117):=by kernel_rfl
  have t3:prog.underlying 3=some (.int .i64):=by kernel_rfl
  have z0:∀w,(Go.sizeOf 117).run prog w=.ok 7 w:=fun w=>by kernel_rfl
  have u0:=run_underlying t0;have u3:=run_underlying t3
  go_enter Proofs.Tryz.func166,Proofs.Tryz.ntmps166
  go_wp2_with (at_builtin;refine Lib.wpList_append_run _ rfl _ _ _ _ rfl _ _ rfl rfl _ _ hr ?_)
  all_goals (go_ret;exact⟨rfl,rfl⟩)
theorem vDd:H8 prog 166 48 3 7 where
  ends:=vGn
  grow B off n c i X vo vc N G w w1 w2 w3 hi hnc aE RM hG hz hA hB:=by
    have t0:prog.underlying 48=some (.slice 117):=by kernel_rfl
    have t3:prog.underlying 3=some (.int .i64):=by kernel_rfl
    have z0:∀w,(Go.sizeOf 117).run prog w=.ok 7 w:=fun w=>by kernel_rfl
    have u0:=run_underlying t0;have u3:=run_underlying t3
    have mixed:prog.follows .mixedOrders=true:=fB
    have RN:¬((i:Int)=(n:Int)):=by omega
    have DJ:IntKind.i64.wrap ((i:Int)+1)=(i:Int)+1:=by rw[IntKind.wrap_i64];omega
    have dF:(0:Int)≤(i:Int)+1:=by omega
    have eM:i≤n:=by omega
    have eg:((i:Int)+1).toNat=i+1:=by omega
    have RO:¬(c=i):=by omega
    have hz3:(c:Int)<(n:Int)+1:=by omega
    have RP:(i:Int)≤(n:Int):=by omega
    have hGi:¬(G=i):=by omega
    have RQ:¬(G=i+1):=by omega
    go_enter Proofs.Tryz.func166,Proofs.Tryz.ntmps166
    go_wp2_with (first
      |(at_builtin;refine Lib.wpList_append_run _ rfl _ _ _ _ rfl _ _ rfl rfl _ _ hz ?_)
      |(at_builtin;refine Ic _ rfl _ _ 48 48 rfl _ _ rfl rfl (hA _) ?_))
    go_region_law_o (refine Ie rfl _ _ 48 48 rfl (.slice (some ⟨N,(i+1)*7,none⟩) (n+1-(i+1)) (G-(i+1))) (.slice (some ⟨B,off+i*7,none⟩) (n-i) (c-i)) (by simp[Act.eval,Act.put]) (by simp[Act.eval,Act.put]) (hB (G-(i+1)) (c-i)) ?_)
    go_wp2
    go_ret
    exact⟨rfl,rfl⟩
  shift B off n c i X vo vc w w1 w2 hi aE RM nz hA hB:=by
    have t0:prog.underlying 48=some (.slice 117):=by kernel_rfl
    have t3:prog.underlying 3=some (.int .i64):=by kernel_rfl
    have z0:∀w,(Go.sizeOf 117).run prog w=.ok 7 w:=fun w=>by kernel_rfl
    have u0:=run_underlying t0;have u3:=run_underlying t3
    have mixed:prog.follows .mixedOrders=true:=fB
    have RN:¬((i:Int)=(n:Int)):=by omega
    have DJ:IntKind.i64.wrap ((i:Int)+1)=(i:Int)+1:=by rw[IntKind.wrap_i64];omega
    have dF:(0:Int)≤(i:Int)+1:=by omega
    have eM:i≤n:=by omega
    have eg:((i:Int)+1).toNat=i+1:=by omega
    have RO:¬(c=i):=by omega
    have FQ:=fun lb cb=>ZP (P:=prog) (fo:=185) (tb:=4) (e:=117) (size:=7) Proofs.Tryz.func185 (by kernel_rfl) (by kernel_rfl) (by kernel_rfl) (by kernel_rfl) t0 z0 nz vo (off+(i+1)*7) vc lb cb
    have hb2:¬(c=i+1):=by omega
    have RP:(i:Int)≤(n:Int)+1:=by omega
    go_enter Proofs.Tryz.func166,Proofs.Tryz.ntmps166
    go_wp2_with (simp only[FQ])
    go_region_law_o (refine Ie rfl _ _ 48 48 rfl (.slice (some ⟨B,off+(i+1)*7,none⟩) (n-i) (c-(i+1))) (.slice (some ⟨B,off+i*7,none⟩) (n+1-i) (c-i)) (by simp[Act.eval,Act.put]) (by simp[Act.eval,Act.put]) (hA _ _) ?_)
    go_wp2_with (at_builtin;refine Ic _ rfl _ _ 48 48 rfl _ _ rfl rfl (hB _) ?_)
    go_ret
    exact⟨rfl,rfl⟩
def yPz:Nat×kC:=(166,Oe zI 56)
theorem KJ:zB prog yPz:=ZX (e:=117) (fn:=f166) vDd
def qWq:zG:=⟨[(0,.c (.dat true zI)),(3,.c (.lit (.ptr 1001000 0))),(6,.c .i)],[.box true iV],[]⟩
def yBq:zG:=⟨[(0,.c (.dat true zI)),(3,.c (.lit (.ptr 1001000 0))),(6,.c .i)],[.box true iV],[]⟩
def yI7 (f:RW)(d:qWq.den):=f d.1.1.1 d.1.2.2.1.1 (dP d.2.1)
def RX:qA:=⟨[qWq],[(.exit 1,yBq)],RY,fun k d=>yI7 (AO k k) d,fun b x _ K=>K (.exit 1) (zP b yBq (((x.1,()),(),(x.2.1,()),()),((j0 x.2.2 ()),())))⟩
def yHv:qB:=⟨[],[(6,RX)],[],true⟩
theorem vF8:zZ prog 1000 0 40 (zX (zY f138) 0) RX:=lp (A:=yHv) RX (fun d=>(d.1.1.1,d.1.2.2.1.1,(dP d.2.1))) yI7 AO AP (e4 sR Cl KI KJ) zF
def vBe:=zK 138 [.c (.dat true zI),.agg wH] (.tup [(false,[.fro zI]),(false,qO)]) (fun k d=>so k d.1 (Fc d)) (fun x=>(x.1,x.2,()))
theorem KK:zB prog vBe:=fA (rs:=.tup [(false,[.fro zI]),(false,qO)]) f138 yHv (fun d=>(d.1,d.2.1)) (e4 sR Cl KI KJ) (qN vF8)
def vD9:=yV 107 [.ptr true sS,.agg [.i,.i,.i,.i,.i,.i]] (.c .i) [wG] 0 (fun k d=>JJ k (jM d) (qZ0 d)) (fun x=>(x.1,(wR x.2 ())))
theorem vEf:zB prog vD9:=fX (rs:=.c .i) (os:=[wG]) (ns:=0) f107 n0 1 (fun d=>(d.1,(fW d))) (e4 fc yDx yDz KK) zF
def yNl:=zK 139 [.ptr RZ,.c .i] (.tup [(true,lT),(false,qO)]) (fun k d=>R0 k (jM d) d.2.2.2.2.2.2.2.2.2.2.2.2.2.2.2.2.2.2.1) (fun x=>(j0 x.1 (x.2,())))
theorem yDn:zB prog yNl:=fA (rs:=.tup [(true,lT),(false,qO)]) f139 n0 (fun d=>((dP d),d.2.2.2.2.2.2.2.1)) (e1 sR) zF
def yQ3:=yV 168 [.c (.own zI),.c (.p .i),.c (.p .i)] (.c (.own zI)) [] 0 (fun k d=>E6 k d.1 d.2.1 d.2.2.1) (fun x=>(x,()))
theorem yFq:zB prog yQ3:=fX (rs:=.c (.own zI)) (os:=[]) (ns:=0) f168 ⟨[],[],[],false⟩ 0 (fun d=>d.1) e0 zF
def vCs:=zK 140 [.c (.dat true zI),.c .i] (.tup [(false,[.fro zI]),(true,lT),(false,qO)]) (fun k d=>mF k d.1 d.2.1) (fun x=>(R1 x ()))
theorem mO:zB prog vCs:=fA (rs:=.tup [(false,[.fro zI]),(true,lT),(false,qO)]) f140 ⟨[],[],[],false⟩ (fun d=>(R2 d)) (e3 sR KI yFq) zF
def vBr:=yV 62 [.ptr true sS,.c (.p .i),.c (.p (.dat false .i))] (.tup []) [wG] 0 (fun k d=>sH k (jM d) d.2.2.2.2.2.2.2.2.2.2.2.2.2.2.2.2.2.2.1 d.2.2.2.2.2.2.2.2.2.2.2.2.2.2.2.2.2.2.2.1) (fun x=>(wR x ()))
theorem yA2:zB prog vBr:=fX (rs:=.tup []) (os:=[wG]) (ns:=0) f62 n0 1 (fun d=>(jM d)) e0 zF
def yQv:=zK 142 [.c (.dat true zI),.c .i,.c .i] (.tup [(false,[.fro zI]),(false,qO)]) (fun k d=>AQ k d.1 d.2.1 d.2.2.1) (fun x=>(x.1,x.2,()))
theorem qT2:zB prog yQv:=fA (rs:=.tup [(false,[.fro zI]),(false,qO)]) f142 n0 (fun d=>(d.1,d.2.1)) (e2 mO KK) zF
def vCz:=zK 140 [.c (.dat false zI),.c .i] (.tup [(false,[.own zI]),(true,lT),(false,qO)]) (fun k d=>Pz k d.1 d.2.1) (fun x=>(R1 x ()))
theorem qVt:zB prog vCz:=fA (rs:=.tup [(false,[.own zI]),(true,lT),(false,qO)]) f140 ⟨[],[],[],false⟩ (fun d=>(R2 d)) (e3 sR KI yFq) zF
def yGw:zG:=⟨[(6,.c (.lit (.osl 1001000 none))),(7,.c (.lit (.ptr 1001001 0))),(9,.c .i)],[.arr true zI,.box true iV],[]⟩
def qXn:zG:=⟨[(6,.c (.lit (.osl 1001000 none))),(7,.c (.lit (.ptr 1001001 0))),(9,.c .i)],[.arr true zI,.box true iV],[]⟩
def qU2 (f:R3)(d:yGw.den):=f d.1.2.2.1.1 d.2.1 (dP d.2.2.1)
def R4:qA:=⟨[yGw],[(.exit 0,qXn)],R5,fun k d=>qU2 (AT k k) d,fun b x _ K=>K (.exit 0) (zP b qXn (((),(),(x.1,()),()),(x.2.1,(j0 x.2.2 ()),())))⟩
def yIl:qB:=⟨[],[(5,R4)],[],true⟩
theorem vDj:zZ prog 1000 0 41 (zX (zY f143) 0) R4:=lp (A:=yIl) R4 (fun d=>(d.1.2.2.1.1,d.2.1,(dP d.2.2.1))) qU2 AT AU (e3 qVt Cl KJ) zF
def ySm:=zK 143 [.c (.dat true zI),.c .i] (.tup [(false,[.fro zI]),(false,qO)]) (fun k d=>AV k d.1 d.2.1) (fun x=>(x.1,x.2,()))
theorem yIp:zB prog ySm:=fA (rs:=.tup [(false,[.fro zI]),(false,qO)]) f143 yIl (fun d=>(d.1,d.2.1)) (e3 qVt Cl KJ) (qN vDj)
def yR2:=zK 144 [.c (.dat true zI),.c .i] (.tup [(false,[.fro zI]),(false,qO)]) (fun k d=>AR k d.1 d.2.1) (fun x=>(x.1,x.2,()))
theorem qUr:zB prog yR2:=fA (rs:=.tup [(false,[.fro zI]),(false,qO)]) f144 n0 (fun d=>(d.1,d.2.1)) (e2 mO KK) zF
def vJ0:=yV 108 [.ptr true sS,.agg wH] (.c .i) [wG] 0 (fun k d=>vh k (jM d) (Cm d)) (fun x=>(x.1,(wR x.2 ())))
theorem vHq:zB prog vJ0:=fX (rs:=.c .i) (os:=[wG]) (ns:=0) f108 n0 1 (fun d=>(d.1,(fW d))) (e8 yDn mO yA2 fc RH qT2 yIp qUr) zF
def ySx:=rV 169 false qZ (.own qZ) OM
theorem yZ7:zB prog ySx:=fC f169 ⟨[],[],[],false⟩ e0 zF
def vAh:=rV 148 true (.sl .i) (.jun) OI
theorem qSy:zB prog vAh:=fC f148 ⟨[],[],[],false⟩ e0 zF
def qZc:zG:=⟨[(3,.c (.lit (.osl 1001000 none))),(8,.c (.dat true (.sl .i))),(9,.c .i),(10,.c .i)],[.pmat],[]⟩
def qXh:zG:=⟨[(3,.c (.lit (.osl 1001000 none)))],[.pmat],[]⟩
def qQ2 (f:R6)(d:qZc.den):=f d.1.2.1.1 d.1.2.2.1.1 d.1.2.2.2.1.1 d.2.1.1 d.2.1.2
def R7:qA:=⟨[qZc],[(.exit 0,qXh)],(EQ×Nat),fun k d=>qQ2 (Ez k k) d,fun b x _ K=>K (.exit 0) (zP b qXh (((),()),((x.1,x.2),())))⟩
def yHw:qB:=⟨[],[(3,R7)],[],false⟩
theorem vG1:zZ prog 1000 0 22 (zX (zY f170) 0) R7:=lp (A:=yHw) R7 (fun d=>d.2.1) qQ2 Ez zi (e2 qSy Gs) zF
def vCe:=zK 170 [.c (.dat true (.sl .i))] (.c (.mat)) (fun k d=>EA k d.1) (fun x=>(x,()))
theorem yNy:zB prog vCe:=fA (rs:=.c (.mat)) f170 yHw (fun d=>d.1) (e2 qSy Gs) (qN vG1)
def yVo:=zK 145 [.agg [.dat false qZ,.dat true (.sl .i),.dat false .i,.dat true (.sl .i)]] (.agg [.own qZ,.mat,.own .i,.mat]) (fun k d=>(dw (dN k) d)) (fun x=>(jF x ()))
theorem lU:zB prog yVo:=fA (rs:=.agg [.own qZ,.mat,.own .i,.mat]) f145 ⟨[],[],[],false⟩ (fun d=>(wI d)) (e3 yZ7 yNy Gs) zF
def vDi:=zK 146 [.ptr RZ,.c .i] (.c .bool) (fun k d=>R8 k (jM d) d.2.2.2.2.2.2.2.2.2.2.2.2.2.2.2.2.2.2.1) (fun x=>(x,()))
theorem yLw:zB prog vDi:=fA (rs:=.c .bool) f146 n0 (fun d=>d.1) (e1 fc) zF
def yRe:=yV 109 [.ptr true sS,.agg wH] (.c .i) [wG] 0 (fun k d=>vi k (jM d) (Cm d)) (fun x=>(x.1,(wR x.2 ())))
theorem vKg:zB prog yRe:=fX (rs:=.c .i) (os:=[wG]) (ns:=0) f109 n0 1 (fun d=>(d.1,(fW d))) (e3 lU yLw fc) zF
def yNp:=zK 147 [.ptr RZ,.c .i] (.c .bool) (fun k d=>Gu k (jM d) d.2.2.2.2.2.2.2.2.2.2.2.2.2.2.2.2.2.2.1) (fun x=>(x,()))
theorem Cn:zB prog yNp:=fA (rs:=.c .bool) f147 n0 (fun d=>d.1) (e1 fc) zF
def vFz:=rV 148 true (.sl .i) (.own (.sl .i)) BC
theorem qWx:zB prog vFz:=fC f148 ⟨[],[],[],false⟩ e0 zF
def vKi:=zK 149 [.c (.dat false .i),.c .i,.c .i] (.c (.own .i)) (fun k d=>mI k d.1 d.2.1 d.2.2.1) (fun x=>(x,()))
theorem Co:zB prog vKi:=fA (rs:=.c (.own .i)) f149 n0 (fun d=>d.1) (e1 Gs) zF
def vJd:=zK 156 [.c .i] (.c .bool) (fun k d=>PE k d.1) (fun x=>(x,()))
theorem vEb:zB prog vJd:=fA (rs:=.c .bool) f156 n0 (fun d=>d.1) e0 zF
def vEa:=zK 157 [.c (.int .u64),.c (.int .u64)] (.tup [(false,[.int .u64]),(false,[.int .u64])]) (fun k d=>Ff k d.1 d.2.1) (fun x=>(x.1,x.2,()))
theorem vAe:zB prog vEa:=fA (rs:=.tup [(false,[.int .u64]),(false,[.int .u64])]) f157 n0 (fun d=>(d.1,d.2.1)) e0 zF
def ySy:=zK 196 [.c (.int .u64)] (.c .i) (fun k d=>qUw k d.1) (fun x=>(x,()))
theorem yYj:zB prog ySy:=fA (rs:=.c .i) f196 n0 (fun d=>d.1) e0 zF
def vDr:=zK 179 [.c (.int .u64)] (.c .i) (fun k d=>qZm k d.1) (fun x=>(x,()))
theorem R9:zB prog vDr:=fA (rs:=.c .i) f179 n0 (fun d=>d.1) (e1 yYj) zF
def qUn:zG:=⟨[(2,.c (.int .u64)),(8,.c (.int .u64)),(9,.c (.int .u64)),(10,.c (.int .u64)),(11,.c (.int .u64)),(13,.c (.int .u64)),(14,.c (.int .u64)),(15,.c (.int .u64)),(16,.c (.int .u64))],[],[]⟩
def qYe:zG:=⟨[(2,.c (.int .u64)),(8,.c (.int .u64)),(9,.c (.int .u64)),(10,.c (.int .u64)),(11,.c (.int .u64)),(13,.c (.int .u64)),(14,.c (.int .u64)),(15,.c (.int .u64))],[],[]⟩
def yK4 (f:Sa)(d:qUn.den):=f d.1.1.1 d.1.2.1.1 d.1.2.2.1.1 d.1.2.2.2.1.1 d.1.2.2.2.2.1.1 d.1.2.2.2.2.2.1.1 d.1.2.2.2.2.2.2.1.1 d.1.2.2.2.2.2.2.2.1.1 d.1.2.2.2.2.2.2.2.2.1.1
def KL:qA:=⟨[qUn],[(.exit 0,qYe)],Sb,fun k d=>yK4 (Sc k k) d,fun b x _ K=>K (.exit 0) (zP b qYe (((x.1,()),(x.2.1,()),(x.2.2.1,()),(x.2.2.2.1,()),(x.2.2.2.2.1,()),(x.2.2.2.2.2.1,()),(x.2.2.2.2.2.2.1,()),(x.2.2.2.2.2.2.2,()),()),()))⟩
def qS1:zG:=⟨[(2,.c (.int .u64)),(8,.c (.int .u64)),(9,.c (.int .u64)),(10,.c (.int .u64)),(14,.c (.int .u64)),(15,.c (.int .u64)),(16,.c (.int .u64)),(17,.c (.int .u64)),(18,.c (.int .u64))],[],[]⟩
def qT1:zG:=⟨[(2,.c (.int .u64)),(8,.c (.int .u64)),(14,.c (.int .u64)),(15,.c (.int .u64)),(17,.c (.int .u64)),(18,.c (.int .u64))],[],[]⟩
def yB3 (f:Sd)(d:qS1.den):=f d.1.1.1 d.1.2.1.1 d.1.2.2.1.1 d.1.2.2.2.1.1 d.1.2.2.2.2.1.1 d.1.2.2.2.2.2.1.1 d.1.2.2.2.2.2.2.1.1 d.1.2.2.2.2.2.2.2.1.1 d.1.2.2.2.2.2.2.2.2.1.1
def KM:qA:=⟨[qS1],[(.exit 2,qT1)],Se,fun k d=>yB3 (Sf k k) d,fun b x _ K=>K (.exit 2) (zP b qT1 (((x.1,()),(x.2.1,()),(x.2.2.1,()),(x.2.2.2.1,()),(x.2.2.2.2.1,()),(x.2.2.2.2.2,()),()),()))⟩
def Sg:qB:=⟨[],[(17,KL),(24,KM)],[],true⟩
theorem vJh:zZ prog 1000 0 135 (zX (zY f158) 0) KL:=lp (A:=Sg) KL (fun d=>(d.1.1.1,d.1.2.1.1,d.1.2.2.1.1,d.1.2.2.2.1.1,d.1.2.2.2.2.1.1,d.1.2.2.2.2.2.1.1,d.1.2.2.2.2.2.2.1.1,d.1.2.2.2.2.2.2.2.1.1)) yK4 Sc yKh (e1 R9) zF
theorem vCx:zZ prog 1000 0 135 (zX (zY f158) 1) KM:=lp (A:=Sg) KM (fun d=>(d.1.1.1,d.1.2.1.1,d.1.2.2.1.1,d.1.2.2.2.1.1,d.1.2.2.2.2.1.1,d.1.2.2.2.2.2.1.1)) yB3 Sf qRz (e1 R9) zF
def vJg:=zK 158 [.c (.int .u64),.c (.int .u64),.c (.int .u64)] (.tup [(false,[.int .u64]),(false,[.int .u64])]) (fun k d=>Jm k d.1 d.2.1 d.2.2.1) (fun x=>(x.1,x.2,()))
theorem vAc:zB prog vJg:=fA (rs:=.tup [(false,[.int .u64]),(false,[.int .u64])]) f158 Sg (fun d=>(d.1,d.2.1)) (e1 R9) (loopsOK_of (n:=2) (by kernel_rfl) fun i hi=>match i,hi with|0,_=>⟨KL,by kernel_rfl,vJh⟩|1,_=>⟨KM,by kernel_rfl,vCx⟩|i+2,hi=>absurd hi (by omega))
def yN0:=(102,H6)
theorem Sh:zB prog yN0:=vCv (fn:=f102)
def vIw:=zK 130 [.c .i,.c .i,.c .i] (.tup [(false,qO),(false,[.bool])]) (fun k d=>Jn k d.1 d.2.1 d.2.2.1) (fun x=>(x.1,x.2,()))
theorem yGv:zB prog vIw:=fA (rs:=.tup [(false,qO),(false,[.bool])]) f130 n0 (fun d=>(d.1,d.2.1)) (e4 vEb vAe vAc Sh) zF
def yB9:zG:=⟨[(4,.c .i),(5,.c (.int .u64)),(9,.c (.dat false .i)),(10,.c .i),(11,.c .i)],[],[]⟩
def qZk:zG:=⟨[(4,.c .i),(5,.c (.int .u64))],[],[]⟩
def yHz (f:Si)(d:yB9.den):=f d.1.1.1 d.1.2.1.1 d.1.2.2.1.1 d.1.2.2.2.1.1 d.1.2.2.2.2.1.1
def Sj:qA:=⟨[yB9],[(.exit 0,qZk)],vF,fun k d=>yHz (A0 k k) d,fun b x _ K=>K (.exit 0) (zP b qZk (((x.1,()),(x.2,()),()),()))⟩
def qUl:qB:=⟨[],[(4,Sj)],[],false⟩
theorem yOq:zZ prog 1000 0 37 (zX (zY f57) 0) Sj:=lp (A:=qUl) Sj (fun d=>(d.1.1.1,d.1.2.1.1)) yHz A0 A2 (e1 Sh) zF
def yUy:=zK 57 [.c (.dat false .i)] (.tup [(false,qO),(false,[.bool])]) (fun k d=>AZ k d.1) (fun x=>(x.1,x.2,()))
theorem KN:zB prog yUy:=fA (rs:=.tup [(false,qO),(false,[.bool])]) f57 qUl (fun d=>(d.1,d.2.1)) (e1 Sh) (qN yOq)
def yId:zG:=⟨[(1,.c (.dat false .i)),(2,.c (.dat false .i)),(8,.c (.lit (.osl 1001000 none))),(25,.c (.dat false vL)),(26,.c .i),(27,.c .i)],[.arr true .i],[(8,none,.i,false)]⟩
def qXq:zG:=⟨[(8,.c (.lit (.osl 1001000 none)))],[.arr true .i],[]⟩
def qSd:zG:=⟨[(6,.c .i),(7,.c .bool)],[],[]⟩
def qZo (f:Sk)(d:yId.den):=f d.1.1.1 d.1.2.1.1 d.1.2.2.2.1.1 d.1.2.2.2.2.1.1 d.1.2.2.2.2.2.1.1 d.2.1
def Sl:qA:=⟨[yId],[(.exit 0,qXq),(.ret,qSd)],(AC⊕(Int×Bool)),fun k d=>qZo (A5 k k) d,fun b x _ K=>match x with|.inl x=>K (.exit 0) (zP b qXq (((),()),(x,())))|.inr x=>K .ret (zP b qSd (((x.1,()),(x.2,()),()),()))⟩
def qXa:qB:=⟨[],[(5,Sl)],[],true⟩
theorem yVr:zZ prog 1000 0 57 (zX (zY f94) 0) Sl:=lp (A:=qXa) Sl (fun d=>match d with|.inl d=>.inl d.2.1|.inr d=>.inr (d.1.1.1,d.1.2.1.1)) qZo A5 A6 (e2 yGv KN) zF
def vC6:=zK 94 [.c (.dat false vL),.c (.dat false .i),.c (.dat false .i)] (.tup [(false,qO),(false,[.bool])]) (fun k d=>nS k d.1 d.2.1 d.2.2.1) (fun x=>(x.1,x.2,()))
theorem sU:zB prog vC6:=fA (rs:=.tup [(false,qO),(false,[.bool])]) f94 qXa (fun d=>(d.1,d.2.1)) (e2 yGv KN) (qN yVr)
def vE8:=yV 110 [.ptr true sS,.c (.p .i),.c (.p .i)] (.c .i) [wG] 0 (fun k d=>JK k (jM d) d.2.2.2.2.2.2.2.2.2.2.2.2.2.2.2.2.2.2.1 d.2.2.2.2.2.2.2.2.2.2.2.2.2.2.2.2.2.2.2.1) (fun x=>(x.1,(wR x.2 ())))
theorem vDc:zB prog vE8:=fX (rs:=.c .i) (os:=[wG]) (ns:=0) f110 n0 1 (fun d=>(d.1,(fW d))) (e6 Cn fc qWx Co sU lU) zF
def vAb:=zK 187 [.c .i,.c .i] (.tup [(false,qO),(false,[.bool])]) (fun k d=>JL k d.1 d.2.1) (fun x=>(x.1,x.2,()))
theorem yR8:zB prog vAb:=fA (rs:=.tup [(false,qO),(false,[.bool])]) f187 ⟨[],[],[],false⟩ (fun d=>(d.1,d.2.1)) e0 zF
def yOt:=zK 85 [.agg oq] (.c .bool) (fun k d=>Ir k d.1 d.2.1 d.2.2.1) (fun x=>(x,()))
theorem qWt:zB prog yOt:=fA (rs:=.c .bool) f85 ⟨[],[],[],false⟩ (fun d=>d.1) e0 zF
def vD2:=zK 171 [.agg oq,.c .i] (.tup [(true,Cp),(false,qO)]) (fun k d=>FB k (d.1,d.2.1,d.2.2.1) d.2.2.2.1) (fun x=>(x.1.1,x.1.2.1,x.1.2.2,x.2,()))
theorem qXc:zB prog vD2:=fA (rs:=.tup [(true,Cp),(false,qO)]) f171 n0 (fun d=>((d.1,d.2.1,d.2.2.1),d.2.2.2.1)) (e2 yR8 qWt) zF
def vFx:=zK 150 [.agg oq,.c .i] (.tup [(true,Cp),(false,qO)]) (fun k d=>BH k (d.1,d.2.1,d.2.2.1) d.2.2.2.1) (fun x=>(x.1.1,x.1.2.1,x.1.2.2,x.2,()))
theorem yF6:zB prog vFx:=fA (rs:=.tup [(true,Cp),(false,qO)]) f150 n0 (fun d=>((d.1,d.2.1,d.2.2.1),d.2.2.2.1)) (e1 qXc) zF
def vG5:=zK 172 [.agg oq,.c .i] (.c .i) (fun k d=>(dw (sg k) d)) (fun x=>(x,()))
theorem KO:zB prog vG5:=fA (rs:=.c .i) f172 ⟨[],[],[],false⟩ (fun d=>d.1) e0 zF
def vIk:=zK 151 [.agg oq,.c .i,.c .i] (.tup [(true,Cp),(false,qO)]) (fun k d=>BI k (d.1,d.2.1,d.2.2.1) d.2.2.2.1 d.2.2.2.2.1) (fun x=>(x.1.1,x.1.2.1,x.1.2.2,x.2,()))
theorem yIg:zB prog vIk:=fA (rs:=.tup [(true,Cp),(false,qO)]) f151 n0 (fun d=>((d.1,d.2.1,d.2.2.1),d.2.2.2.1)) (e2 qXc KO) zF
def yRz:=zK 152 [.agg oq,.c .i] (.c .i) (fun k d=>BJ k (d.1,d.2.1,d.2.2.1) d.2.2.2.1) (fun x=>(x,()))
theorem qSc:zB prog yRz:=fA (rs:=.c .i) f152 n0 (fun d=>d.1) e0 zF
def vIb:=yV 111 [.ptr true sS,.c (.p .i),.c (.p .i),.c (.p .i)] (.c .i) [wG] 0 (fun k d=>Sm k (jM d) d.2.2.2.2.2.2.2.2.2.2.2.2.2.2.2.2.2.2.1 d.2.2.2.2.2.2.2.2.2.2.2.2.2.2.2.2.2.2.2.1 d.2.2.2.2.2.2.2.2.2.2.2.2.2.2.2.2.2.2.2.2.1) (fun x=>(x.1,(wR x.2 ())))
theorem vBo:zB prog vIb:=fX (rs:=.c .i) (os:=[wG]) (ns:=0) f111 n0 1 (fun d=>(d.1,(fW d))) (e5 fc yF6 yIg qSc lU) zF
def yIa:zG:=⟨[(0,.c (.lit (.ptr 1001000 0))),(7,.c (.lit (.osl 1001002 none))),(8,.c (.lit (.ptr 1001003 0))),(40,.c (.dat true (.sl .i))),(41,.c .i),(42,.c .i)],[.box true Sn,.arr true qV,.arr true .i,.box true yDy,.arr true qZ,.mat,.arr true .i,.mat],[]⟩
def yEm:zG:=⟨[(0,.c (.lit (.ptr 1001000 0))),(7,.c (.lit (.osl 1001002 none))),(8,.c (.lit (.ptr 1001003 0)))],[.box true Sn,.arr true qV,.arr true .i,.box true yDy,.arr true qZ,.mat,.arr true .i,.mat],[]⟩
def qXe:zG:=⟨[(0,.c (.lit (.ptr 1001000 0))),(6,.c .i)],[.box true Sn,.arr true qV],[]⟩
def qWp (f:So)(d:yIa.den):=f d.1.2.2.2.1.1 d.1.2.2.2.2.1.1 d.1.2.2.2.2.2.1.1 (ig d.2.1) d.2.2.1 d.2.2.2.1 d.2.2.2.2.2.1 d.2.2.2.2.2.2.1 d.2.2.2.2.2.2.2.1 d.2.2.2.2.2.2.2.2.1
def Sp:qA:=⟨[yIa],[(.exit 0,yEm),(.ret,qXe)],Sq,fun k d=>qWp (Sr k k) d,fun b x _ K=>match x with|.inl x=>K (.exit 0) (zP b yEm (((),(),(),()),((vB x.1 ()),x.2.1,x.2.2.1,(),x.2.2.2.1,x.2.2.2.2.1,x.2.2.2.2.2.1,x.2.2.2.2.2.2,())))|.inr x=>K .ret (zP b qXe (((),(x.1,()),()),((vB x.2.1 ()),x.2.2,())))⟩
def qU5:qB:=⟨[],[(6,Sp)],[],true⟩
theorem vEx:zZ prog 1000 1 81 (zX (zY f112) 0) Sp:=lp (A:=qU5) Sp (fun d=>match d with|.inl d=>.inl ((ig d.2.1),d.2.2.1,d.2.2.2.1,d.2.2.2.2.2.1,d.2.2.2.2.2.2.1,d.2.2.2.2.2.2.2.1,d.2.2.2.2.2.2.2.2.1)|.inr d=>.inr (d.1.2.1.1,(ig d.2.1),d.2.2.1)) qWp Sr qW1 (e5 Cn fc Co lU sU) zF
def yN8:=yV 112 [.ptr true sS,.c (.p .i),.c (.p .i)] (.c .i) [wG] 0 (fun k d=>yMg k (jM d) d.2.2.2.2.2.2.2.2.2.2.2.2.2.2.2.2.2.2.1 d.2.2.2.2.2.2.2.2.2.2.2.2.2.2.2.2.2.2.2.1) (fun x=>(x.1,(wR x.2 ())))
theorem vFh:zB prog yN8:=fX (rs:=.c .i) (os:=[wG]) (ns:=0) f112 qU5 1 (fun d=>(d.1,(fW d))) (e5 Cn fc Co lU sU) (qN vEx)
def vCu:=yV 63 [.ptr true sS,.agg wH] (.c .i) [wG] 0 (fun k d=>JW k (jM d) (Cm d)) (fun x=>(x.1,(wR x.2 ())))
theorem yWi:zB prog vCu:=fX (rs:=.c .i) (os:=[wG]) (ns:=0) f63 n0 1 (fun d=>(d.1,(fW d))) (e6 vEf vHq vKg vDc vBo vFh) zF
def yYk:=zK 58 [.agg lR,.c .i] (.c .bool) (fun k d=>(ot (By k) d)) (fun x=>(x,()))
theorem KP:zB prog yYk:=fA (rs:=.c .bool) f58 ⟨[],[],[],false⟩ (fun d=>d.1) e0 zF
def vHv:=zK 115 [.c .i,.c .i,.c (.dat false .i)] (.agg Ck) (fun k d=>mJ k d.1 d.2.1 d.2.2.1) (fun x=>(sP x ()))
theorem sV:zB prog vHv:=fA (rs:=.agg Ck) f115 ⟨[],[],[],false⟩ (fun d=>(gI d)) e0 zF
def qYu:zG:=⟨[(1,.c (.lit (.ptr 1001000 0))),(2,.c (.lit (.ptr 1001001 0))),(4,.c (.lit (.osl 1001002 none))),(10,.c (.dat true zI)),(11,.c .i),(12,.c .i)],[.box true ic,.box true ka,.arr true qV],[(4,none,qV,false)]⟩
def qQt:zG:=⟨[(1,.c (.lit (.ptr 1001000 0))),(2,.c (.lit (.ptr 1001001 0))),(4,.c (.lit (.osl 1001002 none)))],[.box true ic,.box true ka,.arr true qV],[]⟩
def qUa (f:Ss)(d:qYu.den):=(pY (f d.1.2.2.2.1.1 d.1.2.2.2.2.1.1 d.1.2.2.2.2.2.1.1) d.2.1) d.2.2.1.1 d.2.2.1.2.1 d.2.2.1.2.2.1 d.2.2.2.1
def KQ:qA:=⟨[qYu],[(.exit 0,qQt)],Su,fun k d=>qUa (Br k k) d,fun b x _ K=>K (.exit 0) (zP b qQt (((),(),(),()),((sW x ()),(x.2.2.2.2.2.2.2.2.2.2.2.1,x.2.2.2.2.2.2.2.2.2.2.2.2.1,x.2.2.2.2.2.2.2.2.2.2.2.2.2.1,()),x.2.2.2.2.2.2.2.2.2.2.2.2.2.2,())))⟩
def yH8:zG:=⟨[(1,.c (.lit (.ptr 1001000 0))),(2,.c (.lit (.ptr 1001001 0))),(4,.c (.lit (.osl 1001002 none))),(28,.c (.dat true qZ)),(29,.c .i),(30,.c .i)],[.box true ic,.box true ka,.arr true qV],[]⟩
def qWr:zG:=⟨[(1,.c (.lit (.ptr 1001000 0))),(2,.c (.lit (.ptr 1001001 0))),(4,.c (.lit (.osl 1001002 none)))],[.box true ic,.box true ka,.arr true qV],[]⟩
def yHa (f:Sv)(d:yH8.den):=(pY (f d.1.2.2.2.1.1 d.1.2.2.2.2.1.1 d.1.2.2.2.2.2.1.1) d.2.1) d.2.2.1.1 d.2.2.1.2.1 d.2.2.1.2.2.1 d.2.2.2.1
def KR:qA:=⟨[yH8],[(.exit 2,qWr)],Sw,fun k d=>yHa (Bu k k) d,fun b x _ K=>K (.exit 2) (zP b qWr (((),(),(),()),((sW x ()),(x.2.2.2.2.2.2.2.2.2.2.2.1,x.2.2.2.2.2.2.2.2.2.2.2.2.1,x.2.2.2.2.2.2.2.2.2.2.2.2.2.1,()),x.2.2.2.2.2.2.2.2.2.2.2.2.2.2,())))⟩
def Sx:qB:=⟨[],[(3,KQ),(8,KR)],[],false⟩
theorem yYm:zZ prog 1000 0 48 (zX (zY f113) 0) KQ:=lp (A:=Sx) KQ (fun d=>(sW d.2.1 (d.2.2.1.1,d.2.2.1.2.1,d.2.2.1.2.2.1,d.2.2.2.1))) qUa Br Bt (e1 sV) zF
theorem yQ2:zZ prog 1000 0 48 (zX (zY f113) 1) KR:=lp (A:=Sx) KR (fun d=>(sW d.2.1 (d.2.2.1.1,d.2.2.1.2.1,d.2.2.1.2.2.1,d.2.2.2.1))) yHa Bu Bv (e1 sV) zF
def yT7:=zK 113 [.agg Gn] (.tup [(true,yJ5),(false,[.own qV])]) (fun k d=>(pY (JG k) d)) (fun x=>(Gv x ()))
theorem qXl:zB prog yT7:=fA (rs:=.tup [(true,yJ5),(false,[.own qV])]) f113 Sx (fun d=>(Gw d)) (e1 sV) (loopsOK_of (n:=2) (by kernel_rfl) fun i hi=>match i,hi with|0,_=>⟨KQ,by kernel_rfl,yYm⟩|1,_=>⟨KR,by kernel_rfl,yQ2⟩|i+2,hi=>absurd hi (by omega))
def yRd:=zK 114 [.agg wH,.c .i] (.c .bool) (fun k d=>(mN (P1 k) d)) (fun x=>(x,()))
theorem qZl:zB prog yRd:=fA (rs:=.c .bool) f114 ⟨[],[],[],false⟩ (fun d=>d.1) e0 zF
def yPl:=zK 116 [.agg lR,.c .i] (.c .bool) (fun k d=>(ot (JH k) d)) (fun x=>(x,()))
theorem yHn:zB prog yPl:=fA (rs:=.c .bool) f116 ⟨[],[],[],false⟩ (fun d=>d.1) e0 zF
def yOj:=zK 194 [.agg wH,.c .i] (.c .bool) (fun k d=>(mN (Pj k) d)) (fun x=>(x,()))
theorem vG8:zB prog yOj:=fA (rs:=.c .bool) f194 ⟨[],[],[],false⟩ (fun d=>d.1) e0 zF
def yOx:=zK 193 [.agg wH,.ptr [.i]] (.c .bool) (fun k d=>(mN (Ph k) d)) (fun x=>(x,()))
theorem yI1:zB prog yOx:=fA (rs:=.c .bool) f193 ⟨[],[],[],false⟩ (fun d=>d.1) (e1 vG8) zF
def qRj:zG:=⟨[(1,.c (.lit (.fn 193 [1001000]))),(5,.c (.lit (.osl 1001001 none))),(8,.c (.dat false zI)),(9,.c .i),(10,.c .i)],[.robox [.i],.arr true zI],[(5,none,zI,false)]⟩
def yHb:zG:=⟨[(5,.c (.lit (.osl 1001000 none)))],[.arr true zI],[]⟩
def qTu (f:Sy)(d:qRj.den):=f d.1.2.2.1.1 d.1.2.2.2.1.1 d.1.2.2.2.2.1.1 d.2.1.1 d.2.2.1
def Sz:qA:=⟨[qRj],[(.exit 0,yHb)],SA,fun k d=>qTu (E3 k k) d,fun b x _ K=>K (.exit 0) (zP b yHb (((),()),(x,())))⟩
def qXo:qB:=⟨[],[(3,Sz)],[],false⟩
theorem yZe:zZ prog 1000 0 23 (zX (zY f134) 0) Sz:=lp (A:=qXo) Sz (fun d=>d.2.1) qTu E3 AE (e1 yI1) zF
def vI8:=zK 134 [.c (.dat false zI),.fn 193 [[.i]]] (.c (.own zI)) (fun k d=>Pg k d.1 d.2.1) (fun x=>(x,()))
theorem vE3:zB prog vI8:=fA (rs:=.c (.own zI)) f134 qXo (fun d=>d.1) (e1 yI1) (qN yZe)
def vI2:=zK 177 [.c (.dat false zI),.c .i] (.c (.own zI)) (fun k d=>AB k d.1 d.2.1) (fun x=>(x,()))
theorem v8:zB prog vI2:=fA (rs:=.c (.own zI)) f177 ⟨[],[],[],false⟩ (fun d=>d.1) (e1 vE3) zF
def yXq:=zK 207 [.agg wH,.ptr wH] (.c .bool) (fun k d=>(Gt (Pm k) d)) (fun x=>(x,()))
theorem yDt:zB prog yXq:=fA (rs:=.c .bool) f207 ⟨[],[],[],false⟩ (fun d=>d.1) e0 zF
def yHj:zG:=⟨[(0,.c (.dat false zI)),(1,.c (.lit (.fn 207 [1001000]))),(7,.c .i),(8,.c .i)],[.robox iV],[]⟩
def yEu:zG:=⟨[],[],[]⟩
def yDk:zG:=⟨[(4,.c .i)],[],[]⟩
def qTq (f:SB)(d:yHj.den):=(sX (f d.1.1.1 d.1.2.2.1.1 d.1.2.2.2.1.1) d.2.1)
def SC:qA:=⟨[yHj],[(.exit 0,yEu),(.ret,yDk)],(Unit⊕Int),fun k d=>qTq (AF k k) d,fun b x _ K=>match x with|.inl x=>K (.exit 0) (zP b yEu ((),()))|.inr x=>K .ret (zP b yDk (((x,()),()),()))⟩
def yLf:qB:=⟨[],[(2,SC)],[],false⟩
theorem vFb:zZ prog 1000 0 19 (zX (zY f119) 0) SC:=lp (A:=yLf) SC (fun d=>match d with|.inl d=>.inl ()|.inr d=>.inr d.1.1.1) qTq AF AG (e1 yDt) zF
def vFi:=zK 119 [.c (.dat false zI),.fn 207 [wH]] (.c .i) (fun k d=>(mN (Pn k) d)) (fun x=>(x,()))
theorem vBw:zB prog vFi:=fA (rs:=.c .i) f119 yLf (fun d=>d.1) (e1 yDt) (qN vFb)
def vIa:=zK 101 [.c (.dat false zI),.fn 207 [wH]] (.c .bool) (fun k d=>(mN (I9 k) d)) (fun x=>(x,()))
theorem yTb:zB prog vIa:=fA (rs:=.c .bool) f101 ⟨[],[],[],false⟩ (fun d=>d.1) (e1 vBw) zF
def vD3:=yV 206 [.agg wH,.ptr true [.map],.ptr false [.p (.dat false zI)]] (.c .bool) [[.map]] 0 (fun k d=>(SD (Pp k) d)) (fun x=>(x.1,x.2,()))
theorem yBt:zB prog vD3:=fX (rs:=.c .bool) (os:=[[.map]]) (ns:=0) f206 ⟨[],[],[],false⟩ 3 (fun d=>(d.1,d.2.1)) (e1 yTb) zF
def qZp:zG:=⟨[(1,.c (.lit (.fn 206 [1001000,1001002]))),(5,.c (.lit (.osl 1001003 none))),(8,.c (.dat false zI)),(9,.c .i),(10,.c .i)],[.box true [.lit (.map 1001001)],.imap,.robox [.dat false zI],.arr true zI],[(5,none,zI,false)]⟩
def qXm:zG:=⟨[(1,.c (.lit (.fn 206 [1001000,1001002]))),(5,.c (.lit (.osl 1001003 none)))],[.box true [.lit (.map 1001001)],.imap,.robox [.dat false zI],.arr true zI],[]⟩
def yG5 (f:SE)(d:qZp.den):=f d.1.2.2.1.1 d.1.2.2.2.1.1 d.1.2.2.2.2.1.1 d.2.2.1 d.2.2.2.1.1 d.2.2.2.2.1
def SF:qA:=⟨[qZp],[(.exit 0,qXm)],SG,fun k d=>yG5 (AH k k) d,fun b x _ K=>K (.exit 0) (zP b qXm (((),(),()),((),x.1,(x.2.1,()),x.2.2,())))⟩
def yG2:qB:=⟨[],[(3,SF)],[],false⟩
theorem vDt:zZ prog 1000 2 23 (zX (zY f134) 0) SF:=lp (A:=yG2) SF (fun d=>(d.2.2.1,d.2.2.2.1.1,d.2.2.2.2.1)) yG5 AH AI (e1 yBt) zF
def yTs:=yV 134 [.c (.p (.dat false zI)),.fn 206 [(true,[.map]),(false,[.p (.dat false zI)])]] (.c (.own zI)) [[.map]] 0 (fun k d=>Po k d.1 d.2.1 d.2.2.1) (fun x=>(x.1,x.2,()))
theorem vJn:zB prog yTs:=fX (rs:=.c (.own zI)) (os:=[[.map]]) (ns:=0) f134 yG2 2 (fun d=>(d.1,d.2.1)) (e1 yBt) (qN vDt)
def yQf:=zK 199 [.c (.dat false zI),.c .i] (.c (.own zI)) (fun k d=>E5 k d.1 d.2.1) (fun x=>(x,()))
theorem Gx:zB prog yQf:=fA (rs:=.c (.own zI)) f199 ⟨[],[],[],false⟩ (fun d=>d.1) (e2 v8 vJn) zF
def vB5:=zK 97 [.agg fY,.agg wH] (.c .bool) (fun k d=>(pY (zm k) d)) (fun x=>(x,()))
theorem SH:zB prog vB5:=fA (rs:=.c .bool) f97 ⟨[],[],[],false⟩ (fun d=>d.1) e0 zF
def vG0:=zK 208 [.agg wH,.ptr fY] (.c .bool) (fun k d=>(pY (Pd k) d)) (fun x=>(x,()))
theorem yFg:zB prog vG0:=fA (rs:=.c .bool) f208 ⟨[],[],[],false⟩ (fun d=>d.1) (e1 SH) zF
def yBi:zG:=⟨[(0,.c (.dat false zI)),(1,.c (.lit (.fn 208 [1001000]))),(7,.c .i),(8,.c .i)],[.robox kU],[]⟩
def qSn:zG:=⟨[],[],[]⟩
def qSt:zG:=⟨[(4,.c .i)],[],[]⟩
def qZz (f:SI)(d:yBi.den):=(dw (f d.1.1.1 d.1.2.2.1.1 d.1.2.2.2.1.1) d.2.1)
def SJ:qA:=⟨[yBi],[(.exit 0,qSn),(.ret,qSt)],(Unit⊕Int),fun k d=>qZz (E1 k k) d,fun b x _ K=>match x with|.inl x=>K (.exit 0) (zP b qSn ((),()))|.inr x=>K .ret (zP b qSt (((x,()),()),()))⟩
def qU6:qB:=⟨[],[(2,SJ)],[],false⟩
theorem yQl:zZ prog 1000 0 19 (zX (zY f119) 0) SJ:=lp (A:=qU6) SJ (fun d=>match d with|.inl d=>.inl ()|.inr d=>.inr d.1.1.1) qZz E1 AA (e1 yFg) zF
def vBu:=zK 119 [.c (.dat false zI),.fn 208 [fY]] (.c .i) (fun k d=>(ou (Pe k) d)) (fun x=>(x,()))
theorem yZc:zB prog vBu:=fA (rs:=.c .i) f119 qU6 (fun d=>d.1) (e1 yFg) (qN yQl)
def yW1:=zK 101 [.c (.dat false zI),.fn 208 [fY]] (.c .bool) (fun k d=>(ou (I8 k) d)) (fun x=>(x,()))
theorem vA0:zB prog yW1:=fA (rs:=.c .bool) f101 ⟨[],[],[],false⟩ (fun d=>d.1) (e1 yZc) zF
def yJ1:zG:=⟨[(4,.c (.lit (.ptr 1001000 0))),(5,.c (.lit (.ptr 1001001 0))),(15,.c (.dat false zI)),(16,.c .i),(17,.c .i)],[.box true [.lit .nsl,.lit .nsl,.lit .nsl],.box true SK,.arr true .i,.arr true .i,.mat],[]⟩
def yEr:zG:=⟨[(4,.c (.lit (.ptr 1001000 0))),(5,.c (.lit (.ptr 1001001 0)))],[.box true [.lit .nsl,.lit .nsl,.lit .nsl],.box true SK,.arr true .i,.arr true .i,.mat],[]⟩
def yK7 (f:SM)(d:yJ1.den):=f d.1.2.2.1.1 d.1.2.2.2.1.1 d.1.2.2.2.2.1.1 d.2.2.2.1 d.2.2.2.2.1 d.2.2.2.2.2.1
def SN:qA:=⟨[yJ1],[(.exit 0,yEr)],SO,fun k d=>yK7 (EW k k) d,fun b x _ K=>K (.exit 0) (zP b yEr (((),(),()),((),(),x.1,x.2.1,x.2.2,())))⟩
def qRp:qB:=⟨[],[(3,SN)],[],false⟩
theorem vB3:zZ prog 1000 0 84 (zX (zY f201) 0) SN:=lp (A:=qRp) SN (fun d=>(d.2.2.2.1,d.2.2.2.2.1,d.2.2.2.2.2.1)) yK7 EW z8 (e2 v7 Gm) zF
def vEk:=zK 201 [.c .i,.c (.dat false zI)] (.agg [.own .i,.own .i,.mat]) (fun k d=>I3 k d.1 d.2.1) (fun x=>(x.1,x.2.1,x.2.2,()))
theorem yKq:zB prog vEk:=fA (rs:=.agg [.own .i,.own .i,.mat]) f201 qRp (fun d=>(d.1,d.2.1,d.2.2.1)) (e2 v7 Gm) (qN vB3)
def yNu:=zK 202 [.agg wH,.ptr [.i]] (.c .bool) (fun k d=>(mN (O6 k) d)) (fun x=>(x,()))
theorem qRu:zB prog yNu:=fA (rs:=.c .bool) f202 ⟨[],[],[],false⟩ (fun d=>d.1) e0 zF
def yJe:zG:=⟨[(0,.c (.dat false zI)),(1,.c (.lit (.fn 202 [1001000]))),(7,.c .i),(8,.c .i)],[.robox [.i]],[]⟩
def qZn:zG:=⟨[],[],[]⟩
def yEq:zG:=⟨[(4,.c .i)],[],[]⟩
def yFj (f:SP)(d:yJe.den):=f d.1.1.1 d.1.2.2.1.1 d.1.2.2.2.1.1 d.2.1.1
def SQ:qA:=⟨[yJe],[(.exit 0,qZn),(.ret,yEq)],(Unit⊕Int),fun k d=>yFj (EX k k) d,fun b x _ K=>match x with|.inl x=>K (.exit 0) (zP b qZn ((),()))|.inr x=>K .ret (zP b yEq (((x,()),()),()))⟩
def qSq:qB:=⟨[],[(2,SQ)],[],false⟩
theorem vJo:zZ prog 1000 0 19 (zX (zY f119) 0) SQ:=lp (A:=qSq) SQ (fun d=>match d with|.inl d=>.inl ()|.inr d=>.inr d.1.1.1) yFj EX z9 (e1 qRu) zF
def yTh:=zK 119 [.c (.dat false zI),.fn 202 [[.i]]] (.c .i) (fun k d=>O7 k d.1 d.2.1) (fun x=>(x,()))
theorem yRq:zB prog yTh:=fA (rs:=.c .i) f119 qSq (fun d=>d.1) (e1 qRu) (qN vJo)
def vHf:=zK 101 [.c (.dat false zI),.fn 202 [[.i]]] (.c .bool) (fun k d=>I4 k d.1 d.2.1) (fun x=>(x,()))
theorem qVg:zB prog vHf:=fA (rs:=.c .bool) f101 ⟨[],[],[],false⟩ (fun d=>d.1) (e1 yRq) zF
def qSg:zG:=⟨[(5,.c .i),(12,.c (.dat false .i)),(13,.c .i),(14,.c .i)],[],[]⟩
def qYs:zG:=⟨[(5,.c .i)],[],[]⟩
def yFp (f:Int→AC→Int→Int→Option Int)(d:qSg.den):=f d.1.1.1 d.1.2.1.1 d.1.2.2.1.1 d.1.2.2.2.1.1
def SR:qA:=⟨[qSg],[(.exit 0,qYs)],Int,fun k d=>yFp (zv k k) d,fun b x _ K=>K (.exit 0) (zP b qYs (((x,()),()),()))⟩
def qX7:qB:=⟨[],[(3,SR)],[],false⟩
theorem yWj:zZ prog 1000 0 23 (zX (zY f209) 0) SR:=lp (A:=qX7) SR (fun d=>d.1.1.1) yFp zv zw e0 zF
def yYg:=zK 209 [.agg fY,.c .i] (.c .i) (fun k d=>(ou (IZ k) d)) (fun x=>(x,()))
theorem yKy:zB prog yYg:=fA (rs:=.c .i) f209 qX7 (fun d=>d.1) e0 (qN yWj)
def vGk:=zK 210 [.c .i,.c .i] (.c .bool) (fun k d=>Av k d.1 d.2.1) (fun x=>(x,()))
theorem SS:zB prog vGk:=fA (rs:=.c .bool) f210 ⟨[],[],[],false⟩ (fun d=>d.1) e0 zF
def yOb:=zK 211 [.agg wH,.ptr [.i],.ptr oq,.ptr KS,.ptr [.i],.ptr fY] (.c .bool) (fun k d=>(vJv (O8 k) d)) (fun x=>(x,()))
theorem qV2:zB prog yOb:=fA (rs:=.c .bool) f211 ⟨[],[],[],false⟩ (fun d=>d.1) (e2 KO SS) zF
def yHf:zG:=⟨[(0,.c (.dat false zI)),(1,.c (.lit (.fn 211 [1001000,1001001,1001002,1001003,1001004]))),(7,.c .i),(8,.c .i)],[.robox [.i],.robox [.i,.i,.i],.robox SU,.robox [.i],.robox kU],[]⟩
def yHi:zG:=⟨[],[],[]⟩
def qYr:zG:=⟨[(4,.c .i)],[],[]⟩
def qQ0 (f:SW)(d:yHf.den):=(dw (f d.1.1.1 d.1.2.2.1.1 d.1.2.2.2.1.1 d.2.1.1 d.2.2.1.1 d.2.2.1.2.1 d.2.2.1.2.2.1 d.2.2.2.1.1 d.2.2.2.1.2.1 d.2.2.2.1.2.2.1 d.2.2.2.2.1.1) d.2.2.2.2.2.1)
def SX:qA:=⟨[yHf],[(.exit 0,yHi),(.ret,qYr)],(Unit⊕Int),fun k d=>qQ0 (EZ k k) d,fun b x _ K=>match x with|.inl x=>K (.exit 0) (zP b yHi ((),()))|.inr x=>K .ret (zP b qYr (((x,()),()),()))⟩
def yKa:qB:=⟨[],[(2,SX)],[],false⟩
theorem yTi:zZ prog 1000 0 19 (zX (zY f119) 0) SX:=lp (A:=yKa) SX (fun d=>match d with|.inl d=>.inl ()|.inr d=>.inr d.1.1.1) qQ0 EZ Aw (e1 qV2) zF
def yOm:=zK 119 [.c (.dat false zI),.fn 211 [[.i],oq,KS,[.i],fY]] (.c .i) (fun k d=>(SY (O9 k) d)) (fun x=>(x,()))
theorem vCl:zB prog yOm:=fA (rs:=.c .i) f119 yKa (fun d=>d.1) (e1 qV2) (qN yTi)
def yS0:=zK 101 [.c (.dat false zI),.fn 211 [[.i],oq,KS,[.i],fY]] (.c .bool) (fun k d=>(SY (I5 k) d)) (fun x=>(x,()))
theorem qU3:zB prog yS0:=fA (rs:=.c .bool) f101 ⟨[],[],[],false⟩ (fun d=>d.1) (e1 vCl) zF
def yDm:zG:=⟨[(3,.c (.dat false zI)),(4,.c (.lit (.ptr 1001000 0))),(5,.c (.lit (.ptr 1001001 0))),(6,.c (.lit (.ptr 1001002 0))),(9,.c (.lit (.ptr 1001003 0))),(10,.c (.lit (.ptr 1001004 0))),(11,.c .i),(39,.c (.dat false .i)),(40,.c .i),(41,.c .i)],[.box true SU,.box true kU,.box true [.i],.box true [.i,.i,.i],.box true [.i]],[]⟩
def qYf:zG:=⟨[(3,.c (.dat false zI)),(4,.c (.lit (.ptr 1001000 0))),(5,.c (.lit (.ptr 1001001 0))),(6,.c (.lit (.ptr 1001002 0))),(9,.c (.lit (.ptr 1001003 0))),(10,.c (.lit (.ptr 1001004 0))),(11,.c .i)],[.box true SU,.box true kU,.box true [.i],.box true [.i,.i,.i],.box true [.i]],[]⟩
def qRx (f:SZ)(d:yDm.den):=(dw (f d.1.1.1 d.1.2.2.2.2.2.2.1.1 d.1.2.2.2.2.2.2.2.1.1 d.1.2.2.2.2.2.2.2.2.1.1 d.1.2.2.2.2.2.2.2.2.2.1.1 d.2.1.1 d.2.1.2.1 d.2.1.2.2.1) d.2.2.1) d.2.2.2.1.1 d.2.2.2.2.1.1 d.2.2.2.2.1.2.1 d.2.2.2.2.1.2.2.1 d.2.2.2.2.2.1.1
def S0:qA:=⟨[yDm],[(.exit 0,qYf)],S1,fun k d=>qRx (uL k k) d,fun b x _ K=>K (.exit 0) (zP b qYf (((x.1,()),(),(),(),(),(),(x.2.1,()),()),((x.2.2.1,x.2.2.2.1,x.2.2.2.2.1,()),(vCp x ()),(x.2.2.2.2.2.2.2.2.2.1,()),(x.2.2.2.2.2.2.2.2.2.2.1,x.2.2.2.2.2.2.2.2.2.2.2.1,x.2.2.2.2.2.2.2.2.2.2.2.2.1,()),(x.2.2.2.2.2.2.2.2.2.2.2.2.2,()),())))⟩
def yIo:qB:=⟨[],[(7,S0)],[],false⟩
theorem vCm:zZ prog 1000 0 59 (zX (zY f203) 0) S0:=lp (A:=yIo) S0 (fun d=>(d.1.1.1,d.1.2.2.2.2.2.2.1.1,d.2.1.1,d.2.1.2.1,d.2.1.2.2.1,(dy d.2.2.1 (d.2.2.2.1.1,d.2.2.2.2.1.1,d.2.2.2.2.1.2.1,d.2.2.2.2.1.2.2.1,d.2.2.2.2.2.1.1)))) qRx uL Ax (e3 yKy SS qU3) zF
def yQ7:=zK 203 [.agg KS,.agg fY,.c .i,.c (.dat false zI)] (.c .bool) (fun k d=>(SD (I7 k) d)) (fun x=>(x,()))
theorem qWd:zB prog yQ7:=fA (rs:=.c .bool) f203 yIo (fun d=>d.1) (e3 yKy SS qU3) (qN vCm)
def yJ4:zG:=⟨[(1,.c (.dat false zI)),(2,.c (.lit (.ptr 1001000 0))),(5,.c (.lit (.ptr 1001001 0))),(6,.c (.lit (.osl 1001005 none))),(16,.c .i),(17,.c .i)],[.box true kU,.box true SK,.arr true .i,.arr true .i,.mat,.arr true .i],[(6,none,.i,false)]⟩
def yJx:zG:=⟨[(6,.c (.lit (.osl 1001000 none)))],[.arr true .i],[]⟩
def qVa (f:S2)(d:yJ4.den):=(dw (f d.1.1.1 d.1.2.2.2.2.1.1 d.1.2.2.2.2.2.1.1) d.2.1) d.2.2.2.1 d.2.2.2.2.1 d.2.2.2.2.2.1 d.2.2.2.2.2.2.1
def S3:qA:=⟨[yJ4],[(.exit 0,yJx)],AC,fun k d=>qVa (Ay k k) d,fun b x _ K=>K (.exit 0) (zP b yJx (((),()),(x,())))⟩
def yDc:qB:=⟨[],[(4,S3)],[],false⟩
theorem yNh:zZ prog 1000 0 37 (zX (zY f190) 0) S3:=lp (A:=yDc) S3 (fun d=>d.2.1) qVa Ay Az (e3 yKq qVg qWd) zF
def vCa:=zK 190 [.agg fY,.c (.dat false zI)] (.c (.own .i)) (fun k d=>(ou (uM k) d)) (fun x=>(x,()))
theorem Gy:zB prog vCa:=fA (rs:=.c (.own .i)) f190 yDc (fun d=>d.1) (e3 yKq qVg qWd) (qN yNh)
def vJf:=zK 200 [.agg fY,.c (.dat false zI)] (.c .bool) (fun k d=>(ou (uN k) d)) (fun x=>(x,()))
theorem Gz:zB prog vJf:=fA (rs:=.c .bool) f200 ⟨[],[],[],false⟩ (fun d=>d.1) (e2 vA0 Gy) zF
def vIj:=zK 195 [.agg wH,.ptr fY] (.c .bool) (fun k d=>(pY (OP k) d)) (fun x=>(x,()))
theorem yEe:zB prog vIj:=fA (rs:=.c .bool) f195 ⟨[],[],[],false⟩ (fun d=>d.1) (e1 SH) zF
def qX4:zG:=⟨[(0,.c (.dat false zI)),(1,.c (.lit (.fn 195 [1001000]))),(7,.c .i),(8,.c .i)],[.robox kU],[]⟩
def yKj:zG:=⟨[],[],[]⟩
def qR0:zG:=⟨[(4,.c .i)],[],[]⟩
def qWf (f:S4)(d:qX4.den):=(dw (f d.1.1.1 d.1.2.2.1.1 d.1.2.2.2.1.1) d.2.1)
def S5:qA:=⟨[qX4],[(.exit 0,yKj),(.ret,qR0)],(Unit⊕Int),fun k d=>qWf (EI k k) d,fun b x _ K=>match x with|.inl x=>K (.exit 0) (zP b yKj ((),()))|.inr x=>K .ret (zP b qR0 (((x,()),()),()))⟩
def yJj:qB:=⟨[],[(2,S5)],[],false⟩
theorem yZ0:zZ prog 1000 0 19 (zX (zY f119) 0) S5:=lp (A:=yJj) S5 (fun d=>match d with|.inl d=>.inl ()|.inr d=>.inr d.1.1.1) qWf EI zo (e1 yEe) zF
def yXl:=zK 119 [.c (.dat false zI),.fn 195 [fY]] (.c .i) (fun k d=>(ou (OQ k) d)) (fun x=>(x,()))
theorem yYt:zB prog yXl:=fA (rs:=.c .i) f119 yJj (fun d=>d.1) (e1 yEe) (qN yZ0)
def yWt:=zK 101 [.c (.dat false zI),.fn 195 [fY]] (.c .bool) (fun k d=>(ou (IK k) d)) (fun x=>(x,()))
theorem qQ1:zB prog yWt:=fA (rs:=.c .bool) f101 ⟨[],[],[],false⟩ (fun d=>d.1) (e1 yYt) zF
def yNn:=zK 84 [.agg oq] (.c .bool) (fun k d=>OB k d.1 d.2.1 d.2.2.1) (fun x=>(x,()))
theorem yAf:zB prog yNn:=fA (rs:=.c .bool) f84 ⟨[],[],[],false⟩ (fun d=>d.1) (e1 qWt) zF
def yC7:zG:=⟨[(0,.c (.dat false qZ)),(1,.c (.lit (.fn 84 []))),(7,.c .i),(8,.c .i)],[],[]⟩
def yGj:zG:=⟨[],[],[]⟩
def qUk:zG:=⟨[(4,.c .i)],[],[]⟩
def yLx (f:S6)(d:yC7.den):=f d.1.1.1 d.1.2.2.1.1 d.1.2.2.2.1.1
def S7:qA:=⟨[yC7],[(.exit 0,yGj),(.ret,qUk)],(Unit⊕Int),fun k d=>yLx (Ep k k) d,fun b x _ K=>match x with|.inl x=>K (.exit 0) (zP b yGj ((),()))|.inr x=>K .ret (zP b qUk (((x,()),()),()))⟩
def yGn:qB:=⟨[],[(2,S7)],[],false⟩
theorem yZl:zZ prog 1000 0 19 (zX (zY f127) 0) S7:=lp (A:=yGn) S7 (fun d=>match d with|.inl d=>.inl ()|.inr d=>.inr d.1.1.1) yLx Ep yz (e1 yAf) zF
def yVd:=zK 127 [.c (.dat false qZ),.c (.fn 84)] (.c .i) (fun k d=>OC k d.1) (fun x=>(x,()))
theorem yX4:zB prog yVd:=fA (rs:=.c .i) f127 yGn (fun d=>d.1) (e1 yAf) (qN yZl)
def yUa:=zK 86 [.c (.dat false qZ),.c (.fn 84)] (.c .bool) (fun k d=>Iy k d.1) (fun x=>(x,()))
theorem yTa:zB prog yUa:=fA (rs:=.c .bool) f86 ⟨[],[],[],false⟩ (fun d=>d.1) (e1 yX4) zF
def yWf:=zK 88 [.c .i] (.c .bool) (fun k d=>Ox k d.1) (fun x=>(x,()))
theorem vCt:zB prog yWf:=fA (rs:=.c .bool) f88 ⟨[],[],[],false⟩ (fun d=>d.1) e0 zF
def vGl:=zK 128 [.c .i,.ptr [.fn 88]] (.c .bool) (fun k d=>OD k d.1) (fun x=>(x,()))
theorem qXb:zB prog vGl:=fA (rs:=.c .bool) f128 ⟨[],[],[],false⟩ (fun d=>d.1) (e1 vCt) zF
def qYi:zG:=⟨[(0,.c (.dat false .i)),(1,.c (.lit (.fn 128 [1001000]))),(7,.c .i),(8,.c .i)],[.robox [.lit (.fn 88 [])]],[]⟩
def qRd:zG:=⟨[],[],[]⟩
def yB7:zG:=⟨[(4,.c .i)],[],[]⟩
def qUd (f:S8)(d:qYi.den):=f d.1.1.1 d.1.2.2.1.1 d.1.2.2.2.1.1
def S9:qA:=⟨[qYi],[(.exit 0,qRd),(.ret,yB7)],(Unit⊕Int),fun k d=>qUd (Er k k) d,fun b x _ K=>match x with|.inl x=>K (.exit 0) (zP b qRd ((),()))|.inr x=>K .ret (zP b yB7 (((x,()),()),()))⟩
def qV9:qB:=⟨[],[(2,S9)],[],false⟩
theorem vCf:zZ prog 1000 0 19 (zX (zY f129) 0) S9:=lp (A:=qV9) S9 (fun d=>match d with|.inl d=>.inl ()|.inr d=>.inr d.1.1.1) qUd Er za (e1 qXb) zF
def yW2:=zK 129 [.c (.dat false .i),.fn 128 [[.fn 88]]] (.c .i) (fun k d=>OE k d.1) (fun x=>(x,()))
theorem yOk:zB prog yW2:=fA (rs:=.c .i) f129 qV9 (fun d=>d.1) (e1 qXb) (qN vCf)
def vKe:=zK 92 [.c (.dat false .i),.fn 128 [[.fn 88]]] (.c .bool) (fun k d=>Iz k d.1) (fun x=>(x,()))
theorem yUt:zB prog vKe:=fA (rs:=.c .bool) f92 ⟨[],[],[],false⟩ (fun d=>d.1) (e1 yOk) zF
def vC9:=zK 89 [.c (.dat false .i),.c .i,.c (.fn 88)] (.c .bool) (fun k d=>Et k d.1 d.2.1) (fun x=>(x,()))
theorem Ta:zB prog vC9:=fA (rs:=.c .bool) f89 ⟨[],[],[],false⟩ (fun d=>d.1) (e1 yUt) zF
def yIh:zG:=⟨[(1,.c .i),(2,.c (.lit (.fn 88 []))),(13,.c (.dat false (.sl .i))),(14,.c .i),(15,.c .i)],[],[]⟩
def qXw:zG:=⟨[],[],[]⟩
def qRa:zG:=⟨[(6,.c .bool)],[],[]⟩
def yMz (f:Tb)(d:yIh.den):=f d.1.1.1 d.1.2.2.1.1 d.1.2.2.2.1.1 d.1.2.2.2.2.1.1
def Tc:qA:=⟨[yIh],[(.exit 0,qXw),(.ret,qRa)],(Unit⊕Bool),fun k d=>yMz (Eu k k) d,fun b x _ K=>match x with|.inl x=>K (.exit 0) (zP b qXw ((),()))|.inr x=>K .ret (zP b qRa (((x,()),()),()))⟩
def yHk:qB:=⟨[],[(4,Tc)],[],false⟩
theorem yT6:zZ prog 1000 0 25 (zX (zY f87) 0) Tc:=lp (A:=yHk) Tc (fun d=>match d with|.inl d=>.inl ()|.inr d=>.inr d.1.1.1) yMz Eu zc (e1 Ta) zF
def vD1:=zK 87 [.c (.dat false (.sl .i)),.c .i,.c (.fn 88)] (.c .bool) (fun k d=>IC k d.1 d.2.1) (fun x=>(x,()))
theorem vIg:zB prog vD1:=fA (rs:=.c .bool) f87 yHk (fun d=>d.1) (e1 Ta) (qN yT6)
def vHg:=zK 90 [.c .i] (.c .bool) (fun k d=>Iu k d.1) (fun x=>(x,()))
theorem yN7:zB prog vHg:=fA (rs:=.c .bool) f90 ⟨[],[],[],false⟩ (fun d=>d.1) e0 zF
def yZn:=zK 128 [.c .i,.ptr [.fn 90]] (.c .bool) (fun k d=>OF k d.1) (fun x=>(x,()))
theorem qZ8:zB prog yZn:=fA (rs:=.c .bool) f128 ⟨[],[],[],false⟩ (fun d=>d.1) (e1 yN7) zF
def qUs:zG:=⟨[(0,.c (.dat false .i)),(1,.c (.lit (.fn 128 [1001000]))),(7,.c .i),(8,.c .i)],[.robox [.lit (.fn 90 [])]],[]⟩
def yHd:zG:=⟨[],[],[]⟩
def yEc:zG:=⟨[(4,.c .i)],[],[]⟩
def qW4 (f:Td)(d:qUs.den):=f d.1.1.1 d.1.2.2.1.1 d.1.2.2.2.1.1
def Te:qA:=⟨[qUs],[(.exit 0,yHd),(.ret,yEc)],(Unit⊕Int),fun k d=>qW4 (Es k k) d,fun b x _ K=>match x with|.inl x=>K (.exit 0) (zP b yHd ((),()))|.inr x=>K .ret (zP b yEc (((x,()),()),()))⟩
def qR7:qB:=⟨[],[(2,Te)],[],false⟩
theorem yQ0:zZ prog 1000 0 19 (zX (zY f129) 0) Te:=lp (A:=qR7) Te (fun d=>match d with|.inl d=>.inl ()|.inr d=>.inr d.1.1.1) qW4 Es zb (e1 qZ8) zF
def vCq:=zK 129 [.c (.dat false .i),.fn 128 [[.fn 90]]] (.c .i) (fun k d=>OG k d.1) (fun x=>(x,()))
theorem yUg:zB prog vCq:=fA (rs:=.c .i) f129 qR7 (fun d=>d.1) (e1 qZ8) (qN yQ0)
def yOn:=zK 92 [.c (.dat false .i),.fn 128 [[.fn 90]]] (.c .bool) (fun k d=>IA k d.1) (fun x=>(x,()))
theorem vHr:zB prog yOn:=fA (rs:=.c .bool) f92 ⟨[],[],[],false⟩ (fun d=>d.1) (e1 yUg) zF
def yWm:=zK 89 [.c (.dat false .i),.c .i,.c (.fn 90)] (.c .bool) (fun k d=>IB k d.1 d.2.1) (fun x=>(x,()))
theorem yCl:zB prog yWm:=fA (rs:=.c .bool) f89 ⟨[],[],[],false⟩ (fun d=>d.1) (e1 vHr) zF
def yHh:zG:=⟨[(1,.c .i),(2,.c (.lit (.fn 90 []))),(13,.c (.dat false (.sl .i))),(14,.c .i),(15,.c .i)],[],[]⟩
def yKb:zG:=⟨[],[],[]⟩
def qSi:zG:=⟨[(6,.c .bool)],[],[]⟩
def yAu (f:Tf)(d:yHh.den):=f d.1.1.1 d.1.2.2.1.1 d.1.2.2.2.1.1 d.1.2.2.2.2.1.1
def Tg:qA:=⟨[yHh],[(.exit 0,yKb),(.ret,qSi)],(Unit⊕Bool),fun k d=>yAu (Ev k k) d,fun b x _ K=>match x with|.inl x=>K (.exit 0) (zP b yKb ((),()))|.inr x=>K .ret (zP b qSi (((x,()),()),()))⟩
def qTt:qB:=⟨[],[(4,Tg)],[],false⟩
theorem yUe:zZ prog 1000 0 25 (zX (zY f87) 0) Tg:=lp (A:=qTt) Tg (fun d=>match d with|.inl d=>.inl ()|.inr d=>.inr d.1.1.1) yAu Ev zd (e1 yCl) zF
def yOi:=zK 87 [.c (.dat false (.sl .i)),.c .i,.c (.fn 90)] (.c .bool) (fun k d=>ID k d.1 d.2.1) (fun x=>(x,()))
theorem yUm:zB prog yOi:=fA (rs:=.c .bool) f87 qTt (fun d=>d.1) (e1 yCl) (qN yUe)
def qVl:zG:=⟨[(0,.c (.dat false (.sl .i))),(3,.c .i),(7,.c (.dat false (.sl .i))),(8,.c .i),(9,.c .i),(14,.c (.dat false .i)),(15,.c .i),(16,.c .i)],[],[]⟩
def yA8:zG:=⟨[(0,.c (.dat false (.sl .i))),(7,.c (.dat false (.sl .i))),(8,.c .i),(9,.c .i)],[],[]⟩
def yHg:zG:=⟨[(2,.c .bool)],[],[]⟩
def yKv (f:Th)(d:qVl.den):=f d.1.1.1 d.1.2.1.1 d.1.2.2.1.1 d.1.2.2.2.1.1 d.1.2.2.2.2.1.1 d.1.2.2.2.2.2.1.1 d.1.2.2.2.2.2.2.1.1 d.1.2.2.2.2.2.2.2.1.1
def Ti:qA:=⟨[qVl],[(.exit 2,yA8),(.ret,yHg)],Tj,fun k d=>yKv (ze k k) d,fun b x _ K=>match x with|.inl x=>K (.exit 2) (zP b yA8 (((x.1,()),(x.2.1,()),(x.2.2.1,()),(x.2.2.2,()),()),()))|.inr x=>K .ret (zP b yHg (((x,()),()),()))⟩
def yJ8:zG:=⟨[(0,.c (.dat false (.sl .i))),(7,.c (.dat false (.sl .i))),(8,.c .i),(9,.c .i)],[],[]⟩
def yGu:zG:=⟨[],[],[]⟩
def yCz:zG:=⟨[(2,.c .bool)],[],[]⟩
def yMs (f:Tl)(d:yJ8.den):=f d.1.1.1 d.1.2.1.1 d.1.2.2.1.1 d.1.2.2.2.1.1
def Tm:qA:=⟨[yJ8],[(.exit 0,yGu),(.ret,yCz)],(Unit⊕Bool),fun k d=>yMs (Ew k k) d,fun b x _ K=>match x with|.inl x=>K (.exit 0) (zP b yGu ((),()))|.inr x=>K .ret (zP b yCz (((x,()),()),()))⟩
def Tn:qB:=⟨[],[(5,Ti),(2,Tm)],[],false⟩
theorem yPr:zZ prog 1000 0 33 (zX (zX (zY f91) 0) 0) Ti:=lp (A:=Tn) Ti (fun d=>match d with|.inl d=>.inl (d.1.1.1,d.1.2.1.1,d.1.2.2.1.1,d.1.2.2.2.1.1)|.inr d=>.inr d.1.1.1) yKv ze zg e0 zF
theorem yQ5:zZ prog 1000 0 33 (zX (zY f91) 0) Tm:=lp (A:=Tn) Tm (fun d=>match d with|.inl d=>.inl ()|.inr d=>.inr d.1.1.1) yMs Ew zh e0 (qN yPr)
def yNo:=zK 91 [.c (.dat false (.sl .i))] (.c .bool) (fun k d=>IE k d.1) (fun x=>(x,()))
theorem vGv:zB prog yNo:=fA (rs:=.c .bool) f91 Tn (fun d=>d.1) e0 (qN yQ5)
def vFd:=zK 54 [.agg fY] (.c .bool) (fun k d=>(dw (uF k) d)) (fun x=>(x,()))
theorem KT:zB prog vFd:=fA (rs:=.c .bool) f54 ⟨[],[],[],false⟩ (fun d=>d.1) (e5 yTa vIg Ta yUm vGv) zF
def qVz:zG:=⟨[(2,.c (.lit (.ptr 1001000 0))),(4,.c (.lit (.ptr 1001001 0))),(7,.c (.lit (.ptr 1001002 0))),(24,.c (.dat false zI)),(25,.c .i),(26,.c .i)],[.box true fb,.box true KU,.box true KV,.arr true qZ,.mat,.arr true .i,.mat],[]⟩
def yFm:zG:=⟨[(2,.c (.lit (.ptr 1001000 0))),(4,.c (.lit (.ptr 1001001 0))),(7,.c (.lit (.ptr 1001002 0)))],[.box true fb,.box true KU,.box true KV,.arr true qZ,.mat,.arr true .i,.mat],[]⟩
def yC6 (f:To)(d:qVz.den):=(dw (f d.1.2.2.2.1.1 d.1.2.2.2.2.1.1 d.1.2.2.2.2.2.1.1) d.2.1) d.2.2.2.2.1 d.2.2.2.2.2.1 d.2.2.2.2.2.2.1 d.2.2.2.2.2.2.2.1
def Tp:qA:=⟨[qVz],[(.exit 0,yFm)],Tq,fun k d=>yC6 (zr k k) d,fun b x _ K=>K (.exit 0) (zP b yFm (((),(),(),()),((dy x ()),(),(),x.2.2.2.2.1,x.2.2.2.2.2.1,x.2.2.2.2.2.2.1,x.2.2.2.2.2.2.2,())))⟩
def qYx:qB:=⟨[],[(6,Tp)],[],false⟩
theorem yOr:zZ prog 1000 0 104 (zX (zY f178) 0) Tp:=lp (A:=qYx) Tp (fun d=>(dy d.2.1 (d.2.2.2.2.1,d.2.2.2.2.2.1,d.2.2.2.2.2.2.1,d.2.2.2.2.2.2.2.1))) yC6 zr zt (e4 qQ1 lU KO KT) zF
def vHo:=zK 178 [.agg sY,.c (.dat false zI)] (.tup [(true,kb),(false,qO)]) (fun k d=>(ou (mC k) d)) (fun x=>(eu x ()))
theorem v9:zB prog vHo:=fA (rs:=.tup [(true,kb),(false,qO)]) f178 qYx (fun d=>(vT d)) (e4 qQ1 lU KO KT) (qN yOr)
def yH3:zG:=⟨[(3,.c (.lit (.ptr 1001000 0))),(6,.c (.lit (.ptr 1001001 0))),(7,.c (.lit (.ptr 1001002 0))),(15,.c (.lit (.osl 1001003 none))),(16,.c .i),(17,.c .i)],[.box true fb,.box true iV,.box true KU,.arr true zI],[]⟩
def yL5:zG:=⟨[(3,.c (.lit (.ptr 1001000 0))),(6,.c (.lit (.ptr 1001001 0))),(7,.c (.lit (.ptr 1001002 0)))],[.box true fb,.box true iV,.box true KU],[]⟩
def qVp:zG:=⟨[(6,.c (.lit (.ptr 1001000 0))),(7,.c (.lit (.ptr 1001001 0))),(8,.c .bool)],[.box true iV,.box true fb],[]⟩
def yC4 (f:Ts)(d:yH3.den):=(sX (dw (f d.1.2.2.2.2.1.1 d.1.2.2.2.2.2.1.1) d.2.1) d.2.2.1) d.2.2.2.2.1
def Tt:qA:=⟨[yH3],[(.exit 0,yL5),(.ret,qVp)],Tu,fun k d=>yC4 (Fi k k) d,fun b x _ K=>match x with|.inl x=>K (.exit 0) (zP b yL5 (((),(),(),()),((dy x ()),(Tv x ()),(),())))|.inr x=>K .ret (zP b qVp (((),(),(x.1,()),()),((vGb x ()),(yS1 x ()),())))⟩
def qQ9:qB:=⟨[],[(2,Tt)],[],false⟩
theorem yTn:zZ prog 1000 0 40 (zX (zY f188) 0) Tt:=lp (A:=qQ9) Tt (fun d=>match d with|.inl d=>.inl (dy d.2.1 (dP d.2.2.1))|.inr d=>.inr (d.1.2.2.1.1,(Cq d.2.1 (wI d.2.2.1)))) yC4 Fi A8 (e3 Gx Gz v9) zF
def yPp:=zK 188 [.agg sY,.c (.dat true zI),.c .i] (.tup [(true,lT),(true,kb),(false,[.bool])]) (fun k d=>(ot (Jr k) d)) (fun x=>(Gv x ()))
theorem qYp:zB prog yPp:=fA (rs:=.tup [(true,lT),(true,kb),(false,[.bool])]) f188 qQ9 (fun d=>(Gw d)) (e3 Gx Gz v9) (qN yTn)
def yFa:zG:=⟨[(2,.c .i),(6,.c (.lit (.ptr 1001000 0))),(7,.c (.dat true zI)),(8,.c (.lit (.osl 1001001 none)))],[.box true fb,.arr true zI],[(8,none,zI,false)]⟩
def yBu:zG:=⟨[(6,.c (.lit (.ptr 1001000 0))),(7,.c (.dat true zI)),(8,.c (.lit (.osl 1001001 none)))],[.box true fb,.arr true zI],[]⟩
def yI9 (f:Tw)(d:yFa.den):=(dw (f d.1.1.1 d.1.2.2.1.1) d.2.1) d.2.2.1
def Tx:qA:=⟨[yFa],[(.ret,yBu)],Tz,fun k d=>yI9 (Fj k k) d,fun b x _ K=>K .ret (zP b yBu (((),(x.1,()),(),()),((lV x ()),x.2.2.2.2.2,())))⟩
def yKr:qB:=⟨[],[(2,Tx)],[],false⟩
theorem vA6:zZ prog 1000 0 40 (zX (zY f173) 0) Tx:=lp (A:=yKr) Tx (fun d=>(d.1.2.1.1,(dy d.2.1 d.2.2.1))) yI9 Fj A9 (e2 qYp mO) zF
def vB8:=zK 173 [.agg sY,.c (.dat true zI),.c .i] (.tup [(true,kb),(false,[.fro zI]),(false,[.own zI])]) (fun k d=>(ot (Jt k) d)) (fun x=>(sZ x ()))
theorem qUf:zB prog vB8:=fA (rs:=.tup [(true,kb),(false,[.fro zI]),(false,[.own zI])]) f173 yKr (fun d=>(wa d)) (e2 qYp mO) (qN vA6)
def yFn:zG:=⟨[(3,.c (.lit (.ptr 1001000 0))),(6,.c (.lit (.ptr 1001001 0))),(8,.c (.lit (.osl 1001002 none))),(10,.c (.lit (.ptr 1001003 0))),(18,.c (.lit (.osl 1001002 none))),(19,.c .i),(20,.c .i),(24,.c (.lit (.osl 1001002 none))),(25,.c .i),(26,.c .i)],[.box true fb,.box true KW,.arr true zI,.box true iV],[]⟩
def yI0:zG:=⟨[(3,.c (.lit (.ptr 1001000 0))),(6,.c (.lit (.ptr 1001001 0))),(8,.c (.lit (.osl 1001002 none))),(18,.c (.lit (.osl 1001002 none))),(19,.c .i),(20,.c .i)],[.box true fb,.box true KW,.arr true zI],[]⟩
def yGp:zG:=⟨[(6,.c (.lit (.ptr 1001000 0))),(7,.c .bool)],[.box true qYb],[]⟩
def qV8 (f:TA)(d:yFn.den):=(sX ((Gt (dw (f d.1.2.2.2.2.2.1.1 d.1.2.2.2.2.2.2.1.1 d.1.2.2.2.2.2.2.2.2.1.1 d.1.2.2.2.2.2.2.2.2.2.1.1) d.2.1) d.2.2.1) d.2.2.2.1) d.2.2.2.2.1)
def TB:qA:=⟨[yFn],[(.exit 2,yI0),(.ret,yGp)],TC,fun k d=>qV8 (Fm k k) d,fun b x _ K=>match x with|.inl x=>K (.exit 2) (zP b yI0 (((),(),(),(),(x.1,()),(x.2.1,()),()),((RG x ()),(vDe x ()),x.2.2.2.2.2.2.2.2.2.2.2.2.2.2.2.2.2.2.2.2,())))|.inr x=>K .ret (zP b yGp (((),(x.1,()),()),((TD x ()),())))⟩
def qVf:zG:=⟨[(3,.c (.lit (.ptr 1001000 0))),(6,.c (.lit (.ptr 1001001 0))),(8,.c (.lit (.osl 1001002 none))),(18,.c (.lit (.osl 1001002 none))),(19,.c .i),(20,.c .i)],[.box true fb,.box true KW,.arr true zI],[]⟩
def yGs:zG:=⟨[(6,.c (.lit (.ptr 1001000 0)))],[.box true KW],[]⟩
def qWz:zG:=⟨[(6,.c (.lit (.ptr 1001000 0))),(7,.c .bool)],[.box true qYb],[]⟩
def qRb (f:TE)(d:qVf.den):=(Gt (dw (f d.1.2.2.2.2.1.1 d.1.2.2.2.2.2.1.1) d.2.1) d.2.2.1) d.2.2.2.1
def TF:qA:=⟨[qVf],[(.exit 0,yGs),(.ret,qWz)],TG,fun k d=>qRb (Fo k k) d,fun b x _ K=>match x with|.inl x=>K (.exit 0) (zP b yGs (((),()),((TH x ()),())))|.inr x=>K .ret (zP b qWz (((),(x.1,()),()),((TD x ()),())))⟩
def TI:qB:=⟨[],[(6,TB),(3,TF)],[],false⟩
theorem vBz:zZ prog 1000 0 74 (zX (zX (zY f189) 0) 0) TB:=lp (A:=TI) TB (fun d=>match d with|.inl d=>.inl (d.1.2.2.2.2.1.1,d.1.2.2.2.2.2.1.1,(dy d.2.1 (TJ d.2.2.1 d.2.2.2.1)))|.inr d=>.inr (d.1.2.1.1,(jM d.2.1))) qV8 Fm Ba (e3 Gx Gz v9) zF
theorem vCc:zZ prog 1000 0 74 (zX (zY f189) 0) TF:=lp (A:=TI) TF (fun d=>match d with|.inl d=>.inl (TK d.2.1)|.inr d=>.inr (d.1.2.1.1,(jM d.2.1))) qRb Fo Bb (e3 Gx Gz v9) (qN vBz)
def yVg:=zK 189 [.agg sY,.c (.dat true zI),.c .i] (.tup [(true,yEn),(false,[.bool])]) (fun k d=>(ot (Jv k) d)) (fun x=>(yWp x ()))
theorem TL:zB prog yVg:=fA (rs:=.tup [(true,yEn),(false,[.bool])]) f189 TI (fun d=>(yYp d)) (e3 Gx Gz v9) (qN vCc)
def yHt:zG:=⟨[(2,.c .i),(6,.c (.lit (.ptr 1001000 0))),(7,.c (.dat true zI)),(8,.c (.lit (.osl 1001001 none))),(33,.c (.lit (.osl 1001002 none))),(34,.c .i),(35,.c .i)],[.box true fb,.arr true zI,.arr true zI],[(8,none,zI,false)]⟩
def yGi:zG:=⟨[(2,.c .i),(6,.c (.lit (.ptr 1001000 0))),(7,.c (.dat true zI)),(8,.c (.lit (.osl 1001001 none)))],[.box true fb,.arr true zI],[]⟩
def yGe (f:TM)(d:yHt.den):=(dw (f d.1.1.1 d.1.2.2.1.1 d.1.2.2.2.2.2.1.1 d.1.2.2.2.2.2.2.1.1) d.2.1) d.2.2.1 d.2.2.2.1
def TN:qA:=⟨[yHt],[(.exit 2,yGi)],TO,fun k d=>yGe (sw k k) d,fun b x _ K=>K (.exit 2) (zP b yGi (((x.1,()),(),(x.2.1,()),(),()),((RG x ()),x.2.2.2.2.2.2,())))⟩
def qTm:zG:=⟨[(2,.c .i),(6,.c (.lit (.ptr 1001000 0))),(7,.c (.dat true zI)),(8,.c (.lit (.osl 1001001 none)))],[.box true fb,.arr true zI],[(8,none,zI,false)]⟩
def yD2:zG:=⟨[(6,.c (.lit (.ptr 1001000 0))),(7,.c (.dat true zI)),(8,.c (.lit (.osl 1001001 none)))],[.box true fb,.arr true zI],[]⟩
def qWv (f:TP)(d:qTm.den):=(dw (f d.1.1.1 d.1.2.2.1.1) d.2.1) d.2.2.1
def TQ:qA:=⟨[qTm],[(.ret,yD2)],TR,fun k d=>qWv (Fp k k) d,fun b x _ K=>K .ret (zP b yD2 (((),(x.1,()),(),()),((lV x ()),x.2.2.2.2.2,())))⟩
def TS:qB:=⟨[],[(7,TN),(2,TQ)],[],false⟩
theorem ySp:zZ prog 1000 0 52 (zX (zX (zY f174) 0) 0) TN:=lp (A:=TS) TN (fun d=>(d.1.1.1,d.1.2.2.1.1,(dy d.2.1 d.2.2.1))) yGe sw sA (e2 TL mO) zF
theorem ySb:zZ prog 1000 0 52 (zX (zY f174) 0) TQ:=lp (A:=TS) TQ (fun d=>(d.1.2.1.1,(dy d.2.1 d.2.2.1))) qWv Fp Bc (e2 TL mO) (qN ySp)
def vI5:=zK 174 [.agg sY,.c (.dat true zI),.c .i] (.tup [(true,kb),(false,[.fro zI]),(false,[.own zI])]) (fun k d=>(ot (Jw k) d)) (fun x=>(sZ x ()))
theorem qZf:zB prog vI5:=fA (rs:=.tup [(true,kb),(false,[.fro zI]),(false,[.own zI])]) f174 TS (fun d=>(wa d)) (e2 TL mO) (qN ySb)
def yF4:zG:=⟨[(2,.c .i),(6,.c (.lit (.ptr 1001000 0))),(7,.c (.dat true zI)),(8,.c (.lit (.osl 1001001 none)))],[.box true fb,.arr true zI],[(8,none,zI,false)]⟩
def yKo:zG:=⟨[(6,.c (.lit (.ptr 1001000 0))),(7,.c (.dat true zI)),(8,.c (.lit (.osl 1001001 none)))],[.box true fb,.arr true zI],[]⟩
def yH5 (f:TT)(d:yF4.den):=(dw (f d.1.1.1 d.1.2.2.1.1) d.2.1) d.2.2.1
def TU:qA:=⟨[yF4],[(.ret,yKo)],TV,fun k d=>yH5 (Fv k k) d,fun b x _ K=>K .ret (zP b yKo (((),(x.1,()),(),()),((lV x ()),x.2.2.2.2.2,())))⟩
def yMx:qB:=⟨[],[(2,TU)],[],false⟩
theorem yWb:zZ prog 1000 0 40 (zX (zY f153) 0) TU:=lp (A:=yMx) TU (fun d=>(d.1.2.1.1,(dy d.2.1 d.2.2.1))) yH5 Fv JB (e2 qUf qZf) zF
def vIf:=zK 153 [.agg sY,.c (.dat true zI),.c .i] (.tup [(true,kb),(false,[.fro zI]),(false,[.own zI])]) (fun k d=>(ot (Fw k) d)) (fun x=>(sZ x ()))
theorem yZr:zB prog vIf:=fA (rs:=.tup [(true,kb),(false,[.fro zI]),(false,[.own zI])]) f153 yMx (fun d=>(wa d)) (e2 qUf qZf) (qN yWb)
def ySe:=rV 191 false .i (.own .i) PV
theorem vHh:zB prog ySe:=fC f191 ⟨[],[],[],false⟩ e0 zF
def ySu:=yV 192 [.agg wH,.ptr true [.own .i]] (.c .bool) [oe] 0 (fun k d=>(mN (PX k) d)) (fun x=>(x.1,x.2,()))
theorem yHl:zB prog ySu:=fX (rs:=.c .bool) (os:=[oe]) (ns:=0) f192 ⟨[],[],[],false⟩ 2 (fun d=>(d.1,d.2.1)) e0 zF
def yCi:zG:=⟨[(1,.c (.lit (.fn 192 [1001000]))),(5,.c (.lit (.osl 1001002 none))),(8,.c (.dat false zI)),(9,.c .i),(10,.c .i)],[.box true [.lit (.osl 1001001 none)],.arr true .i,.arr true zI],[(5,none,zI,false)]⟩
def yH0:zG:=⟨[(1,.c (.lit (.fn 192 [1001000]))),(5,.c (.lit (.osl 1001002 none)))],[.box true [.lit (.osl 1001001 none)],.arr true .i,.arr true zI],[]⟩
def yLq (f:TW)(d:yCi.den):=f d.1.2.2.1.1 d.1.2.2.2.1.1 d.1.2.2.2.2.1.1 d.2.2.1 d.2.2.2.1
def TX:qA:=⟨[yCi],[(.exit 0,yH0)],TY,fun k d=>yLq (Bg k k) d,fun b x _ K=>K (.exit 0) (zP b yH0 (((),(),()),((),x.1,x.2,())))⟩
def qVw:qB:=⟨[],[(3,TX)],[],false⟩
theorem yO0:zZ prog 1000 2 23 (zX (zY f134) 0) TX:=lp (A:=qVw) TX (fun d=>(d.2.2.1,d.2.2.2.1)) yLq Bg Bh (e1 yHl) zF
def vEi:=yV 134 [.c (.p (.dat false zI)),.fn 192 [(true,[.own .i])]] (.c (.own zI)) [oe] 0 (fun k d=>PW k d.1 d.2.1) (fun x=>(x.1,x.2,()))
theorem yOv:zB prog vEi:=fX (rs:=.c (.own zI)) (os:=[oe]) (ns:=0) f134 qVw 2 (fun d=>(d.1,d.2.1)) (e1 yHl) (qN yO0)
def vEm:=zK 176 [.c (.dat false zI),.c (.dat false .i)] (.c (.own zI)) (fun k d=>Bf k d.1 d.2.1) (fun x=>(x,()))
theorem Cr:zB prog vEm:=fA (rs:=.c (.own zI)) f176 ⟨[],[],[],false⟩ (fun d=>d.1) (e2 vHh yOv) zF
def yLa:zG:=⟨[(3,.c (.lit (.ptr 1001000 0))),(6,.c (.lit (.osl 1001001 none))),(7,.c .i),(8,.c (.lit (.osl 1001002 none))),(18,.c .i),(19,.c .i)],[.box true kU,.arr true .i,.arr true zI],[(6,none,.i,false)]⟩
def qS3:zG:=⟨[(3,.c (.lit (.ptr 1001000 0))),(6,.c (.lit (.osl 1001001 none))),(7,.c .i),(8,.c (.lit (.osl 1001002 none)))],[.box true kU,.arr true .i,.arr true zI],[]⟩
def qQy (f:TZ)(d:yLa.den):=(dw (f d.1.2.2.1.1 d.1.2.2.2.2.1.1 d.1.2.2.2.2.2.1.1) d.2.1) d.2.2.1 d.2.2.2.1
def KX:qA:=⟨[yLa],[(.exit 0,qS3)],T0,fun k d=>qQy (uW k k) d,fun b x _ K=>K (.exit 0) (zP b qS3 (((),(),(x.1,()),(),()),((lV x ()),x.2.2.2.2.2.1,x.2.2.2.2.2.2,())))⟩
def yEk:zG:=⟨[(3,.c (.lit (.ptr 1001000 0))),(6,.c (.lit (.osl 1001001 none))),(7,.c .i),(8,.c (.lit (.osl 1001002 none))),(42,.c (.lit (.osl 1001003 none))),(43,.c .i),(44,.c .i)],[.box true kU,.arr true .i,.arr true zI,.arr true .i],[]⟩
def qXi:zG:=⟨[(3,.c (.lit (.ptr 1001000 0))),(6,.c (.lit (.osl 1001001 none))),(7,.c .i),(8,.c (.lit (.osl 1001002 none)))],[.box true kU,.arr true .i,.arr true zI],[]⟩
def yDb (f:T1)(d:yEk.den):=(dw (f d.1.2.2.1.1 d.1.2.2.2.2.2.1.1 d.1.2.2.2.2.2.2.1.1) d.2.1) d.2.2.1 d.2.2.2.1 d.2.2.2.2.1
def T2:qA:=⟨[yEk],[(.exit 4,qXi)],T3,fun k d=>yDb (Bk k k) d,fun b x _ K=>K (.exit 4) (zP b qXi (((),(),(x.1,()),(),()),((lV x ()),x.2.2.2.2.2.1,x.2.2.2.2.2.2,())))⟩
def yDw:zG:=⟨[(3,.c (.lit (.ptr 1001000 0))),(6,.c (.lit (.osl 1001001 none))),(7,.c .i),(8,.c (.lit (.osl 1001002 none)))],[.box true kU,.arr true .i,.arr true zI],[]⟩
def yAs:zG:=⟨[(6,.c (.lit (.osl 1001000 none))),(7,.c .i)],[.arr true .i],[]⟩
def qY3 (f:T4)(d:yDw.den):=(dw (f d.1.2.2.1.1) d.2.1) d.2.2.1 d.2.2.2.1
def KY:qA:=⟨[yDw],[(.ret,yAs)],(Int×AC),fun k d=>qY3 (Fu k k) d,fun b x _ K=>K .ret (zP b yAs (((),(x.1,()),()),(x.2,())))⟩
def KZ:qB:=⟨[],[(3,KX),(12,T2),(7,KY)],[],false⟩
theorem yU5:zZ prog 1000 0 55 (zX (zY f175) 0) KX:=lp (A:=KZ) KX (fun d=>(d.1.2.2.1.1,(dy d.2.1 (d.2.2.1,d.2.2.2.1)))) qQy uW Bj (e4 v8 Gr Cr Gy) zF
theorem vGi:zZ prog 1000 0 55 (zX (zX (zY f175) 1) 0) T2:=lp (A:=KZ) T2 (fun d=>(d.1.2.2.1.1,(dy d.2.1 (d.2.2.1,d.2.2.2.1)))) yDb Bk Bl (e4 v8 Gr Cr Gy) zF
theorem vDl:zZ prog 1000 0 55 (zX (zY f175) 1) KY:=lp (A:=KZ) KY (fun d=>(d.1.2.1.1,d.2.1)) qY3 Fu Bm (e4 v8 Gr Cr Gy) (qN vGi)
def yWc:=zK 175 [.agg fY,.c (.dat false zI),.c .i] (.tup [(false,oe),(false,qO)]) (fun k d=>(ot (Jz k) d)) (fun x=>(x.1,x.2,()))
theorem qTx:zB prog yWc:=fA (rs:=.tup [(false,oe),(false,qO)]) f175 KZ (fun d=>(d.1,d.2.1)) (e4 v8 Gr Cr Gy) (loopsOK_of (n:=2) (by kernel_rfl) fun i hi=>match i,hi with|0,_=>⟨KX,by kernel_rfl,yU5⟩|1,_=>⟨KY,by kernel_rfl,vDl⟩|i+2,hi=>absurd hi (by omega))
def qRg:zG:=⟨[(6,.c (.lit (.ptr 1001000 0))),(7,.c (.dat true zI)),(11,.c (.lit (.osl 1001001 none))),(38,.c (.lit (.osl 1001001 none))),(39,.c .i),(40,.c .i)],[.box true fb,.arr true zI],[]⟩
def yCu:zG:=⟨[(6,.c (.lit (.ptr 1001000 0))),(7,.c (.dat true zI)),(11,.c (.lit (.osl 1001001 none)))],[.box true fb,.arr true zI],[]⟩
def yH6 (f:T5)(d:qRg.den):=(dw (f d.1.2.1.1 d.1.2.2.2.2.1.1 d.1.2.2.2.2.2.1.1) d.2.1) d.2.2.1
def T6:qA:=⟨[qRg],[(.exit 0,yCu)],T7,fun k d=>yH6 (uX k k) d,fun b x _ K=>K (.exit 0) (zP b yCu (((),(x.1,()),(),()),((lV x ()),x.2.2.2.2.2,())))⟩
def yL0:qB:=⟨[],[(8,T6)],[],false⟩
theorem yOf:zZ prog 1000 0 56 (zX (zY f154) 0) T6:=lp (A:=yL0) T6 (fun d=>(d.1.2.1.1,(dy d.2.1 d.2.2.1))) yH6 uX Bn (e5 qTx v8 Cr v9 mO) zF
def vFg:=zK 154 [.agg sY,.c (.dat true zI),.c .i] (.tup [(true,kb),(false,[.fro zI]),(false,[.own zI])]) (fun k d=>(ot (Bo k) d)) (fun x=>(sZ x ()))
theorem yN9:zB prog vFg:=fA (rs:=.tup [(true,kb),(false,[.fro zI]),(false,[.own zI])]) f154 yL0 (fun d=>(wa d)) (e5 qTx v8 Cr v9 mO) (qN yOf)
def yQq:=zK 117 [.agg sY,.c (.dat true zI),.c .i,.c .bool] (.tup [(true,kb),(false,[.fro zI]),(false,[.own zI])]) (fun k d=>(sX (uY k) d)) (fun x=>(sZ x ()))
theorem vB6:zB prog yQq:=fA (rs:=.tup [(true,kb),(false,[.fro zI]),(false,[.own zI])]) f117 ⟨[],[],[],false⟩ (fun d=>(wa d)) (e2 yZr yN9) zF
def yFh:zG:=⟨[(3,.c (.lit (.osl 1001000 none))),(5,.c (.lit (.ptr 1001001 0))),(8,.c (.dat false zI)),(9,.c .i),(10,.c .i),(18,.c (.lit (.osl 1001002 none))),(19,.c .i),(20,.c .i)],[.arr true qV,.box true iV,.arr true .i],[(3,none,qV,false)]⟩
def yA3:zG:=⟨[(3,.c (.lit (.osl 1001000 none))),(8,.c (.dat false zI)),(9,.c .i),(10,.c .i)],[.arr true qV],[]⟩
def qUx (f:T8)(d:yFh.den):=(sX (f d.1.2.2.1.1 d.1.2.2.2.1.1 d.1.2.2.2.2.1.1 d.1.2.2.2.2.2.2.1.1 d.1.2.2.2.2.2.2.2.1.1 d.2.1) d.2.2.1) d.2.2.2.1
def T9:qA:=⟨[yFh],[(.exit 2,yA3)],qOp,fun k d=>qUx (sC k k) d,fun b x _ K=>K (.exit 2) (zP b yA3 (((),(x.1,()),(x.2.1,()),(x.2.2.1,()),()),(x.2.2.2,())))⟩
def qZ5:zG:=⟨[(3,.c (.lit (.osl 1001000 none))),(8,.c (.dat false zI)),(9,.c .i),(10,.c .i)],[.arr true qV],[(3,none,qV,false)]⟩
def qU7:zG:=⟨[(3,.c (.lit (.osl 1001000 none)))],[.arr true qV],[]⟩
def yDi (f:Ua)(d:qZ5.den):=f d.1.2.1.1 d.1.2.2.1.1 d.1.2.2.2.1.1 d.2.1
def Ub:qA:=⟨[qZ5],[(.exit 0,qU7)],Uc,fun k d=>yDi (Fy k k) d,fun b x _ K=>K (.exit 0) (zP b qU7 (((),()),(x,())))⟩
def Ud:qB:=⟨[],[(6,T9),(3,Ub)],[],false⟩
theorem yW4:zZ prog 1000 0 41 (zX (zX (zY f118) 0) 0) T9:=lp (A:=Ud) T9 (fun d=>(d.1.2.1.1,d.1.2.2.1.1,d.1.2.2.2.1.1,d.2.1)) qUx sC sD (e1 sV) zF
theorem yVi:zZ prog 1000 0 41 (zX (zY f118) 0) Ub:=lp (A:=Ud) Ub (fun d=>d.2.1) yDi Fy Bp (e1 sV) (qN yW4)
def yPi:=zK 118 [.c (.dat false zI)] (.c (.own qV)) (fun k d=>JE k d.1) (fun x=>(x,()))
theorem yRx:zB prog yPi:=fA (rs:=.c (.own qV)) f118 Ud (fun d=>d.1) (e1 sV) (qN yVi)
def yRf:=zK 65 [.agg Gn,.c .bool] (.tup [(true,oh),(false,[.own qV])]) (fun k d=>(K0 (pQ k) d)) (fun x=>(Gv x ()))
theorem Ue:zB prog yRf:=fA (rs:=.tup [(true,oh),(false,[.own qV])]) f65 ⟨[],[],[],false⟩ (fun d=>(Gw d)) (e2 vB6 yRx) zF
def yGa:zG:=⟨[(2,.c (.lit (.ptr 1001000 0))),(3,.c (.lit (.ptr 1001001 0))),(4,.c (.lit (.ptr 1001002 0))),(6,.c (.lit (.osl 1001003 none))),(7,.c (.lit (.osl 1001004 none))),(27,.c (.dat true zI)),(28,.c .i),(29,.c .i)],[.box true sO,.box true ic,.box true ka,.arr true qV,.arr true zI],[(6,none,qV,false),(7,none,zI,false)]⟩
def qYm:zG:=⟨[(2,.c (.lit (.ptr 1001000 0))),(3,.c (.lit (.ptr 1001001 0))),(4,.c (.lit (.ptr 1001002 0))),(6,.c (.lit (.osl 1001003 none))),(7,.c (.lit (.osl 1001004 none)))],[.box true sO,.box true ic,.box true ka,.arr true qV,.arr true zI],[]⟩
def qSh (f:Uf)(d:yGa.den):=(pY (ou (f d.1.2.2.2.2.2.1.1 d.1.2.2.2.2.2.2.1.1 d.1.2.2.2.2.2.2.2.1.1) d.2.1) d.2.2.1) d.2.2.2.1.1 d.2.2.2.1.2.1 d.2.2.2.1.2.2.1 d.2.2.2.2.1 d.2.2.2.2.2.1
def Ug:qA:=⟨[yGa],[(.exit 0,qYm)],Uh,fun k d=>qSh (Bw k k) d,fun b x _ K=>K (.exit 0) (zP b qYm (((),(),(),(),(),()),((pZ x ()),(yY2 x ()),(x.2.2.2.2.2.2.2.2.2.2.2.2.2.2.2.2.1,x.2.2.2.2.2.2.2.2.2.2.2.2.2.2.2.2.2.1,x.2.2.2.2.2.2.2.2.2.2.2.2.2.2.2.2.2.2.1,()),x.2.2.2.2.2.2.2.2.2.2.2.2.2.2.2.2.2.2.2.1,x.2.2.2.2.2.2.2.2.2.2.2.2.2.2.2.2.2.2.2.2,())))⟩
def qWw:qB:=⟨[],[(9,Ug)],[],false⟩
theorem yV0:zZ prog 1000 0 66 (zX (zY f64) 0) Ug:=lp (A:=qWw) Ug (fun d=>(pZ d.2.1 (sW d.2.2.1 (d.2.2.2.1.1,d.2.2.2.1.2.1,d.2.2.2.1.2.2.1,d.2.2.2.2.1,d.2.2.2.2.2.1)))) qSh Bw Bx (e6 KP qXl qZl sV yHn Ue) zF
def yZo:=zK 64 [.agg lR,.agg Gn] (.tup [(true,oh),(false,[.own qV])]) (fun k d=>(qTa (vf k) d)) (fun x=>(Gv x ()))
theorem yNt:zB prog yZo:=fA (rs:=.tup [(true,oh),(false,[.own qV])]) f64 qWw (fun d=>(Gw d)) (e6 KP qXl qZl sV yHn Ue) (qN yV0)
def vDg:=yV 107 [.ptr true sQ,.agg [.i,.i,.i,.i,.i,.i]] (.c .i) [wG] 0 (fun k d=>qVi k (ig d) (qZ0 d)) (fun x=>(x.1,(wR x.2 ())))
theorem vJj:zB prog vDg:=fX (rs:=.c .i) (os:=[wG]) (ns:=0) f107 n0 1 (fun d=>(d.1,(fW d))) (e4 fc yDx yDz KK) zF
def vEw:=yV 108 [.ptr true sQ,.agg wH] (.c .i) [wG] 0 (fun k d=>K1 k (ig d) (Cm d)) (fun x=>(x.1,(wR x.2 ())))
theorem yXv:zB prog vEw:=fX (rs:=.c .i) (os:=[wG]) (ns:=0) f108 n0 1 (fun d=>(d.1,(fW d))) (e8 yDn mO qSv fc RH qT2 yIp qUr) zF
def yVc:=yV 109 [.ptr true sQ,.agg wH] (.c .i) [wG] 0 (fun k d=>K2 k (ig d) (Cm d)) (fun x=>(x.1,(wR x.2 ())))
theorem vIt:zB prog yVc:=fX (rs:=.c .i) (os:=[wG]) (ns:=0) f109 n0 1 (fun d=>(d.1,(fW d))) (e3 lU yLw fc) zF
def vJ1:=yV 110 [.ptr true sQ,.c (.p .i),.c (.p .i)] (.c .i) [wG] 0 (fun k d=>yCt k (ig d) d.2.2.2.2.2.2.2.2.2.2.2.2.2.2.2.2.2.2.1 d.2.2.2.2.2.2.2.2.2.2.2.2.2.2.2.2.2.2.2.1) (fun x=>(x.1,(wR x.2 ())))
theorem vAj:zB prog vJ1:=fX (rs:=.c .i) (os:=[wG]) (ns:=0) f110 n0 1 (fun d=>(d.1,(fW d))) (e6 Cn fc qWx Co sU lU) zF
def yQj:=yV 111 [.ptr true sQ,.c (.p .i),.c (.p .i),.c (.p .i)] (.c .i) [wG] 0 (fun k d=>BG k (ig d) d.2.2.2.2.2.2.2.2.2.2.2.2.2.2.2.2.2.2.1 d.2.2.2.2.2.2.2.2.2.2.2.2.2.2.2.2.2.2.2.1 d.2.2.2.2.2.2.2.2.2.2.2.2.2.2.2.2.2.2.2.2.1) (fun x=>(x.1,(wR x.2 ())))
theorem yP9:zB prog yQj:=fX (rs:=.c .i) (os:=[wG]) (ns:=0) f111 n0 1 (fun d=>(d.1,(fW d))) (e5 fc yF6 yIg qSc lU) zF
def qY0:zG:=⟨[(0,.c (.lit (.ptr 1001000 0))),(7,.c (.lit (.osl 1001001 none))),(8,.c (.lit (.ptr 1001002 0))),(40,.c (.dat true (.sl .i))),(41,.c .i),(42,.c .i)],[.box true Ui,.arr true .i,.box true KV,.arr true qZ,.mat,.arr true .i,.mat],[]⟩
def qU4:zG:=⟨[(0,.c (.lit (.ptr 1001000 0))),(7,.c (.lit (.osl 1001001 none))),(8,.c (.lit (.ptr 1001002 0)))],[.box true Ui,.arr true .i,.box true KV,.arr true qZ,.mat,.arr true .i,.mat],[]⟩
def yAx:zG:=⟨[(0,.c (.lit (.ptr 1001000 0))),(6,.c .i)],[.box true Ui],[]⟩
def qR6 (f:Uj)(d:qY0.den):=f d.1.2.2.2.1.1 d.1.2.2.2.2.1.1 d.1.2.2.2.2.2.1.1 (ig d.2.1) d.2.2.1 d.2.2.2.2.1 d.2.2.2.2.2.1 d.2.2.2.2.2.2.1 d.2.2.2.2.2.2.2.1
def Uk:qA:=⟨[qY0],[(.exit 0,qU4),(.ret,yAx)],Ul,fun k d=>qR6 (pU k k) d,fun b x _ K=>match x with|.inl x=>K (.exit 0) (zP b qU4 (((),(),(),()),((vB x.1 ()),x.2.1,(),x.2.2.1,x.2.2.2.1,x.2.2.2.2.1,x.2.2.2.2.2,())))|.inr x=>K .ret (zP b yAx (((),(x.1,()),()),((vB x.2 ()),())))⟩
def qZ7:qB:=⟨[],[(6,Uk)],[],true⟩
theorem vAr:zZ prog 1000 1 81 (zX (zY f112) 0) Uk:=lp (A:=qZ7) Uk (fun d=>match d with|.inl d=>.inl ((ig d.2.1),d.2.2.1,d.2.2.2.2.1,d.2.2.2.2.2.1,d.2.2.2.2.2.2.1,d.2.2.2.2.2.2.2.1)|.inr d=>.inr (d.1.2.1.1,(ig d.2.1))) qR6 pU BL (e5 Cn fc Co lU sU) zF
def yYl:=yV 112 [.ptr true sQ,.c (.p .i),.c (.p .i)] (.c .i) [wG] 0 (fun k d=>JU k (ig d) d.2.2.2.2.2.2.2.2.2.2.2.2.2.2.2.2.2.2.1 d.2.2.2.2.2.2.2.2.2.2.2.2.2.2.2.2.2.2.2.1) (fun x=>(x.1,(wR x.2 ())))
theorem vB2:zB prog yYl:=fX (rs:=.c .i) (os:=[wG]) (ns:=0) f112 qZ7 1 (fun d=>(d.1,(fW d))) (e5 Cn fc Co lU sU) (qN vAr)
def yZt:=yV 63 [.ptr true sQ,.agg wH] (.c .i) [wG] 0 (fun k d=>JX k (ig d) (Cm d)) (fun x=>(x.1,(wR x.2 ())))
theorem vJ2:zB prog yZt:=fX (rs:=.c .i) (os:=[wG]) (ns:=0) f63 n0 1 (fun d=>(d.1,(fW d))) (e6 vJj yXv vIt vAj yP9 vB2) zF
def vFr:=zK 22 [.agg K3,.agg Gn,.agg Gq] (.tup [(true,oh),(false,[.own qV]),(false,qO)]) (fun k d=>eZ k (vT d) (oc d) (yIw d)) (fun x=>(jN x.1 (x.2.1,x.2.2,())))
theorem GA:zB prog vFr:=fA (rs:=.tup [(true,oh),(false,[.own qV]),(false,qO)]) f22 n0 (fun d=>((vH d),d.2.2.2.2.2.2.2.2.2.2.2.1,d.2.2.2.2.2.2.2.2.2.2.2.2.1)) (e9 yPm yR7 qSv yWi yNt Ue sR yA2 vJ2) zF
def vH5:=yV 23 [.chn [Um,ie],.c (.p (.dat false (.int .u8)))] (.c .i) [Ct,vG] 0 (fun k d=>pW k (K4 d) (K5 d) d.2.2.2.2.2.2.2.2.2.2.2.2.2.2.2.1) (fun x=>(x.1,(),(jF x.2.1 (fa x.2.2 ()))))
theorem K6:zB prog vH5:=fX (rs:=.c .i) (os:=[Ct,vG]) (ns:=0) f23 n0 0 (fun d=>(d.1,(Un d),(Uo d))) (e1 yAj) zF
def vAf:=zK 93 [.c .i] (.c .bool) (fun k d=>Qi k d.1) (fun x=>(x,()))
theorem qUu:zB prog vAf:=fA (rs:=.c .bool) f93 n0 (fun d=>d.1) (e1 fc) zF
def yMe:zG:=⟨[(0,.c (.dat false .i)),(1,.c (.lit (.fn 93 []))),(7,.c .i),(8,.c .i)],[],[]⟩
def yBx:zG:=⟨[],[],[]⟩
def yEh:zG:=⟨[(4,.c .i)],[],[]⟩
def qVo (f:Uq)(d:yMe.den):=f d.1.1.1 d.1.2.2.1.1 d.1.2.2.2.1.1
def Ur:qA:=⟨[yMe],[(.exit 0,yBx),(.ret,yEh)],(Unit⊕Int),fun k d=>qVo (vp k k) d,fun b x _ K=>match x with|.inl x=>K (.exit 0) (zP b yBx ((),()))|.inr x=>K .ret (zP b yEh (((x,()),()),()))⟩
def yCa:qB:=⟨[],[(2,Ur)],[],false⟩
theorem yS3:zZ prog 1000 0 19 (zX (zY f129) 0) Ur:=lp (A:=yCa) Ur (fun d=>match d with|.inl d=>.inl ()|.inr d=>.inr d.1.1.1) qVo vp BQ (e1 qUu) zF
def vHi:=zK 129 [.c (.dat false .i),.c (.fn 93)] (.c .i) (fun k d=>Qj k d.1) (fun x=>(x,()))
theorem vEj:zB prog vHi:=fA (rs:=.c .i) f129 yCa (fun d=>d.1) (e1 qUu) (qN yS3)
def vEd:=zK 92 [.c (.dat false .i),.c (.fn 93)] (.c .bool) (fun k d=>FY k d.1) (fun x=>(x,()))
theorem yCr:zB prog vEd:=fA (rs:=.c .bool) f92 ⟨[],[],[],false⟩ (fun d=>d.1) (e1 vEj) zF
def yXn:=zK 95 [.c .i] (.c .bool) (fun k d=>Qk k d.1) (fun x=>(x,()))
theorem yBf:zB prog yXn:=fA (rs:=.c .bool) f95 n0 (fun d=>d.1) e0 zF
def yBc:zG:=⟨[(0,.c (.dat false .i)),(1,.c (.lit (.fn 95 []))),(7,.c .i),(8,.c .i)],[],[]⟩
def yL9:zG:=⟨[],[],[]⟩
def yE1:zG:=⟨[(4,.c .i)],[],[]⟩
def yBo (f:Us)(d:yBc.den):=f d.1.1.1 d.1.2.2.1.1 d.1.2.2.2.1.1
def Ut:qA:=⟨[yBc],[(.exit 0,yL9),(.ret,yE1)],(Unit⊕Int),fun k d=>yBo (vq k k) d,fun b x _ K=>match x with|.inl x=>K (.exit 0) (zP b yL9 ((),()))|.inr x=>K .ret (zP b yE1 (((x,()),()),()))⟩
def qRn:qB:=⟨[],[(2,Ut)],[],false⟩
theorem yW7:zZ prog 1000 0 19 (zX (zY f129) 0) Ut:=lp (A:=qRn) Ut (fun d=>match d with|.inl d=>.inl ()|.inr d=>.inr d.1.1.1) yBo vq BR (e1 yBf) zF
def yO2:=zK 129 [.c (.dat false .i),.c (.fn 95)] (.c .i) (fun k d=>Ql k d.1) (fun x=>(x,()))
theorem yM2:zB prog yO2:=fA (rs:=.c .i) f129 qRn (fun d=>d.1) (e1 yBf) (qN yW7)
def yOs:=zK 92 [.c (.dat false .i),.c (.fn 95)] (.c .bool) (fun k d=>J4 k d.1) (fun x=>(x,()))
theorem qTn:zB prog yOs:=fA (rs:=.c .bool) f92 ⟨[],[],[],false⟩ (fun d=>d.1) (e1 yM2) zF
def qTz:zG:=⟨[(2,.c (.lit (.ptr 1001000 0))),(3,.c (.lit (.ptr 1001001 0))),(28,.c (.dat false (.sl .i))),(29,.c .i),(30,.c .i)],[.box true sO,.box true K7],[]⟩
def yEa:zG:=⟨[],[],[]⟩
def yEb:zG:=⟨[(4,.c .bool)],[],[]⟩
def qXv (f:Uu)(d:qTz.den):=f d.1.2.2.1.1 d.1.2.2.2.1.1 d.1.2.2.2.2.1.1 (vT d.2.1) (vH d.2.2.1)
def Uv:qA:=⟨[qTz],[(.exit 0,yEa),(.ret,yEb)],(Unit⊕Bool),fun k d=>qXv (sJ k k) d,fun b x _ K=>match x with|.inl x=>K (.exit 0) (zP b yEa ((),()))|.inr x=>K .ret (zP b yEb (((x,()),()),()))⟩
def qX6:qB:=⟨[],[(6,Uv)],[],true⟩
theorem vBj:zZ prog 1000 0 66 (zX (zY f55) 0) Uv:=lp (A:=qX6) Uv (fun d=>match d with|.inl d=>.inl ()|.inr d=>.inr d.1.1.1) qXv sJ BS (e3 yCr sU qTn) zF
def vJa:=zK 55 [.agg lR,.agg om] (.c .bool) (fun k d=>FZ k (vT d) (oc d)) (fun x=>(x,()))
theorem qTp:zB prog vJa:=fA (rs:=.c .bool) f55 qX6 (fun d=>d.1) (e3 yCr sU qTn) (qN vBj)
def qXy:zG:=⟨[(0,.c (.dat false zI)),(1,.c (.lit (.fn 133 []))),(5,.c .i)],[],[]⟩
def qSs:zG:=⟨[],[],[]⟩
def yE0:zG:=⟨[(4,.c .bool)],[],[]⟩
def qT8 (f:Uw)(d:qXy.den):=f d.1.1.1 d.1.2.2.1.1
def Ux:qA:=⟨[qXy],[(.exit 0,qSs),(.ret,yE0)],(Unit⊕Bool),fun k d=>qT8 (FT k k) d,fun b x _ K=>match x with|.inl x=>K (.exit 0) (zP b qSs ((),()))|.inr x=>K .ret (zP b yE0 (((x,()),()),()))⟩
def yK8:qB:=⟨[],[(2,Ux)],[],true⟩
theorem yN3:zZ prog 1000 0 25 (zX (zY f132) 0) Ux:=lp (A:=yK8) Ux (fun d=>match d with|.inl d=>.inl ()|.inr d=>.inr d.1.1.1) qT8 FT J1 (e1 Cl) zF
def yY3:=zK 132 [.c (.dat false zI),.c (.fn 133)] (.c .bool) (fun k d=>J0 k d.1) (fun x=>(x,()))
theorem qQz:zB prog yY3:=fA (rs:=.c .bool) f132 yK8 (fun d=>d.1) (e1 Cl) (qN yN3)
def qYy:zG:=⟨[(0,.c (.dat false zI)),(5,.c (.dat false zI)),(6,.c .i),(7,.c .i)],[],[]⟩
def qR2:zG:=⟨[(0,.c (.dat false zI))],[],[]⟩
def qYa:zG:=⟨[(2,.c .bool)],[],[]⟩
def qWk (f:Uy)(d:qYy.den):=f d.1.1.1 d.1.2.1.1 d.1.2.2.1.1 d.1.2.2.2.1.1
def Uz:qA:=⟨[qYy],[(.exit 0,qR2),(.ret,qYa)],UA,fun k d=>qWk (vm k k) d,fun b x _ K=>match x with|.inl x=>K (.exit 0) (zP b qR2 (((x,()),()),()))|.inr x=>K .ret (zP b qYa (((x,()),()),()))⟩
def yKt:qB:=⟨[],[(2,Uz)],[],false⟩
theorem vCg:zZ prog 1000 0 26 (zX (zY f99) 0) Uz:=lp (A:=yKt) Uz (fun d=>match d with|.inl d=>.inl d.1.1.1|.inr d=>.inr d.1.1.1) qWk vm BN (e2 sR qQz) zF
def vFl:=zK 99 [.c (.dat false zI)] (.c .bool) (fun k d=>FR k d.1) (fun x=>(x,()))
theorem vAn:zB prog vFl:=fA (rs:=.c .bool) f99 yKt (fun d=>d.1) (e2 sR qQz) (qN vCg)
def yKf:zG:=⟨[(0,.c (.dat false .i)),(3,.c .i),(6,.c (.dat false .i)),(7,.c .i),(8,.c .i)],[],[]⟩
def qYo:zG:=⟨[(0,.c (.dat false .i))],[],[]⟩
def yJk:zG:=⟨[(2,.c .bool)],[],[]⟩
def qUt (f:UB)(d:yKf.den):=f d.1.1.1 d.1.2.1.1 d.1.2.2.1.1 d.1.2.2.2.1.1 d.1.2.2.2.2.1.1
def UC:qA:=⟨[yKf],[(.exit 0,qYo),(.ret,yJk)],(AC⊕Bool),fun k d=>qUt (FV k k) d,fun b x _ K=>match x with|.inl x=>K (.exit 0) (zP b qYo (((x,()),()),()))|.inr x=>K .ret (zP b yJk (((x,()),()),()))⟩
def qV0:qB:=⟨[],[(3,UC)],[],true⟩
theorem yQ8:zZ prog 1000 0 20 (zX (zY f100) 0) UC:=lp (A:=qV0) UC (fun d=>match d with|.inl d=>.inl d.1.1.1|.inr d=>.inr d.1.1.1) qUt FV BO e0 zF
def vGu:=zK 100 [.c (.dat false .i)] (.c .bool) (fun k d=>FU k d.1) (fun x=>(x,()))
theorem yRh:zB prog vGu:=fA (rs:=.c .bool) f100 qV0 (fun d=>d.1) e0 (qN yQ8)
def vA7:=zK 98 [.c (.dat false .i),.c .i] (.c .bool) (fun k d=>Jk k d.1 d.2.1) (fun x=>(x,()))
theorem vH9:zB prog vA7:=fA (rs:=.c .bool) f98 n0 (fun d=>d.1) (e1 qVj) zF
def vJ5:=zK 96 [.agg wH,.ptr om] (.c .bool) (fun k d=>J3 k (dP d) (yV8 d)) (fun x=>(x,()))
theorem yFz:zB prog vJ5:=fA (rs:=.c .bool) f96 n0 (fun d=>d.1) (e3 SH fc vH9) zF
def qXs:zG:=⟨[(0,.c (.dat false zI)),(1,.c (.lit (.fn 96 [1001000]))),(7,.c .i),(8,.c .i)],[.robox K7],[]⟩
def qWn:zG:=⟨[],[],[]⟩
def qSz:zG:=⟨[(4,.c .i)],[],[]⟩
def qVy (f:UD)(d:qXs.den):=(pY (f d.1.1.1 d.1.2.2.1.1 d.1.2.2.2.1.1) d.2.1)
def UE:qA:=⟨[qXs],[(.exit 0,qWn),(.ret,qSz)],(Unit⊕Int),fun k d=>qVy (vn k k) d,fun b x _ K=>match x with|.inl x=>K (.exit 0) (zP b qWn ((),()))|.inr x=>K .ret (zP b qSz (((x,()),()),()))⟩
def yG4:qB:=⟨[],[(2,UE)],[],false⟩
theorem yO6:zZ prog 1000 0 19 (zX (zY f119) 0) UE:=lp (A:=yG4) UE (fun d=>match d with|.inl d=>.inl ()|.inr d=>.inr d.1.1.1) qVy vn BP (e1 yFz) zF
def yZd:=zK 119 [.c (.dat false zI),.fn 96 [om]] (.c .i) (fun k d=>(K0 (Qh k) d)) (fun x=>(x,()))
theorem vAg:zB prog yZd:=fA (rs:=.c .i) f119 yG4 (fun d=>d.1) (e1 yFz) (qN yO6)
def ySh:=zK 101 [.c (.dat false zI),.fn 96 [om]] (.c .bool) (fun k d=>(K0 (J2 k) d)) (fun x=>(x,()))
theorem vId:zB prog ySh:=fA (rs:=.c .bool) f101 ⟨[],[],[],false⟩ (fun d=>d.1) (e1 vAg) zF
def yPy:=zK 56 [.agg om] (.c .bool) (fun k d=>FW k (vH d)) (fun x=>(x,()))
theorem qV6:zB prog yPy:=fA (rs:=.c .bool) f56 n0 (fun d=>d.1) (e3 vAn yRh vId) zF
def qYz:zG:=⟨[(2,.c (.lit (.ptr 1001000 0))),(3,.c (.lit (.ptr 1001001 0))),(5,.c (.lit (.osl 1001002 none))),(44,.c (.dat false qZ)),(45,.c .i),(46,.c .i)],[.box true sO,.box true K7,.arr true .i],[(5,none,.i,false)]⟩
def yJf:zG:=⟨[(2,.c (.lit (.ptr 1001000 0))),(3,.c (.lit (.ptr 1001001 0))),(5,.c (.lit (.osl 1001002 none)))],[.box true sO,.box true K7,.arr true .i],[]⟩
def yIf (f:UF)(d:qYz.den):=f d.1.2.2.2.1.1 d.1.2.2.2.2.1.1 d.1.2.2.2.2.2.1.1 (vT d.2.1) (vH d.2.2.1) d.2.2.2.1
def UG:qA:=⟨[qYz],[(.exit 0,yJf)],UH,fun k d=>yIf (BV k k) d,fun b x _ K=>K (.exit 0) (zP b yJf (((),(),(),()),((eu x.1 ()),(jN x.2.1 ()),x.2.2,())))⟩
def qSa:qB:=⟨[],[(5,UG)],[],true⟩
theorem yX8:zZ prog 1000 0 92 (zX (zY f20) 0) UG:=lp (A:=qSa) UG (fun d=>((vT d.2.1),(vH d.2.2.1),d.2.2.2.1)) yIf BV BW (e6 fc KT qTp qV6 KN KP) zF
def vF5:=zK 20 [.agg lR,.agg om] (.c .bool) (fun k d=>BU k (vT d) (oc d)) (fun x=>(x,()))
theorem K8:zB prog vF5:=fA (rs:=.c .bool) f20 qSa (fun d=>d.1) (e6 fc KT qTp qV6 KN KP) (qN yX8)
def yAa:zG:=⟨[(1,.c (.lit (.ptr 1001000 0))),(2,.c .i),(3,.c (.lit (.ptr 1001003 0))),(12,.c .bool),(13,.c (.lit (.ptr 1001004 0))),(17,.c (.lit (.ptr 1001005 0))),(72,.c (.dat true (.sl (.int .u8)))),(73,.c .i),(74,.c .i)],[.box true yKl,.arr true (.int .u8),.arr true (.int .u8),.box true Cu,.box true [.lit (.ptr 1001000 0),.i,.i,.i,.bool],.box true ic],[(17,some 1,.bool,true),(17,some 2,.bool,true),(17,some 3,.bool,true),(17,some 4,.bool,true),(17,some 5,.bool,true),(17,some 6,.bool,true),(17,some 7,.bool,true),(17,some 8,.bool,true)]⟩
def qQu:zG:=⟨[(1,.c (.lit (.ptr 1001000 0))),(2,.c .i),(3,.c (.lit (.ptr 1001003 0))),(12,.c .bool),(13,.c (.lit (.ptr 1001004 0))),(17,.c (.lit (.ptr 1001005 0)))],[.box true yKl,.arr true (.int .u8),.arr true (.int .u8),.box true Cu,.box true [.lit (.ptr 1001000 0),.i,.i,.i,.bool],.box true ic],[]⟩
def yAp (f:UI)(d:yAa.den):=f d.1.2.1.1 d.1.2.2.2.1.1 d.1.2.2.2.2.2.2.1.1 d.1.2.2.2.2.2.2.2.1.1 d.1.2.2.2.2.2.2.2.2.1.1 (gI d.2.1) d.2.2.1 d.2.2.2.1 (vT d.2.2.2.2.1) (wI d.2.2.2.2.2.1) (vH d.2.2.2.2.2.2.1)
def UJ:qA:=⟨[yAa],[(.exit 0,qQu)],UK,fun k d=>yAp (vx k k) d,fun b x _ K=>K (.exit 0) (zP b qQu (((),(x.1,()),(),(x.2.1,()),(),(),()),((sP x.2.2.1 ()),x.2.2.2.1,x.2.2.2.2.1,(eu x.2.2.2.2.2.1 ()),(jF x.2.2.2.2.2.2.1 ()),(jN x.2.2.2.2.2.2.2 ()),())))⟩
def yIx:qB:=⟨[],[(11,UJ)],[],true⟩
theorem vEo:zZ prog 1000 2 112 (zX (zY f6) 0) UJ:=lp (A:=yIx) UJ (fun d=>(d.1.2.1.1,d.1.2.2.2.1.1,(gI d.2.1),d.2.2.1,d.2.2.2.1,(vT d.2.2.2.2.1),(wI d.2.2.2.2.2.1),(vH d.2.2.2.2.2.2.1))) yAp vx B5 (Kq Kr QV Kx pX yBn KF KH GA K6 K8) zF
def qDs:=H7 6 [.agg K3,.ptr true ie,.c (.p .i)] (.tup [(false,[.link 1]),(false,qO)]) [vG,qY7,KC] 2 (.tup [(false,[.nilp]),(false,qO)]) [vG] 0 (fun k d=>fy k (vT d) (K5 d) d.2.2.2.2.2.2.2.2.2.2.2.2.2.2.2.1) (fun x=>((),x.1,(fa x.2.1 ((),(wR x.2.2.1 ((),(jF x.2.2.2 ()))))))) (fun x=>((),x.1,(fa x.2 ())))
theorem UL:zB prog qDs:=fN (rs:=.tup [(false,[.link 1]),(false,qO)]) (os:=[vG,qY7,KC]) (ns:=2) (rs2:=.tup [(false,[.nilp]),(false,qO)]) (os2:=[vG]) (ns2:=0) f6 yIx 2 (fun d=>(d.2.1,(yH4 d),(yR1 d),(yQ9 d))) (fun d=>(d.2.1,(yH4 d))) (Kq Kr QV Kx pX yBn KF KH GA K6 K8) (qN vEo)
def yO7:=zK 32 [.c .i] (.c .i) (fun k d=>Ee k d.1) (fun x=>(x,()))
theorem UM:zB prog yO7:=fA (rs:=.c .i) f32 n0 (fun d=>d.1) e0 zF
def yE7:zG:=⟨[(1,.c (.lit (.ptr 1001000 0))),(3,.c .i),(4,.c .i)],[.box true iV],[]⟩
def qYn:zG:=⟨[(3,.c .i)],[],[]⟩
def yF2:zG:=⟨[(2,.c .bool)],[],[]⟩
def yIm (f:UN)(d:yE7.den):=f d.1.2.1.1 d.1.2.2.1.1 (dP d.2.1)
def UO:qA:=⟨[yE7],[(.exit 0,qYn),(.ret,yF2)],(Int⊕Bool),fun k d=>yIm (FE k k) d,fun b x _ K=>match x with|.inl x=>K (.exit 0) (zP b qYn (((x,()),()),()))|.inr x=>K .ret (zP b yF2 (((x,()),()),()))⟩
def qVx:qB:=⟨[],[(3,UO)],[],true⟩
theorem vCr:zZ prog 1000 0 21 (zX (zY f30) 0) UO:=lp (A:=qVx) UO (fun d=>match d with|.inl d=>.inl d.1.1.1|.inr d=>.inr d.1.1.1) yIm FE yAg (e1 UM) zF
def vDy:=zK 30 [.agg wH] (.c .bool) (fun k d=>JP k (dP d)) (fun x=>(x,()))
theorem vEp:zB prog vDy:=fA (rs:=.c .bool) f30 qVx (fun d=>d.1) (e1 UM) (qN vCr)
def yE3:zG:=⟨[(0,.c (.dat false .i)),(3,.c (.lit (.osl 1001000 none))),(4,.c .i),(5,.c .i)],[.arr true (.int .u8)],[]⟩
def yLb:zG:=⟨[(0,.c (.dat false .i)),(3,.c (.lit (.osl 1001000 none))),(4,.c .i)],[.arr true (.int .u8)],[]⟩
def yG8 (f:UP)(d:yE3.den):=f d.1.1.1 d.1.2.2.1.1 d.1.2.2.2.1.1 d.2.1
def UQ:qA:=⟨[yE3],[(.exit 2,yLb)],UR,fun k d=>yG8 (BE k k) d,fun b x _ K=>K (.exit 2) (zP b yLb (((x.1,()),(),(x.2.1,()),()),(x.2.2,())))⟩
def yIt:zG:=⟨[(0,.c (.dat false .i)),(3,.c (.lit (.osl 1001000 none))),(4,.c .i)],[.arr true (.int .u8)],[]⟩
def yFt:zG:=⟨[(3,.c (.lit (.osl 1001000 none)))],[.arr true (.int .u8)],[]⟩
def qYj (f:US)(d:yIt.den):=f d.1.1.1 d.1.2.2.1.1 d.2.1
def UT:qA:=⟨[yIt],[(.exit 0,yFt)],AC,fun k d=>qYj (vk k k) d,fun b x _ K=>K (.exit 0) (zP b yFt (((),()),(x,())))⟩
def UU:qB:=⟨[],[(6,UQ),(3,UT)],[],true⟩
theorem vF9:zZ prog 1000 0 30 (zX (zX (zY f31) 0) 0) UQ:=lp (A:=UU) UQ (fun d=>(d.1.1.1,d.1.2.2.1.1,d.2.1)) yG8 BE JR e0 zF
theorem yWr:zZ prog 1000 0 30 (zX (zY f31) 0) UT:=lp (A:=UU) UT (fun d=>d.2.1) qYj vk BF e0 (qN vF9)
def yVl:=zK 31 [.c (.dat false .i)] (.c (.own (.int .u8))) (fun k d=>JQ k d.1) (fun x=>(x,()))
theorem yRo:zB prog yVl:=fA (rs:=.c (.own (.int .u8))) f31 UU (fun d=>d.1) e0 (qN yWr)
def qOj:=zK 8 [.agg wH] (.c (.own (.int .u8))) (fun k d=>FF k (dP d)) (fun x=>(x,()))
theorem qT9:zB prog qOj:=fA (rs:=.c (.own (.int .u8))) f8 ⟨[1],[],[],true⟩ (fun d=>d.1) (e3 vEp UM yRo) zF
def yV7:=yV 24 [.chn [K9,La,ie]] (.c .bool) [ta,tc,vG] 0 (fun k d=>B9 k (fW d) (Lb d) (Lc d)) (fun x=>(x.1,(),(wR x.2.1 ((),(jF x.2.2.1 (fa x.2.2.2 ()))))))
theorem UW:zB prog yV7:=fX (rs:=.c .bool) (os:=[ta,tc,vG]) (ns:=0) f24 n0 0 (fun d=>(d.1,(UX d),(UY d),(UZ d))) e0 zF
def yWh:=zK 26 [.c .i,.c .i] (.c (.own qV)) (fun k d=>GB k d.1 d.2.1) (fun x=>(x,()))
theorem yKu:zB prog yWh:=fA (rs:=.c (.own qV)) f26 n0 (fun d=>d.1) e0 zF
def yX0:=zK 69 [.agg wH] (.c (.own (.int .u8))) (fun k d=>P4 k (dP d)) (fun x=>(x,()))
theorem vGm:zB prog yX0:=fA (rs:=.c (.own (.int .u8))) f69 ⟨[1],[],[],true⟩ (fun d=>d.1) (e3 yMq KG Ky) zF
def yU4:=zK 28 [.agg Gq] (.c (.own (.int .u8))) (fun k d=>JN k (gI d)) (fun x=>(x,()))
theorem yW3:zB prog yU4:=fA (rs:=.c (.own (.int .u8))) f28 n0 (fun d=>d.1) (e2 vGm Ky) zF
def vD5:=yV 68 [.chn [Um,ie],.c (.p (.dat false (.int .u8)))] (.c .i) [Ct,vG] 0 (fun k d=>F7 k (K4 d) (K5 d) d.2.2.2.2.2.2.2.2.2.2.2.2.2.2.2.1) (fun x=>(x.1,(),(jF x.2.1 (fa x.2.2 ()))))
theorem ySs:zB prog vD5:=fX (rs:=.c .i) (os:=[Ct,vG]) (ns:=0) f68 n0 0 (fun d=>(d.1,(Un d),(Uo d))) (e3 qYw qU9 qX2) zF
def vH6:=yV 27 [.chn [K9,La,ie],.c (.p (.dat false (.int .u8)))] (.c .i) [ta,tc,vG] 0 (fun k d=>Ke k (fW d) (Lb d) (Lc d) d.2.2.2.2.2.2.2.2.2.2.2.2.2.2.2.2.2.2.2.2.2.2.2.2.2.2.2.2.2.2.2.2.2.2.1) (fun x=>(x.1,(),(wR x.2.1 ((),(jF x.2.2.1 (fa x.2.2.2 ()))))))
theorem vHl:zB prog vH6:=fX (rs:=.c .i) (os:=[ta,tc,vG]) (ns:=0) f27 n0 0 (fun d=>(d.1,(UX d),(UY d),(UZ d))) (e3 ySs pX K6) zF
def yQx:=yV 29 [.chn [Um,ie]] (.c .i) [Ct,vG] 0 (fun k d=>Kf k (K4 d) (K5 d)) (fun x=>(x.1,(),(jF x.2.1 (fa x.2.2 ()))))
theorem yU2:zB prog yQx:=fX (rs:=.c .i) (os:=[Ct,vG]) (ns:=0) f29 n0 0 (fun d=>(d.1,(Un d),(Uo d))) e0 zF
def qKm:=yV 7 [.chn [K9,La,ie],.c (.p .i),.c (.p (.dat false (.int .u8)))] (.c (.own qV)) [ta,tc,vG] 0 (fun k d=>B8 k (fW d) (Lb d) (Lc d) d.2.2.2.2.2.2.2.2.2.2.2.2.2.2.2.2.2.2.2.2.2.2.2.2.2.2.2.2.2.2.2.2.2.2.1 d.2.2.2.2.2.2.2.2.2.2.2.2.2.2.2.2.2.2.2.2.2.2.2.2.2.2.2.2.2.2.2.2.2.2.2.1) (fun x=>(x.1,(),(wR x.2.1 ((),(jF x.2.2.1 (fa x.2.2.2 ()))))))
theorem U0:zB prog qKm:=fX (rs:=.c (.own qV)) (os:=[ta,tc,vG]) (ns:=0) f7 n0 0 (fun d=>(d.1,(UX d),(UY d),(UZ d))) (e9 UW Gp yKu GA yW3 vHl yU2 pX K6) zF
def qCo:=yV 9 [.chn [K9,La,ie]] (.agg oh) [ta,tc,vG] 0 (fun k d=>vz k (fW d) (Lb d) (Lc d)) (fun x=>(jN x.1 ((),(wR x.2.1 ((),(jF x.2.2.1 (fa x.2.2.2 ())))))))
theorem U1:zB prog qCo:=fX (rs:=.agg oh) (os:=[ta,tc,vG]) (ns:=0) f9 n0 0 (fun d=>((vH d),(vBn d),(ySa d),(yZi d))) e0 zF
def qJr:=yV 10 [.ptr true ie,.agg [.i,.i]] (.tup []) [vG] 0 (fun k d=>Gh k (jS d) (d.2.2.2.2.2.2.2.2.2.2.1,d.2.2.2.2.2.2.2.2.2.2.2.1)) (fun x=>(fa x ()))
theorem U2:zB prog qJr:=fX (rs:=.tup []) (os:=[vG]) (ns:=0) f10 n0 1 (fun d=>(jS d)) e0 zF
def qVk:zG:=⟨[(0,.c (.dat false .i)),(1,.c (.dat false .i)),(5,.c .i)],[],[]⟩
def yB0:zG:=⟨[],[],[]⟩
def qSl:zG:=⟨[(4,.c .bool)],[],[]⟩
def qRm (f:U3)(d:qVk.den):=f d.1.1.1 d.1.2.1.1 d.1.2.2.1.1
def U4:qA:=⟨[qVk],[(.exit 0,yB0),(.ret,qSl)],(Unit⊕Bool),fun k d=>qRm (EE k k) d,fun b x _ K=>match x with|.inl x=>K (.exit 0) (zP b yB0 ((),()))|.inr x=>K .ret (zP b qSl (((x,()),()),()))⟩
def qYg:qB:=⟨[],[(4,U4)],[],false⟩
theorem yM4:zZ prog 1000 0 26 (zX (zY f34) 0) U4:=lp (A:=qYg) U4 (fun d=>match d with|.inl d=>.inl ()|.inr d=>.inr d.1.1.1) qRm EE zj e0 zF
def U5:=zK 34 [.c (.dat false .i),.c (.dat false .i)] (.c .bool) (fun k d=>pF k d.1 d.2.1) (fun x=>(x,()))
theorem Ld:zB prog U5:=fA (rs:=.c .bool) f34 qYg (fun d=>d.1) e0 (qN yM4)
def qY9:zG:=⟨[(0,.c (.dat false (.sl .i))),(1,.c (.dat false (.sl .i))),(5,.c .i)],[],[]⟩
def qZd:zG:=⟨[],[],[]⟩
def yF1:zG:=⟨[(4,.c .bool)],[],[]⟩
def qUj (f:U6)(d:qY9.den):=f d.1.1.1 d.1.2.1.1 d.1.2.2.1.1
def U7:qA:=⟨[qY9],[(.exit 0,qZd),(.ret,yF1)],(Unit⊕Bool),fun k d=>qUj (EF k k) d,fun b x _ K=>match x with|.inl x=>K (.exit 0) (zP b qZd ((),()))|.inr x=>K .ret (zP b yF1 (((x,()),()),()))⟩
def yG0:qB:=⟨[],[(4,U7)],[],false⟩
theorem vCk:zZ prog 1000 0 27 (zX (zY f35) 0) U7:=lp (A:=yG0) U7 (fun d=>match d with|.inl d=>.inl ()|.inr d=>.inr d.1.1.1) qUj EF zk (e1 Ld) zF
def U8:=zK 35 [.c (.dat false (.sl .i)),.c (.dat false (.sl .i))] (.c .bool) (fun k d=>uG k d.1 d.2.1) (fun x=>(x,()))
theorem yJr:zB prog U8:=fA (rs:=.c .bool) f35 yG0 (fun d=>d.1) (e1 Ld) (qN vCk)
def yFy:zG:=⟨[(2,.c (.lit (.ptr 1001000 0))),(3,.c (.lit (.ptr 1001001 0))),(5,.c .i)],[.box true kU,.box true kU],[]⟩
def qQw:zG:=⟨[],[],[]⟩
def yJu:zG:=⟨[(4,.c .bool)],[],[]⟩
def yFr (f:U9)(d:yFy.den):=(dw (dw (f d.1.2.2.1.1) d.2.1) d.2.2.1)
def Va:qA:=⟨[yFy],[(.exit 0,qQw),(.ret,yJu)],(Unit⊕Bool),fun k d=>yFr (EH k k) d,fun b x _ K=>match x with|.inl x=>K (.exit 0) (zP b qQw ((),()))|.inr x=>K .ret (zP b yJu (((x,()),()),()))⟩
def yQ1:Env:=⟨prog,fun t=>[115].any (Nat.beq t),dI [U8,U5]⟩
theorem qR8:jL yQ1:=Oc (l:=[U8,U5]) (eqT:=fun t=>[115].any (Nat.beq t)) (W8 (fun t h=>YW (p:=fun t=>prog.keyTypeAt 8 t&& !prog.eqGuardType prog.depth t) (l:=[115]) (List.forall_mem_cons.2 ⟨by kernel_rfl,List.forall_mem_nil _⟩) t h)) fB ⟨yJr,Ld,trivial⟩
def yB4:qB:=⟨[],[(4,Va)],[],false⟩
theorem vB9:zZ prog 1000 0 55 (zX (zY f33) 0) Va:=lp (A:=yB4) Va (fun d=>match d with|.inl d=>.inl ()|.inr d=>.inr d.1.1.1) yFr EH zl qR8 zF
def yUo:=zK 33 [.agg fY,.agg fY] (.c .bool) (fun k d=>(mN (EG k) d)) (fun x=>(x,()))
theorem vKm:zB prog yUo:=fA (rs:=.c .bool) f33 yB4 (fun d=>d.1) qR8 (qN vB9)
def yLi:zG:=⟨[(0,.c (.dat false zI)),(1,.c (.dat false zI)),(5,.c .i)],[],[]⟩
def qSk:zG:=⟨[],[],[]⟩
def qQv:zG:=⟨[(4,.c .bool)],[],[]⟩
def yBv (f:Vb)(d:yLi.den):=f d.1.1.1 d.1.2.1.1 d.1.2.2.1.1
def Vc:qA:=⟨[yLi],[(.exit 0,qSk),(.ret,qQv)],(Unit⊕Bool),fun k d=>yBv (F2 k k) d,fun b x _ K=>match x with|.inl x=>K (.exit 0) (zP b qSk ((),()))|.inr x=>K .ret (zP b qQv (((x,()),()),()))⟩
def yS7:Env:=⟨prog,fun t=>[117].any (Nat.beq t),dI []⟩
theorem yKg:jL yS7:=Oc (l:=[]) (eqT:=fun t=>[117].any (Nat.beq t)) (W8 (fun t h=>YW (p:=fun t=>prog.keyTypeAt 8 t&& !prog.eqGuardType prog.depth t) (l:=[117]) (List.forall_mem_cons.2 ⟨by kernel_rfl,List.forall_mem_nil _⟩) t h)) fB trivial
def qT6:qB:=⟨[],[(4,Vc)],[],false⟩
theorem vI7:zZ prog 1000 0 26 (zX (zY f36) 0) Vc:=lp (A:=qT6) Vc (fun d=>match d with|.inl d=>.inl ()|.inr d=>.inr d.1.1.1) yBv F2 BX yKg zF
def yR9:=zK 36 [.c (.dat false zI),.c (.dat false zI)] (.c .bool) (fun k d=>F1 k d.1 d.2.1) (fun x=>(x,()))
theorem yQ4:zB prog yR9:=fA (rs:=.c .bool) f36 qT6 (fun d=>d.1) yKg (qN vI7)
def qN4:=zK 11 [.agg om,.agg om] (.c .bool) (fun k d=>F3 k (vH d) (vC2 d)) (fun x=>(x,()))
theorem ySf:zB prog qN4:=fA (rs:=.c .bool) f11 n0 (fun d=>d.1) (e4 vKm Ld yJr yQ4) zF
def qHy:=yV 12 [.ptr true ie] (.tup []) [vG] 0 (fun k d=>kS k (jS d)) (fun x=>(fa x ()))
theorem Vd:zB prog qHy:=fX (rs:=.tup []) (os:=[vG]) (ns:=0) f12 ⟨[],[],[(2,3)],true⟩ 1 (fun d=>(jS d)) e0 (xW (n:=1) (by kernel_rfl) fun i hi=>match i,hi with|0,_=>.inr ⟨by kernel_rfl,zF⟩|i+1,hi=>absurd hi (by omega))
def yJy:zG:=⟨[(1,.c (.dat false .i)),(4,.c (.lit (.ptr 1001000 0))),(5,.c (.lit (.ptr 1001001 0))),(6,.c .i)],[.box true iV,.box true iV],[]⟩
def qR1:zG:=⟨[(4,.c (.lit (.ptr 1001000 0))),(5,.c (.lit (.ptr 1001001 0)))],[.box true iV,.box true iV],[]⟩
def yLl (f:Ve)(d:yJy.den):=(sX (sX (f d.1.1.1 d.1.2.2.2.1.1) d.2.1) d.2.2.1)
def Vf:qA:=⟨[yJy],[(.exit 0,qR1)],Vg,fun k d=>yLl (Le k k) d,fun b x _ K=>K (.exit 0) (zP b qR1 (((),(),()),((Cq x ()),(vF6 x ()),())))⟩
def qS5:qB:=⟨[],[(3,Vf)],[],false⟩
theorem yXf:zZ prog 1000 0 27 (zX (zY f72) 0) Vf:=lp (A:=qS5) Vf (fun d=>(Cq d.2.1 (dP d.2.2.1))) yLl Le yFw e0 zF
def yZg:=zK 72 [.c .i,.c (.dat false .i)] (.agg lT) (fun k d=>yGt k d.1 d.2.1) (fun x=>(j0 x ()))
theorem yVb:zB prog yZg:=fA (rs:=.agg lT) f72 qS5 (fun d=>(dP d)) e0 (qN yXf)
def vGo:=zK 39 [.c .i,.c .i,.c (.dat false .i)] (.agg Ck) (fun k d=>GC k d.1 d.2.1 d.2.2.1) (fun x=>(sP x ()))
theorem yWn:zB prog vGo:=fA (rs:=.agg Ck) f39 n0 (fun d=>(gI d)) (e1 yVb) zF
def vAq:=zK 38 [.agg Gq] (.agg [.i,.i,.own (.int .u8),.i,.i]) (fun k d=>GD k (gI d)) (fun x=>(eu x ()))
theorem vDk:zB prog vAq:=fA (rs:=.agg [.i,.i,.own (.int .u8),.i,.i]) f38 n0 (fun d=>(vT d)) (e1 qT9) zF
def vFt:=zK 122 [.agg Gq] (.c .bool) (fun k d=>yAr k (gI d)) (fun x=>(x,()))
theorem yBw:zB prog vFt:=fA (rs:=.c .bool) f122 n0 (fun d=>d.1) e0 zF
def yIj:zG:=⟨[(0,.c (.dat false qV)),(1,.c (.lit (.fn 122 []))),(7,.c .i),(8,.c .i)],[],[]⟩
def yEo:zG:=⟨[],[],[]⟩
def yJa:zG:=⟨[(4,.c .i)],[],[]⟩
def yAk (f:Vh)(d:yIj.den):=f d.1.1.1 d.1.2.2.1.1 d.1.2.2.2.1.1
def Vi:qA:=⟨[yIj],[(.exit 0,yEo),(.ret,yJa)],(Unit⊕Int),fun k d=>yAk (Vj k k) d,fun b x _ K=>match x with|.inl x=>K (.exit 0) (zP b yEo ((),()))|.inr x=>K .ret (zP b yJa (((x,()),()),()))⟩
def yB8:qB:=⟨[],[(2,Vi)],[],true⟩
theorem vGe:zZ prog 1000 0 19 (zX (zY f155) 0) Vi:=lp (A:=yB8) Vi (fun d=>match d with|.inl d=>.inl ()|.inr d=>.inr d.1.1.1) yAk Vj yFi (e1 yBw) zF
def vHx:=zK 155 [.c (.dat false qV),.c (.fn 122)] (.c .i) (fun k d=>qRr k d.1) (fun x=>(x,()))
theorem yWl:zB prog vHx:=fA (rs:=.c .i) f155 yB8 (fun d=>d.1) (e1 yBw) (qN vGe)
def vA1:=zK 121 [.c (.dat false qV),.c (.fn 122)] (.c .bool) (fun k d=>yI8 k d.1) (fun x=>(x,()))
theorem yUz:zB prog vA1:=fA (rs:=.c .bool) f121 n0 (fun d=>d.1) (e1 yWl) zF
def yTu:=zK 71 [.c (.dat false qV)] (.c .bool) (fun k d=>Vk k d.1) (fun x=>(x,()))
theorem yCc:zB prog yTu:=fA (rs:=.c .bool) f71 n0 (fun d=>d.1) (e1 yUz) zF
def yO8:=zK 24 [.c (.nilp)] (.c .bool) (fun k d=>GG k) (fun x=>(x,()))
theorem Vl:zB prog yO8:=fA (rs:=.c .bool) f24 n0 (fun d=>d.1) e0 zF
def yPq:=zK 7 [.c (.nilp),.c .i,.c (.dat false (.int .u8))] (.c (.own qV)) (fun k d=>yDl k d.2.1 d.2.2.1) (fun x=>(x,()))
theorem yJs:zB prog yPq:=fA (rs:=.c (.own qV)) f7 n0 (fun d=>d.1) (e3 Vl Gp yKu) zF
def yQm:=zK 9 [.c (.nilp)] (.agg Kw) (fun k d=>Vm k) (fun x=>(jN x ()))
theorem qVr:zB prog yQm:=fA (rs:=.agg Kw) f9 n0 (fun d=>(vH d)) e0 zF
def ySn:=zK 75 [.c (.nilp),.c .i] (.c (.own (.int .u8))) (fun k d=>qSw k d.2.1) (fun x=>(x,()))
theorem vF4:zB prog ySn:=fA (rs:=.c (.own (.int .u8))) f75 n0 (fun d=>d.1) e0 zF
def yY7:=zK 43 [.c (.nilp),.c .i] (.tup [(false,qO),(false,lS),(false,og)]) (fun k d=>Lf k d.2.1) (fun x=>(x.1,x.2.1,x.2.2,()))
theorem yYd:zB prog yY7:=fA (rs:=.tup [(false,qO),(false,lS),(false,og)]) f43 n0 (fun d=>(d.1,d.2.1,d.2.2.1)) (e3 vF4 yMd Gl) zF
def yNc:=zK 15 [.c (.nilp)] (.tup [(false,qO),(false,qO),(false,lS),(false,og),(false,[.bool])]) (fun k d=>qVs k) (fun x=>(eu x ()))
theorem yL6:zB prog yNc:=fA (rs:=.tup [(false,qO),(false,qO),(false,lS),(false,og),(false,[.bool])]) f15 ⟨[],[],[(2,3)],true⟩ (fun d=>(d.1,d.2.1,d.2.2.1,d.2.2.2.1,d.2.2.2.2.1)) (e1 yYd) (xW (n:=1) (by kernel_rfl) fun i hi=>match i,hi with|0,_=>.inr ⟨by kernel_rfl,zF⟩|i+1,hi=>absurd hi (by omega))
def yUv:=yV 16 [.c (.p (.nilp)),.c (.p (.dat false (.int .u8)))] (.tup [(false,[.nilp]),(false,[.own (.int .u8)]),(false,[.own (.sl (.int .u8))]),(false,qO)]) [] 0 (fun k d=>yK2 k d.2.1) (fun x=>((),x.1,x.2.1,x.2.2,()))
theorem qTb:zB prog yUv:=fX (rs:=.tup [(false,[.nilp]),(false,[.own (.int .u8)]),(false,[.own (.sl (.int .u8))]),(false,qO)]) (os:=[]) (ns:=0) f16 n0 0 (fun d=>(d.2.1,d.2.2.1,d.2.2.2.1)) e0 zF
def yV5:=zK 23 [.c (.nilp),.c (.dat false (.int .u8))] (.c .i) (fun k d=>Lg k d.2.1) (fun x=>(x,()))
theorem yF7:zB prog yV5:=fA (rs:=.c .i) f23 n0 (fun d=>d.1) e0 zF
def yMa:zG:=⟨[(2,.c .i),(3,.c (.lit (.ptr 1001000 0))),(12,.c .bool),(13,.c (.lit .nilp)),(17,.c (.lit (.ptr 1001001 0))),(72,.c (.lit (.osl 1001002 none))),(73,.c .i),(74,.c .i)],[.box true Cu,.box true ic,.arr true (.sl (.int .u8))],[(17,some 1,.bool,true),(17,some 2,.bool,true),(17,some 3,.bool,true),(17,some 4,.bool,true),(17,some 5,.bool,true),(17,some 6,.bool,true),(17,some 7,.bool,true),(17,some 8,.bool,true)]⟩
def yD8:zG:=⟨[(2,.c .i),(3,.c (.lit (.ptr 1001000 0))),(12,.c .bool),(13,.c (.lit .nilp)),(17,.c (.lit (.ptr 1001001 0)))],[.box true Cu,.box true ic],[]⟩
def qWb (f:Vn)(d:yMa.den):=f d.1.1.1 d.1.2.2.1.1 d.1.2.2.2.2.2.2.1.1 d.1.2.2.2.2.2.2.2.1.1 (vT d.2.1) (vH d.2.2.1) d.2.2.2.1
def Vo:qA:=⟨[yMa],[(.exit 0,yD8)],Vp,fun k d=>qWb (GH k k) d,fun b x _ K=>K (.exit 0) (zP b yD8 (((x.1,()),(),(x.2.1,()),(),(),()),((eu x.2.2.1 ()),(jN x.2.2.2 ()),())))⟩
def yC3:qB:=⟨[],[(11,Vo)],[],true⟩
theorem vEv:zZ prog 1000 0 112 (zX (zY f6) 0) Vo:=lp (A:=yC3) Vo (fun d=>(d.1.1.1,d.1.2.2.1.1,(vT d.2.1),(vH d.2.2.1))) qWb GH qU1 (Kq Kr yL6 Kx pX qTb KF KH GA yF7 K8) zF
def qNt:=yV 6 [.agg K3,.c (.p (.nilp)),.c (.p .i)] (.tup [(false,[.nilp]),(false,qO)]) [] 0 (fun k d=>Vq k (vT d) d.2.2.2.2.2.2.1) (fun x=>((),x,()))
theorem Vr:zB prog qNt:=fX (rs:=.tup [(false,[.nilp]),(false,qO)]) (os:=[]) (ns:=0) f6 yC3 0 (fun d=>d.2.1) (Kq Kr yL6 Kx pX qTb KF KH GA yF7 K8) (qN vEv)
def qW5:zG:=⟨[(2,.c .i),(4,.c (.lit (.ptr 1001000 0))),(8,.c (.lit (.ptr 1001001 0))),(9,.c (.lit (.ptr 1001002 0))),(10,.c (.lit (.ptr 1001005 0))),(12,.c (.lit (.ptr 1001007 0))),(30,.c (.dat false (.pair .i (.pair .i (.pair (.sl (.int .u8)) vL))))),(31,.c .i),(32,.c .i)],[.box true Cu,.box true Lh,.box true Cv,.arr true (.int .u8),.arr true (.int .u8),.box true Vs,.box true Vt,.box true [.lit (.osl 1001008 none),.lit (.osl 1001009 none),.i,.lit .nsl,.lit .nsl,.lit .nsl,.lit .nsl,.lit .nsl,.lit .nsl,.lit .nsl,.lit .nsl,.i,.bool,.bool],.arr true (.sl qV),.arr true qV],[(12,some 0,(.sl qV),false),(12,some 1,qV,false)]⟩
def qTe:zG:=⟨[(2,.c .i),(4,.c (.lit (.ptr 1001000 0))),(8,.c (.lit (.ptr 1001001 0))),(9,.c (.lit (.ptr 1001002 0))),(10,.c (.lit .nilp)),(12,.c (.lit (.ptr 1001005 0))),(30,.c (.dat false (.pair .i (.pair .i (.pair (.sl (.int .u8)) vL))))),(31,.c .i),(32,.c .i)],[.box true Cu,.box true Lh,.box true Cv,.arr true (.int .u8),.arr true (.int .u8),.box true [.lit (.osl 1001006 none),.lit (.osl 1001007 none),.i,.lit .nsl,.lit .nsl,.lit .nsl,.lit .nsl,.lit .nsl,.lit .nsl,.lit .nsl,.lit .nsl,.i,.bool,.bool],.arr true (.sl qV),.arr true qV],[(12,some 0,(.sl qV),false),(12,some 1,qV,false)]⟩
def yEd:zG:=⟨[(8,.c (.lit (.ptr 1001000 0))),(10,.c (.lit .nilp)),(12,.c (.lit (.ptr 1001001 0)))],[.box true Lh,.box true [.lit (.osl 1001002 none),.lit (.osl 1001003 none),.i,.lit .nsl,.lit .nsl,.lit .nsl,.lit .nsl,.lit .nsl,.lit .nsl,.lit .nsl,.lit .nsl,.i,.bool,.bool],.arr true (.sl qV),.arr true qV],[]⟩
def qZg:zG:=⟨[(8,.c (.lit (.ptr 1001000 0))),(10,.c (.lit (.ptr 1001001 0))),(12,.c (.lit (.ptr 1001006 0)))],[.box true Lh,.box true [.lit (.ptr 1001002 0),.i,.dat true vL,.i,.i,.i,.i,.dat true qZ,.dat true (.sl .i),.dat true .i,.dat true (.sl .i),.dat true .i,.dat true (.sl .i),.dat true zI,.dat true .i,.i,.bool,.i,.bool],.box true [.lit (.ptr 1001003 0),.i,.i,.i,.bool],.box true [.i,.lit (.osl 1001004 none),.i,.lit (.osl 1001005 none),.i,.i,.i,.bool,.bool,.i],.arr true (.int .u8),.arr true (.int .u8),.box true [.lit (.osl 1001007 none),.lit (.osl 1001008 none),.i,.lit .nsl,.lit .nsl,.lit .nsl,.lit .nsl,.lit .nsl,.lit .nsl,.lit .nsl,.lit .nsl,.i,.bool,.bool],.arr true (.sl qV),.arr true qV],[]⟩
def qV3 (f:yp)(d:mW [qW5,qTe]):Option Lj:=match d with|.inl d=>f (.inl (d.1.1.1,d.1.2.2.2.2.2.2.1.1,d.1.2.2.2.2.2.2.2.1.1,d.1.2.2.2.2.2.2.2.2.1.1,(vT d.2.1),(wI d.2.2.1),(gI d.2.2.2.1),d.2.2.2.2.1,d.2.2.2.2.2.1,(jM d.2.2.2.2.2.2.1),(wI d.2.2.2.2.2.2.2.1),(wI d.2.2.2.2.2.2.2.2.1),d.2.2.2.2.2.2.2.2.2.1,d.2.2.2.2.2.2.2.2.2.2.1))|.inr d=>f (.inr (d.1.1.1,d.1.2.2.2.2.2.2.1.1,d.1.2.2.2.2.2.2.2.1.1,d.1.2.2.2.2.2.2.2.2.1.1,(vT d.2.1),(wI d.2.2.1),(gI d.2.2.2.1),d.2.2.2.2.1,d.2.2.2.2.2.1,(wI d.2.2.2.2.2.2.1),d.2.2.2.2.2.2.2.1,d.2.2.2.2.2.2.2.2.1))
def Vu:qA:=⟨[qW5,qTe],[(.exit 0,yEd),(.exit 0,qZg)],Lj,fun k d=>qV3 (Lk k k) d,fun b x _ K=>match x with|.inl x=>K (.exit 0) (zP b yEd (((),(),(),()),((jF x.1 ()),(jF x.2.1 ()),x.2.2.1,x.2.2.2,())))|.inr x=>K (.exit 0) (zP b qZg (((),(),(),()),((jF x.1 ()),(wR x.2.1 ()),(jF x.2.2.1 ()),(sP x.2.2.2.1 ()),x.2.2.2.2.1,x.2.2.2.2.2.1,(jF x.2.2.2.2.2.2.1 ()),x.2.2.2.2.2.2.2.1,x.2.2.2.2.2.2.2.2,())))⟩
def yD0:qB:=⟨[],[(7,Vu)],[],true⟩
theorem vBs:zZ prog 1000 0 110 (zX (zY f37) 0) Vu:=lp (A:=yD0) Vu (fun d=>match d with|.inl d=>.inl ((wI d.2.1),(wI d.2.2.1),d.2.2.2.1,d.2.2.2.2.1)|.inr d=>.inr ((wI d.2.1),(jM d.2.2.1),(wI d.2.2.2.1),(gI d.2.2.2.2.1),d.2.2.2.2.2.1,d.2.2.2.2.2.2.1,(wI d.2.2.2.2.2.2.2.1),d.2.2.2.2.2.2.2.2.1,d.2.2.2.2.2.2.2.2.2.1)) qV3 Lk qS8 (e13 QI UL U0 Gp yCc UW U2 Vd yJs Vl qVr U1 Vr) zF (hs:=by intro k rec d;rcases d with d|d<;>kernel_rfl) (h0:=by intro k d;rcases d with d|d<;>rfl)
def yQc:=zK 37 [.agg K3,.c .i,.c .i,.c (.dat false (.pair .i (.pair .i (.pair (.sl (.int .u8)) vL))))] (.agg qVv) (fun k d=>qXp k (vT d) d.2.2.2.2.2.1 d.2.2.2.2.2.2.1 d.2.2.2.2.2.2.2.1) (fun x=>(TH x ()))
theorem yUp:zB prog yQc:=fA (rs:=.agg qVv) f37 yD0 (fun d=>(TK d)) (e13 QI UL U0 Gp yCc UW U2 Vd yJs Vl qVr U1 Vr) (qN vBs)
def qId:=zK 13 [] (.c .bool) (fun k d=>QF k) (fun x=>(x,()))
theorem yS6:zB prog qId:=fA (rs:=.c .bool) f13 n0 (fun d=>d.1) (e4 F0q yWn vDk yUp) zF
def yBe:zG:=⟨[(1,.c (.dat false qV)),(2,.c (.dat false vL)),(7,.c (.lit (.ptr 1001000 0))),(8,.c (.lit (.ptr 1001002 0))),(9,.c (.lit (.ptr 1001005 0))),(11,.c .i)],[.box true Ll,.arr false vL,.box true Cv,.arr true (.int .u8),.arr true (.int .u8),.box true Vs,.box true Vt],[]⟩
def yMh:zG:=⟨[(2,.c (.dat false vL)),(7,.c (.lit (.ptr 1001000 0))),(8,.c (.lit (.ptr 1001002 0))),(9,.c (.lit (.ptr 1001005 0)))],[.box true Ll,.arr false vL,.box true Cv,.arr true (.int .u8),.arr true (.int .u8),.box true Vs,.box true Vt],[]⟩
def yJi (f:Vv)(d:yBe.den):=f d.1.1.1 d.1.2.1.1 d.1.2.2.2.2.2.1.1 (wI d.2.1) d.2.2.1 (gI d.2.2.2.1) d.2.2.2.2.1 d.2.2.2.2.2.1 (jM d.2.2.2.2.2.2.1) (wI d.2.2.2.2.2.2.2.1)
def Kn:qA:=⟨[yBe],[(.exit 0,yMh)],Vw,fun k d=>yJi (Cb k k) d,fun b x _ K=>K (.exit 0) (zP b yMh (((x.1,()),(),(),(),()),((jF x.2.1 ()),x.2.2.1,(sP x.2.2.2.1 ()),x.2.2.2.2.1,x.2.2.2.2.2.1,(wR x.2.2.2.2.2.2.1 ()),(jF x.2.2.2.2.2.2.2 ()),())))⟩
def yM0:zG:=⟨[(2,.c (.dat false vL)),(7,.c (.lit (.ptr 1001000 0))),(8,.c (.lit (.ptr 1001002 0))),(12,.c (.lit (.ptr 1001005 0))),(13,.c .i)],[.box true Ll,.arr false vL,.box true Cv,.arr true (.int .u8),.arr true (.int .u8),.box true ic],[]⟩
def qZv:zG:=⟨[(7,.c (.lit (.ptr 1001000 0))),(8,.c (.lit (.ptr 1001002 0))),(12,.c (.lit (.ptr 1001005 0)))],[.box true Ll,.arr false vL,.box true Cv,.arr true (.int .u8),.arr true (.int .u8),.box true ic],[]⟩
def yJ6:zG:=⟨[(6,.c .bool)],[],[]⟩
def yKe (f:Vx)(d:yM0.den):=f d.1.1.1 d.1.2.2.2.2.1.1 (wI d.2.1) d.2.2.1 (gI d.2.2.2.1) d.2.2.2.2.1 d.2.2.2.2.2.1 (vH d.2.2.2.2.2.2.1)
def Ko:qA:=⟨[yM0],[(.exit 2,qZv),(.ret,yJ6)],Vy,fun k d=>yKe (Cd k k) d,fun b x _ K=>match x with|.inl x=>K (.exit 2) (zP b qZv (((),(),(),()),((jF x.1 ()),x.2.1,(sP x.2.2.1 ()),x.2.2.2.1,x.2.2.2.2.1,(jN x.2.2.2.2.2 ()),())))|.inr x=>K .ret (zP b yJ6 (((x,()),()),()))⟩
def yMu:Env:=⟨prog,fun _=>false,dI [R0q,R1q,qDs,qOj,qKm,qCo,qJr,qN4,qHy,qId,qNt]⟩
theorem Km:jL yMu:=lz fB ⟨F0q,QI,UL,qT9,U0,U1,U2,ySf,Vd,yS6,Vr,trivial⟩
def Vz:qB:=⟨[],[(9,Kn),(14,Ko)],[],true⟩
theorem yQw:zZ prog 1000 0 118 (zX (zY f3) 0) Kn:=lp (A:=Vz) Kn (fun d=>(d.1.1.1,(wI d.2.1),d.2.2.1,(gI d.2.2.2.1),d.2.2.2.2.1,d.2.2.2.2.2.1,(jM d.2.2.2.2.2.2.1),(wI d.2.2.2.2.2.2.2.1))) yJi Cb Cc Km zF
theorem yUb:zZ prog 1000 0 118 (zX (zY f3) 1) Ko:=lp (A:=Vz) Ko (fun d=>match d with|.inl d=>.inl ((wI d.2.1),d.2.2.1,(gI d.2.2.2.1),d.2.2.2.2.1,d.2.2.2.2.2.1,(vH d.2.2.2.2.2.2.1))|.inr d=>.inr d.1.1.1) yKe Cd Ce Km zF
def QG:List AS:=[.c .i,.c (.dat false qV),.c (.dat false vL)]
theorem vAp:Od yMu Vz 0 f3 QG (.c .bool) (fun d=>d.1) (fun k d=>Kl k d.1 d.2.1 d.2.2.1):=by intro k d;kernel_rfl
end
end Go.Ab.Gi
