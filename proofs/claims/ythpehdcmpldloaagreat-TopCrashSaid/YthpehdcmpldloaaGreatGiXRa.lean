/- part 99 -/
import Derived.Test.YthpehdcmpldloaaGreatGiXS
import Derived.Test.YthpehdcmpldloaaGreatGiAbE
import Derived.Test.YthpehdcmpldloaaGreatProg
set_option linter.unusedVariables false
set_option maxRecDepth 100000
set_option maxHeartbeats 4000000
namespace Go.Ab.Gi
open Go.RowKit Go.Lib Go.Proofs Go.Proofs.Tryz
noncomputable section
def ic:prog.follows .mixedOrders=true:=by kernel_rfl
abbrev n0:zW:=⟨[],[],[],true⟩
def e0:jU ⟨prog,fun _=>false,fK []⟩:=od (l:=[]) ic trivial
def e1 {a0}(h0:zD prog a0):jU ⟨prog,fun _=>false,fK [a0]⟩:=od (l:=[a0]) ic ⟨h0,trivial⟩
def e2 {a0 a1}(h0:zD prog a0)(h1:zD prog a1):jU ⟨prog,fun _=>false,fK [a0,a1]⟩:=od (l:=[a0,a1]) ic ⟨h0,h1,trivial⟩
def e3 {a0 a1 a2}(h0:zD prog a0)(h1:zD prog a1)(h2:zD prog a2):jU ⟨prog,fun _=>false,fK [a0,a1,a2]⟩:=od (l:=[a0,a1,a2]) ic ⟨h0,h1,h2,trivial⟩
def e4 {a0 a1 a2 a3}(h0:zD prog a0)(h1:zD prog a1)(h2:zD prog a2)(h3:zD prog a3):jU ⟨prog,fun _=>false,fK [a0,a1,a2,a3]⟩:=od (l:=[a0,a1,a2,a3]) ic ⟨h0,h1,h2,h3,trivial⟩
def e5 {a0 a1 a2 a3 a4}(h0:zD prog a0)(h1:zD prog a1)(h2:zD prog a2)(h3:zD prog a3)(h4:zD prog a4):jU ⟨prog,fun _=>false,fK [a0,a1,a2,a3,a4]⟩:=od (l:=[a0,a1,a2,a3,a4]) ic ⟨h0,h1,h2,h3,h4,trivial⟩
def e6 {a0 a1 a2 a3 a4 a5}(h0:zD prog a0)(h1:zD prog a1)(h2:zD prog a2)(h3:zD prog a3)(h4:zD prog a4)(h5:zD prog a5):jU ⟨prog,fun _=>false,fK [a0,a1,a2,a3,a4,a5]⟩:=od (l:=[a0,a1,a2,a3,a4,a5]) ic ⟨h0,h1,h2,h3,h4,h5,trivial⟩
def e7 {a0 a1 a2 a3 a4 a5 a6}(h0:zD prog a0)(h1:zD prog a1)(h2:zD prog a2)(h3:zD prog a3)(h4:zD prog a4)(h5:zD prog a5)(h6:zD prog a6):jU ⟨prog,fun _=>false,fK [a0,a1,a2,a3,a4,a5,a6]⟩:=od (l:=[a0,a1,a2,a3,a4,a5,a6]) ic ⟨h0,h1,h2,h3,h4,h5,h6,trivial⟩
def e8 {a0 a1 a2 a3 a4 a5 a6 a7}(h0:zD prog a0)(h1:zD prog a1)(h2:zD prog a2)(h3:zD prog a3)(h4:zD prog a4)(h5:zD prog a5)(h6:zD prog a6)(h7:zD prog a7):jU ⟨prog,fun _=>false,fK [a0,a1,a2,a3,a4,a5,a6,a7]⟩:=od (l:=[a0,a1,a2,a3,a4,a5,a6,a7]) ic ⟨h0,h1,h2,h3,h4,h5,h6,h7,trivial⟩
def e9 {a0 a1 a2 a3 a4 a5 a6 a7 a8}(h0:zD prog a0)(h1:zD prog a1)(h2:zD prog a2)(h3:zD prog a3)(h4:zD prog a4)(h5:zD prog a5)(h6:zD prog a6)(h7:zD prog a7)(h8:zD prog a8):jU ⟨prog,fun _=>false,fK [a0,a1,a2,a3,a4,a5,a6,a7,a8]⟩:=od (l:=[a0,a1,a2,a3,a4,a5,a6,a7,a8]) ic ⟨h0,h1,h2,h3,h4,h5,h6,h7,h8,trivial⟩
def e10 {a0 a1 a2 a3 a4 a5 a6 a7 a8 a9}(h0:zD prog a0)(h1:zD prog a1)(h2:zD prog a2)(h3:zD prog a3)(h4:zD prog a4)(h5:zD prog a5)(h6:zD prog a6)(h7:zD prog a7)(h8:zD prog a8)(h9:zD prog a9):jU ⟨prog,fun _=>false,fK [a0,a1,a2,a3,a4,a5,a6,a7,a8,a9]⟩:=od (l:=[a0,a1,a2,a3,a4,a5,a6,a7,a8,a9]) ic ⟨h0,h1,h2,h3,h4,h5,h6,h7,h8,h9,trivial⟩
def e12 {a0 a1 a2 a3 a4 a5 a6 a7 a8 a9 JB JC}(h0:zD prog a0)(h1:zD prog a1)(h2:zD prog a2)(h3:zD prog a3)(h4:zD prog a4)(h5:zD prog a5)(h6:zD prog a6)(h7:zD prog a7)(h8:zD prog a8)(h9:zD prog a9)(J8:zD prog JB)(J9:zD prog JC):jU ⟨prog,fun _=>false,fK [a0,a1,a2,a3,a4,a5,a6,a7,a8,a9,JB,JC]⟩:=od (l:=[a0,a1,a2,a3,a4,a5,a6,a7,a8,a9,JB,JC]) ic ⟨h0,h1,h2,h3,h4,h5,h6,h7,h8,h9,J8,J9,trivial⟩
def yC0:zE:=sp [(0,.c (.dat false yt)),sI 3,sI 4] []
def vA7:zE:=sp [(0,.c (.dat false yt)),sI 3] []
def yM8 (f:qQp)(d:yC0.den):=f d.1.1.1 d.1.2.1.1 d.1.2.2.1.1
def qVr:zT:=⟨[yC0],[(.exit 0,vA7)],qJf,fun k d=>yM8 (HV k k) d,fun b x _ K=>K (.exit 0) (zN b vA7 (((x.1,()),(x.2,()),()),()))⟩
def A0q:zW:=⟨[],[(3,qVr)],[],true⟩
def vPg:zS prog 1000 0 30 (zQ (zR f7) 0) qVr:=lp (A:=A0q) qVr (fun d=>(d.1.1.1,d.1.2.1.1)) yM8 HV HW e0 zF
def R0q:=zI 7 [.c (.dat false yt)] (.c .bool) (fun k d=>Q5 k d.1) (fun x=>(x,())) (fun d=>d.1)
def F0q:zD prog R0q:=fA f7 A0q e0 (loops1 vPg)
def R1q:=zI 8 [.c .i] (.agg [.i,.own jB,.i,.i,.i]) (fun k d=>Mq k d.1) (fun x=>(jI x ())) (fun d=>(yR d))
def F1q:zD prog R1q:=fA f8 n0 e0 zF
def R2q:=yH 9 [.c (.p .i)] (.c (.link 0)) [jc] 1 (fun k d=>Q2 k d.1) (fun x=>((),(iE x ()))) (fun d=>(H2 d))
def F2q:zD prog R2q:=fX f9 n0 0 e0 zF
def R3q:=zI 72 [.c .i,.c .i,.c .i] (.c .bool) (fun k d=>tm k d.1 d.2.1 d.2.2.1) (fun x=>(x,())) (fun d=>d.1)
def F3q:zD prog R3q:=fA f72 n0 e0 zF
def R4q:=zI 71 [.agg [.i,.i]] (.c .bool) (fun k d=>yN4 k (d.1,d.2.1)) (fun x=>(x,())) (fun d=>d.1)
def F4q:zD prog R4q:=fA f71 n0 (e1 F3q) zF
def yJg:zE:=sp [(0,.c (.dat false jB)),(1,.c (.lit (.fn 71 []))),sI 7,sI 8] []
def vGj:zE:=sp [] []
def vDf:zE:=sp [sI 4] []
def yLq (f:qLc)(d:yJg.den):=f d.1.1.1 d.1.2.2.1.1 d.1.2.2.2.1.1
def qXj:zT:=⟨[yJg],[(.exit 0,vGj),(.ret,vDf)],(Unit⊕Int),fun k d=>yLq (qUf k k) d,fun b x _ K=>match x with|.inl x=>K (.exit 0) (zN b vGj ((),()))|.inr x=>K .ret (zN b vDf (((x,()),()),()))⟩
def A5q:zW:=⟨[],[(2,qXj)],[],true⟩
def aag:zS prog 1000 0 19 (zQ (zR f121) 0) qXj:=lp (A:=A5q) qXj (fun d=>match d with|.inl d=>.inl ()|.inr d=>.inr d.1.1.1) yLq qUf yP7 (e1 F4q) zF
def R5q:=zI 121 [.c (.dat false jB),.c (.fn 71)] (.c .i) (fun k d=>yFc k d.1) (fun x=>(x,())) (fun d=>d.1)
def F5q:zD prog R5q:=fA f121 A5q (e1 F4q) (loops1 aag)
def R6q:=zI 73 [.c (.dat false jB),.c (.fn 71)] (.c .bool) (fun k d=>yGm k d.1) (fun x=>(x,())) (fun d=>d.1)
def F6q:zD prog R6q:=fA f73 n0 (e1 F5q) zF
def R7q:=zI 32 [.agg kk] (.c .bool) (fun k d=>nD k (yR d)) (fun x=>(x,())) (fun d=>d.1)
def F7q:zD prog R7q:=fA f32 n0 (e2 F3q F6q) zF
def R8q:=zI 69 [.c .i] (.c .bool) (fun k d=>Q9 k d.1) (fun x=>(x,())) (fun d=>d.1)
def F8q:zD prog R8q:=fA f69 n0 e0 zF
def R9q:=xm 186 false (.int .u8) (.own (.int .u8)) Cx
def F9q:zD prog R9q:=fC f186 n0 e0 zF
def vQ0:=zI 123 [.ptr Mv,.c .i] (.c (.own (.int .u8))) (fun k d=>ZN k (fR d) d.2.2.2.2.2.2.2.2.2.2.1) (fun x=>(x,())) (fun d=>d.1)
def vG3:zD prog vQ0:=fA f123 n0 (e2 F8q F9q) zF
def yW1:zE:=⟨[(0,.c (.dat false (.int .u8))),sO 2 0],[oA (.sl (.int .u8))],[(2,none,(.sl (.int .u8)),false)]⟩
def yI1:zE:=sp [(0,.c (.dat false (.int .u8))),sO 2 0] [oA (.sl (.int .u8))]
def yE9 (f:qVz)(d:yW1.den):=f d.1.1.1 d.2.1
def qLu:zT:=⟨[yW1],[(.exit 0,yI1)],qVe,fun k d=>yE9 (EC k k) d,fun b x _ K=>K (.exit 0) (zN b yI1 (((x.1,()),(),()),(x.2,())))⟩
def yJv:zW:=⟨[],[(1,qLu)],[],true⟩
def vIz:zS prog 1000 0 43 (zQ (zR f122) 0) qLu:=lp (A:=yJv) qLu (fun d=>(d.1.1.1,d.2.1)) yE9 EC ED e0 zF
def aah:=zI 122 [.c (.dat false (.int .u8))] (.tup [(false,[.own (.sl (.int .u8))]),(false,yX)]) (fun k d=>OJ k d.1) (fun x=>(x.1,x.2,())) (fun d=>(d.1,d.2.1))
def vH3:zD prog aah:=fA f122 yJv e0 (loops1 vIz)
def yW0:zE:=sp [(0,.c (.dat false (.int .u8))),sO 4 0,(5,.c (.int .u64)),(16,.c (.dat false (.int .u8))),sI 17,sI 18] [oA .i]
def vAt:zE:=sp [(0,.c (.dat false (.int .u8))),sO 4 0,(5,.c (.int .u64))] [oA .i]
def yHe (f:qQ8)(d:yW0.den):=f d.1.1.1 d.1.2.2.1.1 d.1.2.2.2.1.1 d.1.2.2.2.2.1.1 d.1.2.2.2.2.2.1.1 d.2.1
def qTf:zT:=⟨[yW0],[(.exit 2,vAt)],qKz,fun k d=>yHe (Ep k k) d,fun b x _ K=>K (.exit 2) (zN b vAt (((x.1,()),(),(x.2.1,()),()),(x.2.2,())))⟩
def yMc:zE:=⟨[(0,.c (.dat false (.int .u8))),sO 4 0],[oA .i],[(4,none,.i,false)]⟩
def yGh:zE:=sp [sO 4 0] [oA .i]
def yKa (f:AC→AC→Option AC)(d:yMc.den):=f d.1.1.1 d.2.1
def qNy:zT:=⟨[yMc],[(.exit 0,yGh)],AC,fun k d=>yKa (Er k k) d,fun b x _ K=>K (.exit 0) (zN b yGh (((),()),(x,())))⟩
def yCp:zW:=⟨[],[(7,qTf),(4,qNy)],[],true⟩
def aai:zS prog 1000 0 36 (zQ (zQ (zR f90) 0) 0) qTf:=lp (A:=yCp) qTf (fun d=>(d.1.1.1,d.1.2.2.1.1,d.2.1)) yHe Ep Ox e0 zF
def aaj:zS prog 1000 0 36 (zQ (zR f90) 0) qNy:=lp (A:=yCp) qNy (fun d=>d.2.1) yKa Er Es e0 (loops1 aai)
def vW2:=zI 90 [.c (.dat false (.int .u8))] (.tup [(false,[.own .i]),(false,yX)]) (fun k d=>sQ k d.1) (fun x=>(x.1,x.2,())) (fun d=>(d.1,d.2.1))
def Ra:zD prog vW2:=fA f90 yCp e0 (loops1 aaj)
def vYr:=zI 74 [.ptr Mv,.c .i] (.tup [(false,yX),(false,[.fro (.int .u8)]),(false,[.fro (.sl (.int .u8))])]) (fun k d=>yl k (fR d) d.2.2.2.2.2.2.2.2.2.2.1) (fun x=>(x.1,x.2.1,x.2.2,())) (fun d=>(d.1,d.2.1,d.2.2.1))
def vKf:zD prog vYr:=fA f74 n0 (e3 vG3 vH3 Ra) zF
def vU6:=zI 33 [.ptr Mv] (.tup [(false,yX),(false,yX),(false,[.fro (.int .u8)]),(false,[.fro (.sl (.int .u8))]),(false,[.bool])]) (fun k d=>Mb k (fR d)) (fun x=>(jI x ())) (fun d=>(d.1,d.2.1,d.2.2.1,d.2.2.2.1,d.2.2.2.2.1))
def qWl:zD prog vU6:=fA f33 ⟨[],[],[(2,3)],true⟩ (e1 vKf) (Ji (n:=1) (by kernel_rfl) fun i hi=>match i,hi with|0,_=>.inr ⟨by kernel_rfl,zF⟩|i+1,hi=>absurd hi (by omega))
def aak:=zI 129 [.c .i] (.c .bool) (fun k d=>Kp k d.1) (fun x=>(x,())) (fun d=>d.1)
def Rb:zD prog aak:=fA f129 ⟨[],[],[],false⟩ e0 zF
def vC6:zE:=sp [sI 1,sO 5 0,sI 13,sI 14] [oA .i]
def vEe:zE:=sp [sO 5 0] [oA .i]
def yX2 (f:qSk)(d:vC6.den):=f d.1.1.1 d.1.2.2.1.1 d.1.2.2.2.1.1 d.2.1
def yB1:zT:=⟨[vC6],[(.exit 0,vEe)],AC,fun k d=>yX2 (Kq k k) d,fun b x _ K=>K (.exit 0) (zN b vEe (((),()),(x,())))⟩
def yE8:zW:=⟨[],[(5,yB1)],[],false⟩
def vOh:zS prog 1000 0 23 (zQ (zR f79) 0) yB1:=lp (A:=yE8) yB1 (fun d=>d.2.1) yX2 Kq Fj (e1 Rb) zF
def aal:=zI 79 [.c .i,.c .i] (.c (.own .i)) (fun k d=>BB k d.1 d.2.1) (fun x=>(x,())) (fun d=>d.1)
def CI:zD prog aal:=fA f79 yE8 (e1 Rb) (loops1 vOh)
def yWu:zE:=sp [sI 0,sI 1,sO 5 0,sI 13,sI 14] [.mat]
def yZs:zE:=sp [sO 5 0] [.mat]
def yIv (f:qMw)(d:yWu.den):=f d.1.1.1 d.1.2.1.1 d.1.2.2.2.1.1 d.1.2.2.2.2.1.1 d.2.1
def qYe:zT:=⟨[yWu],[(.exit 0,yZs)],EQ,fun k d=>yIv (Kr k k) d,fun b x _ K=>K (.exit 0) (zN b yZs (((),()),(x,())))⟩
def yF2:zW:=⟨[11],[(5,qYe)],[],false⟩
def aam:zS prog 1000 0 25 (zQ (zR f78) 0) qYe:=lp (A:=yF2) qYe (fun d=>d.2.1) yIv Kr Fl (e2 Rb CI) zF
def aan:=zI 78 [.c .i,.c .i] (.c (.mat)) (fun k d=>Fk k d.1 d.2.1) (fun x=>(x,())) (fun d=>d.1)
def Mw:zD prog aan:=fA f78 yF2 (e2 Rb CI) (loops1 aam)
def yV2:zE:=⟨[sP 1 0,sP 2 1,sI 3,sP 4 2,(20,.c (.dat false jB)),sI 21,sI 22],[oB rr,oB jX,oB Rc,oA qS,.mat,oA .i,.mat,oA .i],[(4,some 5,.i,false)]⟩
def yEe:zE:=sp [sP 1 0,sP 2 1,sI 3,sP 4 2] [oB rr,oB jX,oB Rc,oA qS,.mat,oA .i,.mat,oA .i]
def yWw (f:qN1)(d:yV2.den):=f d.1.2.2.1.1 d.1.2.2.2.2.1.1 d.1.2.2.2.2.2.1.1 d.1.2.2.2.2.2.2.1.1 (yR d.2.1) (d.2.2.1.1,d.2.2.1.2.1,d.2.2.1.2.2.1) (d.2.2.2.1.1,d.2.2.2.1.2.1,d.2.2.2.1.2.2.1) d.2.2.2.2.1 d.2.2.2.2.2.1 d.2.2.2.2.2.2.1 d.2.2.2.2.2.2.2.1 d.2.2.2.2.2.2.2.2.1
def Re:zT:=⟨[yV2],[(.exit 0,yEe)],qNx,fun k d=>yWw (qRt k k) d,fun b x _ K=>K (.exit 0) (zN b yEe (((),(),(x.1,()),(),()),((jI x.2.1 ()),(x.2.2.1.1,x.2.2.1.2.1,x.2.2.1.2.2,()),(x.2.2.2.1.1,x.2.2.2.1.2.1,x.2.2.2.1.2.2,()),x.2.2.2.2.1,x.2.2.2.2.2.1,x.2.2.2.2.2.2.1,x.2.2.2.2.2.2.2.1,x.2.2.2.2.2.2.2.2,())))⟩
def yYw:zE:=⟨[sP 1 0,sP 2 1,sP 4 2,sI 34,sI 35],[oB rr,oB jX,oB yXr,oA qS,.mat,oA .i,.mat,oA .i,.mat],[(4,some 6,(.sl .i),true)]⟩
def vCm:zE:=sp [sP 2 0,sP 4 1] [oB jX,oB yY7,oA qS,.mat,oA .i,.mat,oA .i,.mat]
def yMt (f:qVf)(d:yYw.den):=f d.1.2.2.2.1.1 d.1.2.2.2.2.1.1 (yR d.2.1) (d.2.2.1.1,d.2.2.1.2.1,d.2.2.1.2.2.1) (d.2.2.2.1.1,d.2.2.2.1.2.1,d.2.2.2.1.2.2.1) d.2.2.2.2.1 d.2.2.2.2.2.1 d.2.2.2.2.2.2.1 d.2.2.2.2.2.2.2.1 d.2.2.2.2.2.2.2.2.1 d.2.2.2.2.2.2.2.2.2.1
def Rf:zT:=⟨[yYw],[(.exit 2,vCm)],qO0,fun k d=>yMt (qL8 k k) d,fun b x _ K=>K (.exit 2) (zN b vCm (((),(),()),((x.1.1,x.1.2.1,x.1.2.2,()),(x.2.1.1,x.2.1.2.1,x.2.1.2.2,()),x.2.2.1,x.2.2.2.1,x.2.2.2.2.1,x.2.2.2.2.2.1,x.2.2.2.2.2.2.1,x.2.2.2.2.2.2.2,())))⟩
def qK2:zW:=⟨[43,44],[(4,Re),(9,Rf)],[],true⟩
def vVj:zS prog 1000 0 48 (zQ (zR f36) 0) Re:=lp (A:=qK2) Re (fun d=>(d.1.2.2.1.1,(yR d.2.1),(d.2.2.1.1,d.2.2.1.2.1,d.2.2.1.2.2.1),(d.2.2.2.1.1,d.2.2.2.1.2.1,d.2.2.2.1.2.2.1),d.2.2.2.2.1,d.2.2.2.2.2.1,d.2.2.2.2.2.2.1,d.2.2.2.2.2.2.2.1,d.2.2.2.2.2.2.2.2.1)) yWw qRt yIw (e2 Mw CI) zF
def vTq:zS prog 1000 0 48 (zQ (zR f36) 1) Rf:=lp (A:=qK2) Rf (fun d=>((d.2.1.1,d.2.1.2.1,d.2.1.2.2.1),(d.2.2.1.1,d.2.2.1.2.1,d.2.2.1.2.2.1),d.2.2.2.1,d.2.2.2.2.1,d.2.2.2.2.2.1,d.2.2.2.2.2.2.1,d.2.2.2.2.2.2.2.1,d.2.2.2.2.2.2.2.2.1)) yMt qL8 yKv (e2 Mw CI) zF
def vJc:=zI 36 [.agg kk] (.agg qP8) (fun k d=>rp k (yR d)) (fun x=>(vY x ())) (fun d=>(qQ d))
def yPu:zD prog vJc:=fA f36 qK2 (e2 Mw CI) (nh (n:=2) (by kernel_rfl) fun i hi=>match i,hi with|0,_=>⟨Re,by kernel_rfl,vVj⟩|1,_=>⟨Rf,by kernel_rfl,vTq⟩|i+2,hi=>absurd hi (by omega))
def aao:=zI 76 [.c .bool] (.c .i) (fun k d=>OH k d.1) (fun x=>(x,())) (fun d=>d.1)
def yCq:zD prog aao:=fA f76 n0 e0 zF
def yGq:zE:=sp [sO 3 0,sI 5,sI 6,(11,.c (.dat false .i)),sI 12,sI 13] [oA (.int .u8)]
def yWd:zE:=sp [sO 3 0,(11,.c (.dat false .i)),sI 12,sI 13] [oA (.int .u8)]
def yOc (f:qOd)(d:yGq.den):=f d.1.2.1.1 d.1.2.2.1.1 d.1.2.2.2.1.1 d.1.2.2.2.2.1.1 d.1.2.2.2.2.2.1.1 d.2.1
def yAm:zT:=⟨[yGq],[(.exit 2,yWd)],qWg,fun k d=>yOc (xr k k) d,fun b x _ K=>K (.exit 2) (zN b yWd (((),(x.1,()),(x.2.1,()),(x.2.2.1,()),()),(x.2.2.2,())))⟩
def yR1:zE:=sp [sO 3 0] [oA (.int .u8)]
def ySo (f:qX1)(d:yWd.den):=f d.1.2.1.1 d.1.2.2.1.1 d.1.2.2.2.1.1 d.2.1
def yBr:zT:=⟨[yWd],[(.exit 0,yR1)],AC,fun k d=>ySo (Br k k) d,fun b x _ K=>K (.exit 0) (zN b yR1 (((),()),(x,())))⟩
def yAg:zW:=⟨[],[(6,yAm),(3,yBr)],[],true⟩
def vM3:zS prog 1000 0 31 (zQ (zQ (zR f101) 0) 0) yAm:=lp (A:=yAg) yAm (fun d=>(d.1.2.1.1,d.1.2.2.1.1,d.1.2.2.2.1.1,d.2.1)) yOc xr OD e0 zF
def vQh:zS prog 1000 0 31 (zQ (zR f101) 0) yBr:=lp (A:=yAg) yBr (fun d=>d.2.1) ySo Br Ev e0 (loops1 vM3)
def aap:=zI 101 [.c (.dat false .i)] (.c (.own (.int .u8))) (fun k d=>xu k d.1) (fun x=>(x,())) (fun d=>d.1)
def Rg:zD prog aap:=fA f101 yAg e0 (loops1 vQh)
def vH0:=zI 128 [.c (.dat false .i)] (.c (.own (.int .u8))) (fun k d=>OE k d.1) (fun x=>(x,())) (fun d=>d.1)
def yJ1:zD prog vH0:=fA f128 n0 (e1 Rg) zF
def yPa:zE:=⟨[sO 3 0,(6,.c (.dat false (.sl .i))),sI 7,sI 8],[oA (.int .u8)],[(3,none,(.int .u8),false)]⟩
def yTf (f:qUj)(d:yPa.den):=f d.1.2.1.1 d.1.2.2.1.1 d.1.2.2.2.1.1 d.2.1
def qVs:zT:=⟨[yPa],[(.exit 0,yR1)],AC,fun k d=>yTf (Ey k k) d,fun b x _ K=>K (.exit 0) (zN b yR1 (((),()),(x,())))⟩
def vFh:zW:=⟨[],[(3,qVs)],[],true⟩
def vPi:zS prog 1000 0 18 (zQ (zR f77) 0) qVs:=lp (A:=vFh) qVs (fun d=>d.2.1) yTf Ey Ez (e1 yJ1) zF
def vOo:=zI 77 [.c (.dat false (.sl .i))] (.c (.own (.int .u8))) (fun k d=>JR k d.1) (fun x=>(x,())) (fun d=>d.1)
def qR4:zD prog vOo:=fA f77 vFh (e1 yJ1) (loops1 vPi)
def yVn:zE:=sp [sP 1 0,sP 3 1,sO 4 2,(39,.c (.dat true qS)),sI 40,sI 41] [oB jb,oB wH,oA (.sl .i)]
def yZ4:zE:=sp [sP 1 0,sP 3 1,sO 4 2] [oB jb,oB wH,oA (.sl .i)]
def vAw (f:qRa)(d:yVn.den):=f d.1.2.2.2.1.1 d.1.2.2.2.2.1.1 d.1.2.2.2.2.2.1.1 (qQ d.2.1) (wS d.2.2.1) d.2.2.2.1
def Rh:zT:=⟨[yVn],[(.exit 0,yZ4)],qZf,fun k d=>vAw (Bt k k) d,fun b x _ K=>K (.exit 0) (zN b yZ4 (((),(),(),()),((vY x.1 ()),(fk x.2.1 ()),x.2.2,())))⟩
def yQd:zE:=sp [sP 1 0,sO 4 1,(79,.c (.dat true zG)),sI 80,sI 81] [oB jb,oA (.sl .i)]
def yOz:zE:=sp [sP 1 0,sO 4 1] [oB jb,oA (.sl .i)]
def ySi (f:qUy)(d:yQd.den):=f d.1.2.2.1.1 d.1.2.2.2.1.1 d.1.2.2.2.2.1.1 (qQ d.2.1) d.2.2.1
def Ri:zT:=⟨[yQd],[(.exit 2,yOz)],yA0,fun k d=>ySi (Bu k k) d,fun b x _ K=>K (.exit 2) (zN b yOz (((),(),()),((vY x.1 ()),x.2,())))⟩
def qLx:zW:=⟨[],[(4,Rh),(14,Ri)],[],true⟩
def vRc:zS prog 1000 0 110 (zQ (zR f35) 0) Rh:=lp (A:=qLx) Rh (fun d=>((qQ d.2.1),(wS d.2.2.1),d.2.2.2.1)) vAw Bt EA (e2 yCq qR4) zF
def vUi:zS prog 1000 0 110 (zQ (zR f35) 1) Ri:=lp (A:=qLx) Ri (fun d=>((qQ d.2.1),d.2.2.1)) ySi Bu EB (e2 yCq qR4) zF
def aaq:=zI 35 [.agg yu] (.c (.own (.int .u8))) (fun k d=>mn k (qQ d)) (fun x=>(x,())) (fun d=>d.1)
def CJ:zD prog aaq:=fA f35 qLx (e2 yCq qR4) (nh (n:=2) (by kernel_rfl) fun i hi=>match i,hi with|0,_=>⟨Rh,by kernel_rfl,vRc⟩|1,_=>⟨Ri,by kernel_rfl,vUi⟩|i+2,hi=>absurd hi (by omega))
def vQ6:=zI 124 [.c (.dat false (.int .u8))] (.tup [(false,[.own (.int .u8)]),(false,[.bool])]) (fun k d=>JP k d.1) (fun x=>(x.1,x.2,())) (fun d=>(d.1,d.2.1))
def vD1:zD prog vQ6:=fA f124 n0 e0 zF
def vHm:=zI 125 [.ptr Mv] (.c .i) (fun k d=>ZL k (fR d)) (fun x=>(x,())) (fun d=>d.1)
def vHs:zD prog vHm:=fA f125 n0 e0 zF
def aar:=zI 68 [.ptr Mv] (.c .bool) (fun k d=>Rj k (fR d)) (fun x=>(x,())) (fun d=>d.1)
def qXr:zD prog aar:=fA f68 n0 e0 zF
def aas:=yH 70 [.ptr true lK] (.c .bool) [jc] 0 (fun k d=>la k (fR d)) (fun x=>(x.1,(iE x.2 ()))) (fun d=>(d.1,(H2 d)))
def qPr:zD prog aas:=fX f70 ⟨[],[],[(6,3)],true⟩ 1 e0 (Ji (n:=1) (by kernel_rfl) fun i hi=>match i,hi with|0,_=>.inr ⟨by kernel_rfl,zF⟩|i+1,hi=>absurd hi (by omega))
def vId:=yH 126 [.ptr true lK,.c (.p .i)] (.c .i) [jc] 0 (fun k d=>QS k (fR d) d.2.2.2.2.2.2.2.2.2.2.1) (fun x=>(x.1,(iE x.2 ()))) (fun d=>(d.1,(H2 d)))
def vP6:zD prog vId:=fX f126 n0 1 (e3 qXr F8q qPr) zF
def vP4:=yH 30 [.ptr true lK,.c (.p .i),.c (.p (.dat false (.int .u8)))] (.c .i) [jc] 0 (fun k d=>yk k (fR d) d.2.2.2.2.2.2.2.2.2.2.1 d.2.2.2.2.2.2.2.2.2.2.2.1) (fun x=>(x.1,(iE x.2 ()))) (fun d=>(d.1,(H2 d)))
def yHp:zD prog vP4:=fX f30 n0 1 (e3 qXr F8q qPr) zF
def vL0:=yH 127 [.ptr true lK] (.c .i) [jc] 0 (fun k d=>vg k (fR d)) (fun x=>(x.1,(iE x.2 ()))) (fun d=>(d.1,(H2 d)))
def yUz:zD prog vL0:=fX f127 ⟨[],[],[(4,3)],true⟩ 1 (e2 qXr qPr) (Ji (n:=1) (by kernel_rfl) fun i hi=>match i,hi with|0,_=>.inr ⟨by kernel_rfl,zF⟩|i+1,hi=>absurd hi (by omega))
def aat:=yH 75 [.ptr true lK,.c (.p .i),.c (.p .i),.c (.p (.dat false (.int .u8)))] (.c .i) [jc] 0 (fun k d=>L7 k (fR d) d.2.2.2.2.2.2.2.2.2.2.1 d.2.2.2.2.2.2.2.2.2.2.2.1 d.2.2.2.2.2.2.2.2.2.2.2.2.1) (fun x=>(x.1,(iE x.2 ()))) (fun d=>(d.1,(H2 d)))
def vDx:zD prog aat:=fX f75 n0 1 (e6 Rg vD1 vHs vP6 yHp yUz) zF
def vRq:=We 34 [.ptr true lK,.c (.p (.dat false (.int .u8)))] (.tup [(false,[.link 1]),(false,[.fro (.int .u8)]),(false,[.fro (.sl (.int .u8))]),(false,yX)]) [jc,[.link 0,.i,.i,.i,.bool]] 1 (.tup [(false,[.nilp]),(false,[.own (.int .u8)]),(false,[.own (.sl (.int .u8))]),(false,yX)]) [jc] 0 (fun k d=>QT k (fR d) d.2.2.2.2.2.2.2.2.2.2.1) (fun x=>((),x.1,x.2.1,x.2.2.1,(iE x.2.2.2.1 ((),(fk x.2.2.2.2 ()))))) (fun x=>((),x.1,x.2.1,x.2.2.1,(iE x.2.2.2 ()))) (fun d=>(d.2.1,d.2.2.1,d.2.2.2.1,(yGk d),(vW9 d))) (fun d=>(d.2.1,d.2.2.1,d.2.2.2.1,(yGk d)))
def yTj:zD prog vRq:=fN f34 n0 1 (e2 qWl vDx) zF
def vXc:=zI 130 [.c (.dat true (.int .u8))] (.tup [(false,[.own .i]),(false,[.fro (.int .u8)]),(false,[.bool])]) (fun k d=>OI k d.1) (fun x=>(x.1,x.2.1,x.2.2,())) (fun d=>(d.1,d.2.1,d.2.2.1))
def vN7:zD prog vXc:=fA f130 n0 (e1 Ra) zF
def aau:=yH 82 [.ptr true H3] (.c (.own .i)) [[.fro (.int .u8),.bool]] 0 (fun k d=>ym k (d.1,d.2.1)) (fun x=>(x.1,x.2.1,x.2.2,())) (fun d=>(d.1,(d.2.1,d.2.2.1)))
def H4:zD prog aau:=fX f82 n0 1 (e1 vN7) zF
def vU7:=yH 80 [.ptr true H3,.c (.p .i)] (.c (.own .i)) [[.fro (.int .u8),.bool]] 0 (fun k d=>HE k (d.1,d.2.1) d.2.2.1) (fun x=>(x.1,x.2.1,x.2.2,())) (fun d=>(d.1,(d.2.1,d.2.2.1)))
def qVc:zD prog vU7:=fX f80 n0 1 (e1 H4) zF
def yOl:zE:=⟨[sP 0 0,sI 1,sO 5 1],[oB pH,oA (.sl .i)],[(5,none,(.sl .i),false)]⟩
def yZ5:zE:=sp [sP 0 0,sO 5 1] [oB pH,oA (.sl .i)]
def yUv (f:qY6)(d:yOl.den):=f d.1.2.1.1 (d.2.1.1,d.2.1.2.1) d.2.2.1
def qZ2:zT:=⟨[yOl],[(.exit 0,yZ5)],qLk,fun k d=>yUv (Me k k) d,fun b x _ K=>K (.exit 0) (zN b yZ5 (((),(),()),((x.1.1,x.1.2,()),x.2,())))⟩
def yLc:zW:=⟨[],[(2,qZ2)],[],true⟩
def vUq:zS prog 1000 1 23 (zQ (zR f81) 0) qZ2:=lp (A:=yLc) qZ2 (fun d=>((d.2.1.1,d.2.1.2.1),d.2.2.1)) yUv Me QU (e1 H4) zF
def aav:=yH 81 [.ptr true H3,.c (.p .i)] (.c (.own (.sl .i))) [[.fro (.int .u8),.bool]] 0 (fun k d=>HF k (d.1,d.2.1) d.2.2.1) (fun x=>(x.1,x.2.1,x.2.2,())) (fun d=>(d.1,(d.2.1,d.2.2.1)))
def qMy:zD prog aav:=fX f81 yLc 1 (e1 H4) (loops1 vUq)
def vXw:=zI 83 [.c (.dat false (.int .u8)),.c (.dat false (.int .u8))] (.c .bool) (fun k d=>ZT k d.1 d.2.1) (fun x=>(x,())) (fun d=>d.1)
def qP9:zD prog vXw:=fA f83 n0 e0 zF
def vGd:zE:=⟨[(0,.c (.dat true (.int .u8))),sP 2 0,sP 4 1,sO 5 2,sP 6 3,sI 7],[oB jX,oB pH,oA .i,oB Rk,oA qS],[(6,some 1,qS,false)]⟩
def vDc:zE:=sp [(0,.c (.dat true (.int .u8))),sP 2 0,sP 4 1,sO 5 2,sP 6 3] [oB jX,oB pH,oA .i,oB Rk,oA qS]
def yGg (f:qUp)(d:vGd.den):=f d.1.1.1 d.1.2.2.2.2.2.1.1 (d.2.1.1,d.2.1.2.1,d.2.1.2.2.1) (d.2.2.1.1,d.2.2.1.2.1) d.2.2.2.1 (d.2.2.2.2.1.1,d.2.2.2.2.1.2.1,d.2.2.2.2.1.2.2.1) d.2.2.2.2.2.1
def Rl:zT:=⟨[vGd],[(.exit 0,vDc)],yBn,fun k d=>yGg (HG k k) d,fun b x _ K=>K (.exit 0) (zN b vDc (((x.1,()),(),(),(),(),()),((x.2.1.1,x.2.1.2.1,x.2.1.2.2,()),(x.2.2.1.1,x.2.2.1.2,()),x.2.2.2.1,(x.2.2.2.2.1.1,x.2.2.2.2.1.2.1,x.2.2.2.2.1.2.2,()),x.2.2.2.2.2,())))⟩
def yTr:zE:=⟨[(0,.c (.dat true (.int .u8))),sP 2 0,sP 4 1,sP 6 2,sI 9],[oB jX,oB pH,oB qOu,oA qS,oA (.sl .i),oA .i,oA (.sl .i),oA .i,oA (.sl .i),oA zG],[(6,some 7,zG,false)]⟩
def vE4:zE:=sp [(0,.c (.dat true (.int .u8))),sP 2 0,sP 4 1,sP 6 2] [oB jX,oB pH,oB qOu,oA qS,oA (.sl .i),oA .i,oA (.sl .i),oA .i,oA (.sl .i),oA zG]
def yT9 (f:qWh)(d:yTr.den):=f d.1.1.1 d.1.2.2.2.2.1.1 (d.2.1.1,d.2.1.2.1,d.2.1.2.2.1) (d.2.2.1.1,d.2.2.1.2.1) (d.2.2.2.1.1,d.2.2.2.1.2.1,d.2.2.2.1.2.2.1) d.2.2.2.2.1 d.2.2.2.2.2.1 d.2.2.2.2.2.2.1 d.2.2.2.2.2.2.2.1 d.2.2.2.2.2.2.2.2.1 d.2.2.2.2.2.2.2.2.2.1 d.2.2.2.2.2.2.2.2.2.2.1
def Rm:zT:=⟨[yTr],[(.exit 2,vE4)],qVu,fun k d=>yT9 (HH k k) d,fun b x _ K=>K (.exit 2) (zN b vE4 (((x.1,()),(),(),(),()),((x.2.1.1,x.2.1.2.1,x.2.1.2.2,()),(x.2.2.1.1,x.2.2.1.2,()),(x.2.2.2.1.1,x.2.2.2.1.2.1,x.2.2.2.1.2.2,()),x.2.2.2.2.1,x.2.2.2.2.2.1,x.2.2.2.2.2.2.1,x.2.2.2.2.2.2.2.1,x.2.2.2.2.2.2.2.2.1,x.2.2.2.2.2.2.2.2.2.1,x.2.2.2.2.2.2.2.2.2.2,())))⟩
def qUu:zW:=⟨[],[(5,Rl),(15,Rm)],[],true⟩
def vHw:zS prog 1000 0 146 (zQ (zR f37) 0) Rl:=lp (A:=qUu) Rl (fun d=>(d.1.1.1,(d.2.1.1,d.2.1.2.1,d.2.1.2.2.1),(d.2.2.1.1,d.2.2.1.2.1),d.2.2.2.1,(d.2.2.2.2.1.1,d.2.2.2.2.1.2.1,d.2.2.2.2.1.2.2.1),d.2.2.2.2.2.1)) yGg HG QV (e5 qVc qMy H4 CJ qP9) zF
def aaw:zS prog 1000 0 146 (zQ (zR f37) 1) Rm:=lp (A:=qUu) Rm (fun d=>(d.1.1.1,(d.2.1.1,d.2.1.2.1,d.2.1.2.2.1),(d.2.2.1.1,d.2.2.1.2.1),(d.2.2.2.1.1,d.2.2.2.1.2.1,d.2.2.2.1.2.2.1),d.2.2.2.2.1,d.2.2.2.2.2.1,d.2.2.2.2.2.2.1,d.2.2.2.2.2.2.2.1,d.2.2.2.2.2.2.2.2.1,d.2.2.2.2.2.2.2.2.2.1,d.2.2.2.2.2.2.2.2.2.2.1)) yT9 HH QW (e5 qVc qMy H4 CJ qP9) zF
def vJb:=zI 37 [.c (.dat true (.int .u8))] (.tup [(true,yv),(false,[.bool])]) (fun k d=>Mh k d.1) (fun x=>(vY x.1 (x.2,()))) (fun d=>((qQ d),d.2.2.2.2.2.2.2.2.2.2.2.1))
def yIu:zD prog vJb:=fA f37 qUu (e5 qVc qMy H4 CJ qP9) (nh (n:=2) (by kernel_rfl) fun i hi=>match i,hi with|0,_=>⟨Rl,by kernel_rfl,vHw⟩|1,_=>⟨Rm,by kernel_rfl,aaw⟩|i+2,hi=>absurd hi (by omega))
def vVe:=zI 98 [.c .i] (.c .i) (fun k d=>uu k d.1) (fun x=>(x,())) (fun d=>d.1)
def Rn:zD prog vVe:=fA f98 n0 e0 zF
def aax:=zI 44 [.c (.dat false (.int .u8))] (.tup [(true,pI),(false,yX)]) (fun k d=>uv k d.1) (fun x=>(gi x.1 (x.2,()))) (fun d=>((vV d),d.2.2.2.2.2.2.2.1))
def Mx:zD prog aax:=fA f44 n0 (e2 Ra Rn) zF
def vMk:=zI 39 [.c (.dat false (.int .u8))] (.tup [(true,qPt),(false,yX)]) (fun k d=>tc k d.1) (fun x=>(CK x.1 (x.2,()))) (fun d=>((lJ d),d.2.2.2.2.2.2.2.2.1))
def yC9:zD prog vMk:=fA f39 n0 (e2 Ra Mx) zF
def aay:=zI 150 [.c .i] (.c .bool) (fun k d=>P9 k d.1) (fun x=>(x,())) (fun d=>d.1)
def aaz:zD prog aay:=fA f150 n0 e0 zF
def vIh:=zI 151 [.c .i] (.c .bool) (fun k d=>Lf k d.1) (fun x=>(x,())) (fun d=>d.1)
def vQ2:zD prog vIh:=fA f151 n0 e0 zF
def yRq:zE:=sp [(13,.c (.dat true .i)),sI 14,sI 15] []
def yQ4:zE:=sp [(2,.c .bool)] []
def ySk (f:qWq)(d:yRq.den):=f d.1.1.1 d.1.2.1.1 d.1.2.2.1.1
def qUw:zT:=⟨[yRq],[(.exit 0,vGj),(.ret,yQ4)],(Unit⊕Bool),fun k d=>ySk (mw k k) d,fun b x _ K=>match x with|.inl x=>K (.exit 0) (zN b vGj ((),()))|.inr x=>K .ret (zN b yQ4 (((x,()),()),()))⟩
def vAc:zW:=⟨[],[(5,qUw)],[],true⟩
def aaA:zS prog 1000 0 22 (zQ (zR f152) 0) qUw:=lp (A:=vAc) qUw (fun d=>match d with|.inl d=>.inl ()|.inr d=>.inr d.1.1.1) ySk mw lF (e1 Rn) zF
def vQm:=zI 152 [.agg vR] (.c .bool) (fun k d=>lG k (vV d)) (fun x=>(x,())) (fun d=>d.1)
def vDi:zD prog vQm:=fA f152 vAc (e1 Rn) (loops1 aaA)
def aaB:=zI 91 [.agg kk,.agg pJ,.agg CL] (.c .i) (fun k d=>uS k (yR d) (rq d) (yAh d)) (fun x=>(x,())) (fun d=>d.1)
def aaC:zD prog aaB:=fA f91 n0 (e3 aaz vQ2 vDi) zF
def vLi:=zI 195 [.agg vR,.ptr [.i]] (.c .bool) (fun k d=>(mD (X7 k) d)) (fun x=>(x,())) (fun d=>d.1)
def yXe:zD prog vLi:=fA f195 ⟨[],[],[],false⟩ e0 zF
def yYs:zE:=⟨[(1,.c (.lit (.fn 195 [1001000]))),sO 5 1,(8,.c (.dat false zG)),sI 9,sI 10],[.robox [.i],oA zG],[(5,none,zG,false)]⟩
def yKf:zE:=sp [sO 5 0] [oA zG]
def yN2 (f:qJ4)(d:yYs.den):=f d.1.2.2.1.1 d.1.2.2.2.1.1 d.1.2.2.2.2.1.1 d.2.1.1 d.2.2.1
def qT5:zT:=⟨[yYs],[(.exit 0,yKf)],qNg,fun k d=>yN2 (K4 k k) d,fun b x _ K=>K (.exit 0) (zN b yKf (((),()),(x,())))⟩
def yG8:zW:=⟨[],[(3,qT5)],[],false⟩
def vNh:zS prog 1000 0 23 (zQ (zR f194) 0) qT5:=lp (A:=yG8) qT5 (fun d=>d.2.1) yN2 K4 Gk (e1 yXe) zF
def vSt:=zI 194 [.c (.dat false zG),.fn 195 [[.i]]] (.c (.own zG)) (fun k d=>X6 k d.1 d.2.1) (fun x=>(x,())) (fun d=>d.1)
def vHq:zD prog vSt:=fA f194 yG8 (e1 yXe) (loops1 vNh)
def vL5:=zI 153 [.c (.dat false zG),.c .i] (.c (.own zG)) (fun k d=>K3 k d.1 d.2.1) (fun x=>(x,())) (fun d=>d.1)
def My:zD prog vL5:=fA f153 ⟨[],[],[],false⟩ (e1 vHq) zF
def vSp:=yH 93 [.ptr true [.p .i,.p (.nil),.p .i,.p .i,.p .i,.p .i,.p (.nil),.p (.nil),.p (.nil),.p (.nil),.p (.nil),.p (.nil),.p (.nil),.p (.nil),.p .i,.p .bool,.p .i,.p (.nil)],.c (.p .i),.c (.p (.dat false .i))] (.tup []) [[.i,.own jB,.i,.i,.i,.i,.own qS,.mat,.own .i,.mat,.own .i,.mat,.own zG,.own .i,.i,.bool,.i,.own qZ]] 0 (fun k d=>yGs k (d.1,(Ro d (d.2.2.2.2.2.2.2.2.2.2.2.2.2.2.1,d.2.2.2.2.2.2.2.2.2.2.2.2.2.2.2.1,d.2.2.2.2.2.2.2.2.2.2.2.2.2.2.2.2.1))) d.2.2.2.2.2.2.2.2.2.2.2.2.2.2.2.2.2.2.1 d.2.2.2.2.2.2.2.2.2.2.2.2.2.2.2.2.2.2.2.1) (fun x=>(jN x ())) (fun d=>(eG d))
def vN0:zD prog vSp:=fX f93 n0 1 e0 zF
def aaD:=zI 92 [.agg pJ,.c .i] (.c (.own qZ)) (fun k d=>Cm k (qQ d) d.2.2.2.2.2.2.2.2.2.2.2.1) (fun x=>(x,())) (fun d=>d.1)
def vT8:zD prog aaD:=fA f92 n0 (e2 My vN0) zF
def vKp:=yH 93 [.ptr true yw,.c (.p .i),.c (.p (.dat false .i))] (.tup []) [lL] 0 (fun k d=>LP k (lM d) d.2.2.2.2.2.2.2.2.2.2.2.2.2.2.2.2.2.2.1 d.2.2.2.2.2.2.2.2.2.2.2.2.2.2.2.2.2.2.2.1) (fun x=>(jN x ())) (fun d=>(eG d))
def yEz:zD prog vKp:=fX f93 n0 1 e0 zF
def vLn:=zI 84 [.c .i,.c .i,.c .i] (.c .bool) (fun k d=>vJ k d.1 d.2.1 d.2.2.1) (fun x=>(x,())) (fun d=>d.1)
def iF:zD prog vLn:=fA f84 n0 e0 zF
def vQz:=zI 269 [.agg kk,.c .i] (.c .bool) (fun k d=>Lc k (yR d) d.2.2.2.2.2.1) (fun x=>(x,())) (fun d=>d.1)
def vO1:zD prog vQz:=fA f269 n0 e0 zF
def vY0:=zI 237 [.agg kk,.c .i,.agg vR] (.c .bool) (fun k d=>P5 k (yR d) d.2.2.2.2.2.1 (qR3 d)) (fun x=>(x,())) (fun d=>d.1)
def aaE:zD prog vY0:=fA f237 n0 (e1 vO1) zF
def vXe:=zI 201 [.agg kk,.c .i,.c .i] (.c .i) (fun k d=>BZ k (yR d) d.2.2.2.2.2.1 d.2.2.2.2.2.2.1) (fun x=>(x,())) (fun d=>d.1)
def qN9:zD prog vXe:=fA f201 n0 e0 zF
def aaF:=zI 196 [.agg kk,.c .i,.agg vR] (.c .i) (fun k d=>GC k (yR d) d.2.2.2.2.2.1 (qR3 d)) (fun x=>(x,())) (fun d=>d.1)
def yRb:zD prog aaF:=fA f196 n0 (e2 aaE qN9) zF
def aaG:=zI 267 [.c .i] (.c .bool) (fun k d=>PD k d.1) (fun x=>(x,())) (fun d=>d.1)
def vUm:zD prog aaG:=fA f267 n0 e0 zF
def aaH:=zI 233 [.c .i,.c .i] (.c .bool) (fun k d=>PB k d.1 d.2.1) (fun x=>(x,())) (fun d=>d.1)
def yWo:zD prog aaH:=fA f233 n0 (e1 vUm) zF
def aaI:=zI 234 [.c .i] (.c .bool) (fun k d=>PF k d.1) (fun x=>(x,())) (fun d=>d.1)
def yNk:zD prog aaI:=fA f234 n0 e0 zF
def vD4:zE:=sp [(0,.c (.dat false .i)),sI 1,sI 6,sI 7,sI 8] []
def yN0:zE:=sp [(0,.c (.dat false .i)),sI 1,sI 6,sI 7] []
def yUy (f:qXo)(d:vD4.den):=f d.1.1.1 d.1.2.1.1 d.1.2.2.1.1 d.1.2.2.2.1.1 d.1.2.2.2.2.1.1
def qXg:zT:=⟨[vD4],[(.exit 0,yN0)],qYu,fun k d=>yUy (KQ k k) d,fun b x _ K=>K (.exit 0) (zN b yN0 (((x.1,()),(x.2.1,()),(x.2.2.1,()),(x.2.2.2,()),()),()))⟩
def yJf:zW:=⟨[],[(3,qXg)],[],true⟩
def vMb:zS prog 1000 0 54 (zQ (zR f191) 0) qXg:=lp (A:=yJf) qXg (fun d=>(d.1.1.1,d.1.2.1.1,d.1.2.2.1.1,d.1.2.2.2.1.1)) yUy KQ PE (e2 yWo yNk) zF
def vHc:=zI 191 [.c (.dat false .i),.c .i] (.tup [(false,yX),(false,[.bool])]) (fun k d=>FV k d.1 d.2.1) (fun x=>(x.1,x.2,())) (fun d=>(d.1,d.2.1))
def yN8:zD prog vHc:=fA f191 yJf (e2 yWo yNk) (loops1 vMb)
def vJ6:=xm 239 false .i (.own .i) qp
def Mz:zD prog vJ6:=fC f239 ⟨[],[],[],false⟩ e0 zF
def vNm (A X:Option Addr)(n c vc:Nat)(w w':World)(rv:Value)(hr:(Builtin.append_ #[36,36] 36 #[.slice A n c,.slice X 1 vc]).run prog w=.ok rv w'):
    Calls prog 238 #[.slice A n c,.int .i64 n,.slice X 1 vc] w fun e pg=>e=.returned rv∧pg=w':=by
  have t0:prog.underlying 36=some (.slice 2):=by kernel_rfl
  have t3:prog.underlying 3=some (.int .i64):=by kernel_rfl
  have z0:∀w,(Go.sizeOf 2).run prog w=.ok 1 w:=fun w=>by kernel_rfl
  have u0:=run_underlying t0;have u3:=run_underlying t3
  go_enter Proofs.Tryz.func238,Proofs.Tryz.ntmps238
  go_wp2_with (at_builtin;refine Lib.wpList_append_run _ rfl _ _ _ _ rfl _ _ rfl rfl _ _ hr ?_)
  all_goals (go_ret;exact⟨rfl,rfl⟩)
def aaJ:Om prog 238 36 3 1 where
  ends:=vNm
  grow B off n c i X vo vc N G w w1 w2 w3 hi hnc aO Lg hG hz hA hB:=by
    simp only[Nat.mul_one] at hA hB;have t0:prog.underlying 36=some (.slice 2):=by kernel_rfl
    have t3:prog.underlying 3=some (.int .i64):=by kernel_rfl
    have z0:∀w,(Go.sizeOf 2).run prog w=.ok 1 w:=fun w=>by kernel_rfl
    have u0:=run_underlying t0;have u3:=run_underlying t3;have mixed:prog.follows .mixedOrders=true:=ic;have hz2:¬((i:Int)=(n:Int)):=by omega
    have sB:IntKind.i64.wrap ((i:Int)+1)=(i:Int)+1:=by rw[IntKind.wrap_i64];omega
    have fG:(0:Int)≤(i:Int)+1:=by omega
    have fH:i≤n:=by omega
    have gX:((i:Int)+1).toNat=i+1:=by omega
    have hci:¬(c=i):=by omega
    have hz3:(c:Int)<(n:Int)+1:=by omega
    have hb3:(i:Int)≤(n:Int):=by omega
    have hGi:¬(G=i):=by omega
    have aaK:¬(G=i+1):=by omega
    go_enter Proofs.Tryz.func238,Proofs.Tryz.ntmps238
    go_wp2_with (first
      |(at_builtin;refine Lib.wpList_append_run _ rfl _ _ _ _ rfl _ _ rfl rfl _ _ hz ?_)
      |(at_builtin;refine Ot _ rfl _ _ 36 36 rfl _ _ rfl rfl (hA _) ?_))
    go_region_law_o (refine Ou rfl _ _ 36 36 rfl (.slice (some ⟨N,(i+1),none⟩) (n+1-(i+1)) (G-(i+1))) (.slice (some ⟨B,off+i,none⟩) (n-i) (c-i)) (by simp[Act.eval,Act.put]) (by simp[Act.eval,Act.put]) (hB (G-(i+1)) (c-i)) ?_)
    go_wp2
    go_ret
    exact⟨rfl,rfl⟩
  shift B off n c i X vo vc w w1 w2 hi aO Lg ss hA hB:=by
    simp only[Nat.mul_one] at hA hB;have t0:prog.underlying 36=some (.slice 2):=by kernel_rfl
    have t3:prog.underlying 3=some (.int .i64):=by kernel_rfl
    have z0:∀w,(Go.sizeOf 2).run prog w=.ok 1 w:=fun w=>by kernel_rfl
    have u0:=run_underlying t0;have u3:=run_underlying t3;have mixed:prog.follows .mixedOrders=true:=ic;have hz2:¬((i:Int)=(n:Int)):=by omega
    have sB:IntKind.i64.wrap ((i:Int)+1)=(i:Int)+1:=by rw[IntKind.wrap_i64];omega
    have fG:(0:Int)≤(i:Int)+1:=by omega
    have fH:i≤n:=by omega
    have gX:((i:Int)+1).toNat=i+1:=by omega
    have hci:¬(c=i):=by omega
    have vf:=fun lb cb=>yJc (P:=prog) (fo:=270) (tb:=4) (e:=2) (size:=1) Proofs.Tryz.func270 (by kernel_rfl) (by kernel_rfl) (by kernel_rfl) (by kernel_rfl) t0 z0 ss vo (off+(i+1)) vc lb cb
    have hb2:¬(c=i+1):=by omega
    have hb3:(i:Int)≤(n:Int)+1:=by omega
    go_enter Proofs.Tryz.func238,Proofs.Tryz.ntmps238
    go_wp2_with (simp only[vf])
    go_region_law_o (refine Ou rfl _ _ 36 36 rfl (.slice (some ⟨B,off+(i+1),none⟩) (n-i) (c-(i+1))) (.slice (some ⟨B,off+i,none⟩) (n+1-i) (c-i)) (by simp[Act.eval,Act.put]) (by simp[Act.eval,Act.put]) (hA _ _) ?_)
    go_wp2_with (at_builtin;refine Ot _ rfl _ _ 36 36 rfl _ _ rfl rfl (hB _) ?_)
    go_ret
    exact⟨rfl,rfl⟩
def aaL:Nat×nW:=(238,Wg .i 8)
def vT7:zD prog aaL:=yDa (e:=2) (fn:=f238) aaJ
def vQb:=zI 197 [.c (.dat true .i),.c .i] (.tup [(false,[.fro .i]),(false,yX)]) (fun k d=>FW k d.1 d.2.1) (fun x=>(x.1,x.2,())) (fun d=>(d.1,d.2.1))
def yYg:zD prog vQb:=fA f197 n0 (e3 yN8 Mz vT7) zF
def vUg:=zI 167 [.agg vR,.ptr [.i]] (.c .bool) (fun k d=>(mD (Xy k) d)) (fun x=>(x,())) (fun d=>d.1)
def yZ8:zD prog vUg:=fA f167 ⟨[],[],[],false⟩ e0 zF
def yMy:zE:=sp [(0,.c (.dat false zG)),(1,.c (.lit (.fn 167 [1001000]))),sI 7,sI 8] [.robox [.i]]
def yQ8 (f:qLb)(d:yMy.den):=f d.1.1.1 d.1.2.2.1.1 d.1.2.2.2.1.1 d.2.1.1
def qW7:zT:=⟨[yMy],[(.exit 0,vGj),(.ret,vDf)],(Unit⊕Int),fun k d=>yQ8 (FK k k) d,fun b x _ K=>match x with|.inl x=>K (.exit 0) (zN b vGj ((),()))|.inr x=>K .ret (zN b vDf (((x,()),()),()))⟩
def yNb:zW:=⟨[],[(2,qW7)],[],false⟩
def vT6:zS prog 1000 0 19 (zQ (zR f166) 0) qW7:=lp (A:=yNb) qW7 (fun d=>match d with|.inl d=>.inl ()|.inr d=>.inr d.1.1.1) yQ8 FK FL (e1 yZ8) zF
def vNr:=zI 166 [.c (.dat false zG),.fn 167 [[.i]]] (.c .i) (fun k d=>Xz k d.1 d.2.1) (fun x=>(x,())) (fun d=>d.1)
def aaM:zD prog vNr:=fA f166 yNb (e1 yZ8) (loops1 vT6)
def aaN:=zI 97 [.c (.dat false zG),.c .i] (.c .i) (fun k d=>ot k d.1 d.2.1) (fun x=>(x,())) (fun d=>d.1)
def yx:zD prog aaN:=fA f97 ⟨[],[],[],false⟩ (e1 aaM) zF
def aaO:=zI 268 [.c .i] (.c .bool) (fun k d=>Pz k d.1) (fun x=>(x,())) (fun d=>d.1)
def aaP:zD prog aaO:=fA f268 ⟨[],[],[],false⟩ e0 zF
def vJ9:=zI 236 [.c .i,.c .i] (.c .i) (fun k d=>KJ k d.1 d.2.1) (fun x=>(x,())) (fun d=>d.1)
def aaQ:zD prog vJ9:=fA f236 ⟨[],[],[],false⟩ (e1 aaP) zF
def vBh:zE:=sp [sI 3,(6,.c (.dat false .i)),sI 7,sI 8] []
def vC7:zE:=sp [sI 3] []
def yUt:zE:=sp [sI 2] []
def yYi (f:qOf)(d:vBh.den):=f d.1.1.1 d.1.2.1.1 d.1.2.2.1.1 d.1.2.2.2.1.1
def qUt:zT:=⟨[vBh],[(.exit 0,vC7),(.ret,yUt)],(Int⊕Int),fun k d=>yYi (KI k k) d,fun b x _ K=>match x with|.inl x=>K (.exit 0) (zN b vC7 (((x,()),()),()))|.inr x=>K .ret (zN b yUt (((x,()),()),()))⟩
def yU9:zW:=⟨[],[(3,qUt)],[],false⟩
def aaR:zS prog 1000 0 18 (zQ (zR f235) 0) qUt:=lp (A:=yU9) qUt (fun d=>match d with|.inl d=>.inl d.1.1.1|.inr d=>.inr d.1.1.1) yYi KI yQm e0 zF
def vKy:=zI 235 [.c (.dat false .i)] (.c .i) (fun k d=>Py k d.1) (fun x=>(x,())) (fun d=>d.1)
def vI7:zD prog vKy:=fA f235 yU9 e0 (loops1 aaR)
def vZh:=zI 193 [.agg vR,.agg vR] (.c .i) (fun k d=>(H5 (FM k) d)) (fun x=>(x,())) (fun d=>d.1)
def H6:zD prog vZh:=fA f193 ⟨[],[],[],false⟩ (e2 aaQ vI7) zF
def vNd:=xm 241 false zG (.own zG) xD
def Rp:zD prog vNd:=fC f241 ⟨[],[],[],false⟩ e0 zF
def vTb (A X:Option Addr)(n c vc:Nat)(w w':World)(rv:Value)(hr:(Builtin.append_ #[39,39] 39 #[.slice A n c,.slice X 1 vc]).run prog w=.ok rv w'):
    Calls prog 240 #[.slice A n c,.int .i64 n,.slice X 1 vc] w fun e pg=>e=.returned rv∧pg=w':=by
  have t0:prog.underlying 39=some (.slice 142):=by kernel_rfl
  have t3:prog.underlying 3=some (.int .i64):=by kernel_rfl
  have z0:∀w,(Go.sizeOf 142).run prog w=.ok 7 w:=fun w=>by kernel_rfl
  have u0:=run_underlying t0;have u3:=run_underlying t3
  go_enter Proofs.Tryz.func240,Proofs.Tryz.ntmps240
  go_wp2_with (at_builtin;refine Lib.wpList_append_run _ rfl _ _ _ _ rfl _ _ rfl rfl _ _ hr ?_)
  all_goals (go_ret;exact⟨rfl,rfl⟩)
def vK2:Om prog 240 39 3 7 where
  ends:=vTb
  grow B off n c i X vo vc N G w w1 w2 w3 hi hnc aO Lg hG hz hA hB:=by
    have t0:prog.underlying 39=some (.slice 142):=by kernel_rfl
    have t3:prog.underlying 3=some (.int .i64):=by kernel_rfl
    have z0:∀w,(Go.sizeOf 142).run prog w=.ok 7 w:=fun w=>by kernel_rfl
    have u0:=run_underlying t0;have u3:=run_underlying t3;have mixed:prog.follows .mixedOrders=true:=ic;have hz2:¬((i:Int)=(n:Int)):=by omega
    have sB:IntKind.i64.wrap ((i:Int)+1)=(i:Int)+1:=by rw[IntKind.wrap_i64];omega
    have fG:(0:Int)≤(i:Int)+1:=by omega
    have fH:i≤n:=by omega
    have gX:((i:Int)+1).toNat=i+1:=by omega
    have hci:¬(c=i):=by omega
    have hz3:(c:Int)<(n:Int)+1:=by omega
    have hb3:(i:Int)≤(n:Int):=by omega
    have hGi:¬(G=i):=by omega
    have aaK:¬(G=i+1):=by omega
    go_enter Proofs.Tryz.func240,Proofs.Tryz.ntmps240
    go_wp2_with (first
      |(at_builtin;refine Lib.wpList_append_run _ rfl _ _ _ _ rfl _ _ rfl rfl _ _ hz ?_)
      |(at_builtin;refine Ot _ rfl _ _ 39 39 rfl _ _ rfl rfl (hA _) ?_))
    go_region_law_o (refine Ou rfl _ _ 39 39 rfl (.slice (some ⟨N,(i+1)*7,none⟩) (n+1-(i+1)) (G-(i+1))) (.slice (some ⟨B,off+i*7,none⟩) (n-i) (c-i)) (by simp[Act.eval,Act.put]) (by simp[Act.eval,Act.put]) (hB (G-(i+1)) (c-i)) ?_)
    go_wp2
    go_ret
    exact⟨rfl,rfl⟩
  shift B off n c i X vo vc w w1 w2 hi aO Lg ss hA hB:=by
    have t0:prog.underlying 39=some (.slice 142):=by kernel_rfl
    have t3:prog.underlying 3=some (.int .i64):=by kernel_rfl
    have z0:∀w,(Go.sizeOf 142).run prog w=.ok 7 w:=fun w=>by kernel_rfl
    have u0:=run_underlying t0;have u3:=run_underlying t3;have mixed:prog.follows .mixedOrders=true:=ic;have hz2:¬((i:Int)=(n:Int)):=by omega
    have sB:IntKind.i64.wrap ((i:Int)+1)=(i:Int)+1:=by rw[IntKind.wrap_i64];omega
    have fG:(0:Int)≤(i:Int)+1:=by omega
    have fH:i≤n:=by omega
    have gX:((i:Int)+1).toNat=i+1:=by omega
    have hci:¬(c=i):=by omega
    have vf:=fun lb cb=>yJc (P:=prog) (fo:=272) (tb:=4) (e:=142) (size:=7) Proofs.Tryz.func272 (by kernel_rfl) (by kernel_rfl) (by kernel_rfl) (by kernel_rfl) t0 z0 ss vo (off+(i+1)*7) vc lb cb
    have hb2:¬(c=i+1):=by omega
    have hb3:(i:Int)≤(n:Int)+1:=by omega
    go_enter Proofs.Tryz.func240,Proofs.Tryz.ntmps240
    go_wp2_with (simp only[vf])
    go_region_law_o (refine Ou rfl _ _ 39 39 rfl (.slice (some ⟨B,off+(i+1)*7,none⟩) (n-i) (c-(i+1))) (.slice (some ⟨B,off+i*7,none⟩) (n+1-i) (c-i)) (by simp[Act.eval,Act.put]) (by simp[Act.eval,Act.put]) (hA _ _) ?_)
    go_wp2_with (at_builtin;refine Ot _ rfl _ _ 39 39 rfl _ _ rfl rfl (hB _) ?_)
    go_ret
    exact⟨rfl,rfl⟩
def vPz:Nat×nW:=(240,Wg zG 56)
def Rq:zD prog vPz:=yDa (e:=142) (fn:=f240) vK2
def yDm:zE:=sp [(0,.c (.dat true zG)),sP 3 0,sI 6] [oB wE]
def yVr (f:qQb)(d:yDm.den):=f d.1.1.1 d.1.2.2.1.1 (vV d.2.1)
def yAj:zT:=⟨[yDm],[(.exit 1,yDm)],qY4,fun k d=>yVr (KM k k) d,fun b x _ K=>K (.exit 1) (zN b yDm (((x.1,()),(),(x.2.1,()),()),((gi x.2.2 ()),())))⟩
def vE3:zW:=⟨[],[(6,yAj)],[],true⟩
def vTd:zS prog 1000 0 40 (zQ (zR f198) 0) yAj:=lp (A:=vE3) yAj (fun d=>(d.1.1.1,d.1.2.2.1.1,(vV d.2.1))) yVr KM FP (e4 yx H6 Rp Rq) zF
def vLw:=zI 198 [.c (.dat true zG),.agg vR] (.tup [(false,[.fro zG]),(false,yX)]) (fun k d=>xE k d.1 (Rr d)) (fun x=>(x.1,x.2,())) (fun d=>(d.1,d.2.1))
def Rs:zD prog vLw:=fA f198 vE3 (e4 yx H6 Rp Rq) (loops1 vTd)
def vLp:=yH 154 [.ptr true yy,.agg MA] (.c .i) [lL] 0 (fun k d=>P6 k (eG d) (vEm d)) (fun x=>(x.1,(jN x.2 ()))) (fun d=>(d.1,(kl d)))
def vZp:zD prog vLp:=fX f154 n0 1 (e4 iF yRb yYg Rs) zF
def vK5:=zI 199 [.ptr qJe,.c .i] (.tup [(true,pI),(false,yX)]) (fun k d=>qUm k (eG d) d.2.2.2.2.2.2.2.2.2.2.2.2.2.2.2.2.2.2.1) (fun x=>(gi x.1 (x.2,()))) (fun d=>((vV d),d.2.2.2.2.2.2.2.1))
def yOv:zD prog vK5:=fA f199 n0 (e1 yx) zF
def aaS:=yH 242 [.c (.own zG),.c (.p .i),.c (.p .i)] (.c (.own zG)) [] 0 (fun k d=>KH k d.1 d.2.1 d.2.2.1) (fun x=>(x,())) (fun d=>d.1)
def yV7:zD prog aaS:=fX f242 ⟨[],[],[],false⟩ 0 e0 zF
def vR1:=zI 200 [.c (.dat true zG),.c .i] (.tup [(false,[.fro zG]),(true,pI),(false,yX)]) (fun k d=>qu k d.1 d.2.1) (fun x=>(Rt x ())) (fun d=>(Ru d))
def ru:zD prog vR1:=fA f200 ⟨[],[],[],false⟩ (e3 yx Rp yV7) zF
def aaT:=yH 93 [.ptr true yy,.c (.p .i),.c (.p (.dat false .i))] (.tup []) [lL] 0 (fun k d=>uR k (eG d) d.2.2.2.2.2.2.2.2.2.2.2.2.2.2.2.2.2.2.1 d.2.2.2.2.2.2.2.2.2.2.2.2.2.2.2.2.2.2.2.1) (fun x=>(jN x ())) (fun d=>(eG d))
def yRe:zD prog aaT:=fX f93 n0 1 e0 zF
def vUz:=zI 202 [.c (.dat true zG),.c .i,.c .i] (.tup [(false,[.fro zG]),(false,yX)]) (fun k d=>FQ k d.1 d.2.1 d.2.2.1) (fun x=>(x.1,x.2,())) (fun d=>(d.1,d.2.1))
def yNr:zD prog vUz:=fA f202 n0 (e2 ru Rs) zF
def vOu:=zI 200 [.c (.dat false zG),.c .i] (.tup [(false,[.own zG]),(true,pI),(false,yX)]) (fun k d=>XJ k d.1 d.2.1) (fun x=>(Rt x ())) (fun d=>(Ru d))
def ySe:zD prog vOu:=fA f200 ⟨[],[],[],false⟩ (e3 yx Rp yV7) zF
def vFv:zE:=sp [sO 6 0,sP 7 1,sI 9] [oA zG,oB wE]
def yMs (f:yAr)(d:vFv.den):=f d.1.2.2.1.1 d.2.1 (vV d.2.2.1)
def qYc:zT:=⟨[vFv],[(.exit 0,vFv)],qZ3,fun k d=>yMs (KP k k) d,fun b x _ K=>K (.exit 0) (zN b vFv (((),(),(x.1,()),()),(x.2.1,(gi x.2.2 ()),())))⟩
def yG9:zW:=⟨[],[(5,qYc)],[],true⟩
def vUd:zS prog 1000 0 41 (zQ (zR f203) 0) qYc:=lp (A:=yG9) qYc (fun d=>(d.1.2.2.1.1,d.2.1,(vV d.2.2.1))) yMs KP FT (e3 ySe H6 Rq) zF
def aaU:=zI 203 [.c (.dat true zG),.c .i] (.tup [(false,[.fro zG]),(false,yX)]) (fun k d=>FU k d.1 d.2.1) (fun x=>(x.1,x.2,())) (fun d=>(d.1,d.2.1))
def yVb:zD prog aaU:=fA f203 yG9 (e3 ySe H6 Rq) (loops1 vUd)
def vYv:=zI 204 [.c (.dat true zG),.c .i] (.tup [(false,[.fro zG]),(false,yX)]) (fun k d=>FR k d.1 d.2.1) (fun x=>(x.1,x.2,())) (fun d=>(d.1,d.2.1))
def yPi:zD prog vYv:=fA f204 n0 (e2 ru Rs) zF
def aaV:=yH 155 [.ptr true yy,.agg vR] (.c .i) [lL] 0 (fun k d=>xS k (eG d) (H7 d)) (fun x=>(x.1,(jN x.2 ()))) (fun d=>(d.1,(kl d)))
def vHd:zD prog aaV:=fX f155 n0 1 (e8 yOv ru yRe iF qN9 yNr yVb yPi) zF
def vVg:=xm 243 false qS (.own qS) WR
def aaW:zD prog vVg:=fC f243 ⟨[],[],[],false⟩ e0 zF
def vWu:=xm 208 true (.sl .i) (.jun) WQ
def vBj:zD prog vWu:=fC f208 ⟨[],[],[],false⟩ e0 zF
def yZk:zE:=sp [sO 3 0,(8,.c (.dat true (.sl .i))),sI 9,sI 10] [.pmat]
def vCc:zE:=sp [sO 3 0] [.pmat]
def yVy (f:qZ5)(d:yZk.den):=f d.1.2.1.1 d.1.2.2.1.1 d.1.2.2.2.1.1 d.2.1.1 d.2.1.2
def qZ0:zT:=⟨[yZk],[(.exit 0,vCc)],(EQ×Nat),fun k d=>yVy (J6 k k) d,fun b x _ K=>K (.exit 0) (zN b vCc (((),()),((x.1,x.2),())))⟩
def yFz:zW:=⟨[],[(3,qZ0)],[],false⟩
def vXm:zS prog 1000 0 22 (zQ (zR f244) 0) qZ0:=lp (A:=yFz) qZ0 (fun d=>d.2.1) yVy J6 ET (e2 vBj Mz) zF
def vJy:=zI 244 [.c (.dat true (.sl .i))] (.c (.mat)) (fun k d=>J7 k d.1) (fun x=>(x,())) (fun d=>d.1)
def vMm:zD prog vJy:=fA f244 yFz (e2 vBj Mz) (loops1 vXm)
def aaX:=zI 205 [.agg [.dat false qS,.dat true (.sl .i),.dat false .i,.dat true (.sl .i)]] (.agg [.own qS,.mat,.own .i,.mat]) (fun k d=>(vM (gF k) d)) (fun x=>(fk x ())) (fun d=>(wS d))
def pK:zD prog aaX:=fA f205 ⟨[],[],[],false⟩ (e3 aaW vMm Mz) zF
def aaY:=zI 206 [.ptr qJe,.c .i] (.c .bool) (fun k d=>qUz k (eG d) d.2.2.2.2.2.2.2.2.2.2.2.2.2.2.2.2.2.2.1) (fun x=>(x,())) (fun d=>d.1)
def yJr:zD prog aaY:=fA f206 n0 (e1 iF) zF
def vZt:=yH 156 [.ptr true yy,.agg vR] (.c .i) [lL] 0 (fun k d=>xT k (eG d) (H7 d)) (fun x=>(x.1,(jN x.2 ()))) (fun d=>(d.1,(kl d)))
def vIa:zD prog vZt:=fX f156 n0 1 (e3 pK yJr iF) zF
def vXi:=zI 207 [.ptr qJe,.c .i] (.c .bool) (fun k d=>MB k (eG d) d.2.2.2.2.2.2.2.2.2.2.2.2.2.2.2.2.2.2.1) (fun x=>(x,())) (fun d=>d.1)
def H8:zD prog vXi:=fA f207 n0 (e1 iF) zF
def vOt:=xm 208 true (.sl .i) (.own (.sl .i)) GD
def yIk:zD prog vOt:=fC f208 ⟨[],[],[],false⟩ e0 zF
def vJd:=zI 209 [.c (.dat false .i),.c .i,.c .i] (.c (.own .i)) (fun k d=>qy k d.1 d.2.1 d.2.2.1) (fun x=>(x,())) (fun d=>d.1)
def H9:zD prog vJd:=fA f209 n0 (e1 Mz) zF
def vSb:=zI 230 [.c .i] (.c .bool) (fun k d=>XO k d.1) (fun x=>(x,())) (fun d=>d.1)
def vR6:zD prog vSb:=fA f230 n0 e0 zF
def aaZ:=zI 231 [.c (.int .u64),.c (.int .u64)] (.tup [(false,[.int .u64]),(false,[.int .u64])]) (fun k d=>KR k d.1 d.2.1) (fun x=>(x.1,x.2,())) (fun d=>(d.1,d.2.1))
def aa0:zD prog aaZ:=fA f231 n0 e0 zF
def vPq:=zI 293 [.c (.int .u64)] (.c .i) (fun k d=>yVh k d.1) (fun x=>(x,())) (fun d=>d.1)
def vY5:zD prog vPq:=fA f293 n0 e0 zF
def vX0:=zI 266 [.c (.int .u64)] (.c .i) (fun k d=>yQw k d.1) (fun x=>(x,())) (fun d=>d.1)
def qYs:zD prog vX0:=fA f266 n0 (e1 vY5) zF
def yZb:zE:=sp [(2,.c (.int .u64)),(8,.c (.int .u64)),(9,.c (.int .u64)),(10,.c (.int .u64)),(11,.c (.int .u64)),(13,.c (.int .u64)),(14,.c (.int .u64)),(15,.c (.int .u64)),(16,.c (.int .u64))] []
def yKr:zE:=sp [(2,.c (.int .u64)),(8,.c (.int .u64)),(9,.c (.int .u64)),(10,.c (.int .u64)),(11,.c (.int .u64)),(13,.c (.int .u64)),(14,.c (.int .u64)),(15,.c (.int .u64))] []
def vBc (f:qK4)(d:yZb.den):=f d.1.1.1 d.1.2.1.1 d.1.2.2.1.1 d.1.2.2.2.1.1 d.1.2.2.2.2.1.1 d.1.2.2.2.2.2.1.1 d.1.2.2.2.2.2.2.1.1 d.1.2.2.2.2.2.2.2.1.1 d.1.2.2.2.2.2.2.2.2.1.1
def Rv:zT:=⟨[yZb],[(.exit 0,yKr)],qE,fun k d=>vBc (qZp k k) d,fun b x _ K=>K (.exit 0) (zN b yKr (((x.1,()),(x.2.1,()),(x.2.2.1,()),(x.2.2.2.1,()),(x.2.2.2.2.1,()),(x.2.2.2.2.2.1,()),(x.2.2.2.2.2.2.1,()),(x.2.2.2.2.2.2.2,()),()),()))⟩
def vB7:zE:=sp [(2,.c (.int .u64)),(8,.c (.int .u64)),(9,.c (.int .u64)),(10,.c (.int .u64)),(14,.c (.int .u64)),(15,.c (.int .u64)),(16,.c (.int .u64)),(17,.c (.int .u64)),(18,.c (.int .u64))] []
def yC1:zE:=sp [(2,.c (.int .u64)),(8,.c (.int .u64)),(14,.c (.int .u64)),(15,.c (.int .u64)),(17,.c (.int .u64)),(18,.c (.int .u64))] []
def yQj (f:yAk)(d:vB7.den):=f d.1.1.1 d.1.2.1.1 d.1.2.2.1.1 d.1.2.2.2.1.1 d.1.2.2.2.2.1.1 d.1.2.2.2.2.2.1.1 d.1.2.2.2.2.2.2.1.1 d.1.2.2.2.2.2.2.2.1.1 d.1.2.2.2.2.2.2.2.2.1.1
def Rw:zT:=⟨[vB7],[(.exit 2,yC1)],MW,fun k d=>yQj (qO1 k k) d,fun b x _ K=>K (.exit 2) (zN b yC1 (((x.1,()),(x.2.1,()),(x.2.2.1,()),(x.2.2.2.1,()),(x.2.2.2.2.1,()),(x.2.2.2.2.2,()),()),()))⟩
def yAn:zW:=⟨[],[(17,Rv),(24,Rw)],[],true⟩
def aa1:zS prog 1000 0 135 (zQ (zR f232) 0) Rv:=lp (A:=yAn) Rv (fun d=>(d.1.1.1,d.1.2.1.1,d.1.2.2.1.1,d.1.2.2.2.1.1,d.1.2.2.2.2.1.1,d.1.2.2.2.2.2.1.1,d.1.2.2.2.2.2.2.1.1,d.1.2.2.2.2.2.2.2.1.1)) vBc qZp yR0 (e1 qYs) zF
def aa2:zS prog 1000 0 135 (zQ (zR f232) 1) Rw:=lp (A:=yAn) Rw (fun d=>(d.1.1.1,d.1.2.1.1,d.1.2.2.1.1,d.1.2.2.2.1.1,d.1.2.2.2.2.1.1,d.1.2.2.2.2.2.1.1)) yQj qO1 yVi (e1 qYs) zF
def vMf:=zI 232 [.c (.int .u64),.c (.int .u64),.c (.int .u64)] (.tup [(false,[.int .u64]),(false,[.int .u64])]) (fun k d=>PH k d.1 d.2.1 d.2.2.1) (fun x=>(x.1,x.2,())) (fun d=>(d.1,d.2.1))
def vWy:zD prog vMf:=fA f232 yAn (e1 qYs) (nh (n:=2) (by kernel_rfl) fun i hi=>match i,hi with|0,_=>⟨Rv,by kernel_rfl,aa1⟩|1,_=>⟨Rw,by kernel_rfl,aa2⟩|i+2,hi=>absurd hi (by omega))
def vOp:=(149,Ol)
def qM7:zD prog vOp:=vU2 (fn:=f149)
def aa3:=zI 190 [.c .i,.c .i,.c .i] (.tup [(false,yX),(false,[.bool])]) (fun k d=>PI k d.1 d.2.1 d.2.2.1) (fun x=>(x.1,x.2,())) (fun d=>(d.1,d.2.1))
def yVv:zD prog aa3:=fA f190 n0 (e4 vR6 aa0 vWy qM7) zF
def yQu:zE:=sp [sI 4,(5,.c (.int .u64)),(9,.c (.dat false .i)),sI 10,sI 11] []
def ySq:zE:=sp [sI 4,(5,.c (.int .u64))] []
def yN5 (f:qSv)(d:yQu.den):=f d.1.1.1 d.1.2.1.1 d.1.2.2.1.1 d.1.2.2.2.1.1 d.1.2.2.2.2.1.1
def qU8:zT:=⟨[yQu],[(.exit 0,ySq)],wC,fun k d=>yN5 (FY k k) d,fun b x _ K=>K (.exit 0) (zN b ySq (((x.1,()),(x.2,()),()),()))⟩
def yK9:zW:=⟨[],[(4,qU8)],[],false⟩
def vHy:zS prog 1000 0 37 (zQ (zR f88) 0) qU8:=lp (A:=yK9) qU8 (fun d=>(d.1.1.1,d.1.2.1.1)) yN5 FY FZ (e1 qM7) zF
def vXa:=zI 88 [.c (.dat false .i)] (.tup [(false,yX),(false,[.bool])]) (fun k d=>FX k d.1) (fun x=>(x.1,x.2,())) (fun d=>(d.1,d.2.1))
def Rx:zD prog vXa:=fA f88 yK9 (e1 qM7) (loops1 vHy)
def yVt:zE:=⟨[(1,.c (.dat false .i)),(2,.c (.dat false .i)),sO 8 0,(25,.c (.dat false jB)),sI 26,sI 27],[oA .i],[(8,none,.i,false)]⟩
def yOq:zE:=sp [sO 8 0] [oA .i]
def yHf:zE:=sp [sI 6,(7,.c .bool)] []
def yZ9 (f:yB3)(d:yVt.den):=f d.1.1.1 d.1.2.1.1 d.1.2.2.2.1.1 d.1.2.2.2.2.1.1 d.1.2.2.2.2.2.1.1 d.2.1
def qV8:zT:=⟨[yVt],[(.exit 0,yOq),(.ret,yHf)],(AC⊕fy),fun k d=>yZ9 (F1 k k) d,fun b x _ K=>match x with|.inl x=>K (.exit 0) (zN b yOq (((),()),(x,())))|.inr x=>K .ret (zN b yHf (((x.1,()),(x.2,()),()),()))⟩
def vCh:zW:=⟨[],[(5,qV8)],[],true⟩
def aa4:zS prog 1000 0 57 (zQ (zR f141) 0) qV8:=lp (A:=vCh) qV8 (fun d=>match d with|.inl d=>.inl d.2.1|.inr d=>.inr (d.1.1.1,d.1.2.1.1)) yZ9 F1 F2 (e2 yVv Rx) zF
def aa5:=zI 141 [.c (.dat false jB),.c (.dat false .i),.c (.dat false .i)] (.tup [(false,yX),(false,[.bool])]) (fun k d=>sW k d.1 d.2.1 d.2.2.1) (fun x=>(x.1,x.2,())) (fun d=>(d.1,d.2.1))
def yz:zD prog aa5:=fA f141 vCh (e2 yVv Rx) (loops1 aa4)
def vIx:=yH 157 [.ptr true yy,.c (.p .i),.c (.p .i)] (.c .i) [lL] 0 (fun k d=>P7 k (eG d) d.2.2.2.2.2.2.2.2.2.2.2.2.2.2.2.2.2.2.1 d.2.2.2.2.2.2.2.2.2.2.2.2.2.2.2.2.2.2.2.1) (fun x=>(x.1,(jN x.2 ()))) (fun d=>(d.1,(kl d)))
def aa6:zD prog vIx:=fX f157 n0 1 (e6 H8 iF yIk H9 yz pK) zF
def vKz:=zI 274 [.c .i,.c .i] (.tup [(false,yX),(false,[.bool])]) (fun k d=>P8 k d.1 d.2.1) (fun x=>(x.1,x.2,())) (fun d=>(d.1,d.2.1))
def vWc:zD prog vKz:=fA f274 ⟨[],[],[],false⟩ e0 zF
def vX9:=zI 132 [.agg oF] (.c .bool) (fun k d=>OK k d.1 d.2.1 d.2.2.1) (fun x=>(x,())) (fun d=>d.1)
def yPy:zD prog vX9:=fA f132 ⟨[],[],[],false⟩ e0 zF
def vJu:=zI 245 [.agg oF,.c .i] (.tup [(true,[.i,.i,.i]),(false,yX)]) (fun k d=>Le k (d.1,d.2.1,d.2.2.1) d.2.2.2.1) (fun x=>(x.1.1,x.1.2.1,x.1.2.2,x.2,())) (fun d=>((d.1,d.2.1,d.2.2.1),d.2.2.2.1))
def yG6:zD prog vJu:=fA f245 n0 (e2 vWc yPy) zF
def vHv:=zI 210 [.agg oF,.c .i] (.tup [(true,[.i,.i,.i]),(false,yX)]) (fun k d=>GW k (d.1,d.2.1,d.2.2.1) d.2.2.2.1) (fun x=>(x.1.1,x.1.2.1,x.1.2.2,x.2,())) (fun d=>((d.1,d.2.1,d.2.2.1),d.2.2.2.1))
def yNq:zD prog vHv:=fA f210 n0 (e1 yG6) zF
def vZv:=zI 246 [.agg oF,.c .i] (.c .i) (fun k d=>(vM (xy k) d)) (fun x=>(x,())) (fun d=>d.1)
def Ry:zD prog vZv:=fA f246 ⟨[],[],[],false⟩ e0 zF
def vW7:=zI 211 [.agg oF,.c .i,.c .i] (.tup [(true,[.i,.i,.i]),(false,yX)]) (fun k d=>GX k (d.1,d.2.1,d.2.2.1) d.2.2.2.1 d.2.2.2.2.1) (fun x=>(x.1.1,x.1.2.1,x.1.2.2,x.2,())) (fun d=>((d.1,d.2.1,d.2.2.1),d.2.2.2.1))
def yEx:zD prog vW7:=fA f211 n0 (e2 yG6 Ry) zF
def vZ7:=zI 212 [.agg oF,.c .i] (.c .i) (fun k d=>GY k (d.1,d.2.1,d.2.2.1) d.2.2.2.1) (fun x=>(x,())) (fun d=>d.1)
def yLb:zD prog vZ7:=fA f212 n0 e0 zF
def vTa:=yH 158 [.ptr true yy,.c (.p .i),.c (.p .i),.c (.p .i)] (.c .i) [lL] 0 (fun k d=>qOe k (eG d) d.2.2.2.2.2.2.2.2.2.2.2.2.2.2.2.2.2.2.1 d.2.2.2.2.2.2.2.2.2.2.2.2.2.2.2.2.2.2.2.1 d.2.2.2.2.2.2.2.2.2.2.2.2.2.2.2.2.2.2.2.2.1) (fun x=>(x.1,(jN x.2 ()))) (fun d=>(d.1,(kl d)))
def vR3:zD prog vTa:=fX f158 n0 1 (e5 iF yNq yEx yLb pK) zF
def yKj:zE:=sp [sP 0 0,sO 7 2,sP 8 3,(40,.c (.dat true (.sl .i))),sI 41,sI 42] [oB qWs,oA qZ,oA .i,oB yS3,oA qS,.mat,oA .i,.mat]
def yYa:zE:=sp [sP 0 0,sO 7 2,sP 8 3] [oB qWs,oA qZ,oA .i,oB yS3,oA qS,.mat,oA .i,.mat]
def yRa:zE:=sp [sP 0 0,sI 6] [oB qWs,oA qZ]
def yK8 (f:qVj)(d:yKj.den):=f d.1.2.2.2.1.1 d.1.2.2.2.2.1.1 d.1.2.2.2.2.2.1.1 (lM d.2.1) d.2.2.1 d.2.2.2.1 d.2.2.2.2.2.1 d.2.2.2.2.2.2.1 d.2.2.2.2.2.2.2.1 d.2.2.2.2.2.2.2.2.1
def qS2:zT:=⟨[yKj],[(.exit 0,yYa),(.ret,yRa)],qY3,fun k d=>yK8 (qJs k k) d,fun b x _ K=>match x with|.inl x=>K (.exit 0) (zN b yYa (((),(),(),()),((vU x.1 ()),x.2.1,x.2.2.1,(),x.2.2.2.1,x.2.2.2.2.1,x.2.2.2.2.2.1,x.2.2.2.2.2.2,())))|.inr x=>K .ret (zN b yRa (((),(x.1,()),()),((vU x.2.1 ()),x.2.2,())))⟩
def yFj:zW:=⟨[],[(6,qS2)],[],true⟩
def aa7:zS prog 1000 1 81 (zQ (zR f159) 0) qS2:=lp (A:=yFj) qS2 (fun d=>match d with|.inl d=>.inl ((lM d.2.1),d.2.2.1,d.2.2.2.1,d.2.2.2.2.2.1,d.2.2.2.2.2.2.1,d.2.2.2.2.2.2.2.1,d.2.2.2.2.2.2.2.2.1)|.inr d=>.inr (d.1.2.1.1,(lM d.2.1),d.2.2.1)) yK8 qJs yFy (e5 H8 iF H9 pK yz) zF
def vRd:=yH 159 [.ptr true yy,.c (.p .i),.c (.p .i)] (.c .i) [lL] 0 (fun k d=>yQb k (eG d) d.2.2.2.2.2.2.2.2.2.2.2.2.2.2.2.2.2.2.1 d.2.2.2.2.2.2.2.2.2.2.2.2.2.2.2.2.2.2.2.1) (fun x=>(x.1,(jN x.2 ()))) (fun d=>(d.1,(kl d)))
def vI6:zD prog vRd:=fX f159 yFj 1 (e5 H8 iF H9 pK yz) (loops1 aa7)
def vKr:=yH 94 [.ptr true yy,.agg vR] (.c .i) [lL] 0 (fun k d=>Hr k (eG d) (H7 d)) (fun x=>(x.1,(jN x.2 ()))) (fun d=>(d.1,(kl d)))
def vKs:zD prog vKr:=fX f94 n0 1 (e6 vZp vHd vIa aa6 vR3 vI6) zF
def vL3:=zI 89 [.agg kk,.c .i] (.c .bool) (fun k d=>(ko (BY k) d)) (fun x=>(x,())) (fun d=>d.1)
def Rz:zD prog vL3:=fA f89 ⟨[],[],[],false⟩ e0 zF
def aa8:=zI 162 [.c .i,.c .i,.c (.dat false .i)] (.agg qPt) (fun k d=>re k d.1 d.2.1 d.2.2.1) (fun x=>(CK x ())) (fun d=>(lJ d))
def za:zD prog aa8:=fA f162 ⟨[],[],[],false⟩ e0 zF
def yEh:zE:=⟨[sP 1 0,sP 2 1,sO 4 2,(10,.c (.dat true zG)),sI 11,sI 12],[oB jb,oB jX,oA qZ],[(4,none,qZ,false)]⟩
def yIs:zE:=sp [sP 1 0,sP 2 1,sO 4 2] [oB jb,oB jX,oA qZ]
def yWv (f:qZ8)(d:yEh.den):=(tn (f d.1.2.2.2.1.1 d.1.2.2.2.2.1.1 d.1.2.2.2.2.2.1.1) d.2.1) d.2.2.1.1 d.2.2.1.2.1 d.2.2.1.2.2.1 d.2.2.2.1
def RA:zT:=⟨[yEh],[(.exit 0,yIs)],qKw,fun k d=>yWv (Gv k k) d,fun b x _ K=>K (.exit 0) (zN b yIs (((),(),(),()),((zb x ()),(x.2.2.2.2.2.2.2.2.2.2.2.1,x.2.2.2.2.2.2.2.2.2.2.2.2.1,x.2.2.2.2.2.2.2.2.2.2.2.2.2.1,()),x.2.2.2.2.2.2.2.2.2.2.2.2.2.2,())))⟩
def vBt:zE:=sp [sP 1 0,sP 2 1,sO 4 2,(28,.c (.dat true qS)),sI 29,sI 30] [oB jb,oB jX,oA qZ]
def vDs (f:qK6)(d:vBt.den):=(tn (f d.1.2.2.2.1.1 d.1.2.2.2.2.1.1 d.1.2.2.2.2.2.1.1) d.2.1) d.2.2.1.1 d.2.2.1.2.1 d.2.2.1.2.2.1 d.2.2.2.1
def RB:zT:=⟨[vBt],[(.exit 2,yIs)],qKw,fun k d=>vDs (La k k) d,fun b x _ K=>K (.exit 2) (zN b yIs (((),(),(),()),((zb x ()),(x.2.2.2.2.2.2.2.2.2.2.2.1,x.2.2.2.2.2.2.2.2.2.2.2.2.1,x.2.2.2.2.2.2.2.2.2.2.2.2.2.1,()),x.2.2.2.2.2.2.2.2.2.2.2.2.2.2,())))⟩
def qTx:zW:=⟨[],[(3,RA),(8,RB)],[],false⟩
def aa9:zS prog 1000 0 48 (zQ (zR f160) 0) RA:=lp (A:=qTx) RA (fun d=>(zb d.2.1 (d.2.2.1.1,d.2.2.1.2.1,d.2.2.1.2.2.1,d.2.2.2.1))) yWv Gv Gw (e1 za) zF
def aba:zS prog 1000 0 48 (zQ (zR f160) 1) RB:=lp (A:=qTx) RB (fun d=>(zb d.2.1 (d.2.2.1.1,d.2.2.1.2.1,d.2.2.1.2.2.1,d.2.2.2.1))) vDs La Gy (e1 za) zF
def vUo:=zI 160 [.agg yu] (.tup [(true,[.i,.fro qS,.fro (.sl .i),.fro .i,.fro (.sl .i),.fro .i,.fro (.sl .i),.own zG,.fro .i,.i,.bool]),(false,[.own qZ])]) (fun k d=>(tn (P4 k) d)) (fun x=>(Ia x ())) (fun d=>(Ib d))
def yRz:zD prog vUo:=fA f160 qTx (e1 za) (nh (n:=2) (by kernel_rfl) fun i hi=>match i,hi with|0,_=>⟨RA,by kernel_rfl,aa9⟩|1,_=>⟨RB,by kernel_rfl,aba⟩|i+2,hi=>absurd hi (by omega))
def abb:=zI 161 [.agg vR,.c .i] (.c .bool) (fun k d=>(mD (Yi k) d)) (fun x=>(x,())) (fun d=>d.1)
def yTp:zD prog abb:=fA f161 ⟨[],[],[],false⟩ e0 zF
def vL4:=zI 163 [.agg kk,.c .i] (.c .bool) (fun k d=>(ko (GB k) d)) (fun x=>(x,())) (fun d=>d.1)
def yDu:zD prog vL4:=fA f163 ⟨[],[],[],false⟩ e0 zF
def vVv:=zI 281 [.agg vR,.c .i] (.c .bool) (fun k d=>(mD (Xm k) d)) (fun x=>(x,())) (fun d=>d.1)
def vNo:zD prog vVv:=fA f281 ⟨[],[],[],false⟩ e0 zF
def vZf:=zI 280 [.agg vR,.ptr [.i]] (.c .bool) (fun k d=>(mD (Xl k) d)) (fun x=>(x,())) (fun d=>d.1)
def yTn:zD prog vZf:=fA f280 ⟨[],[],[],false⟩ (e1 vNo) zF
def yEw:zE:=⟨[(1,.c (.lit (.fn 280 [1001000]))),sO 5 1,(8,.c (.dat false zG)),sI 9,sI 10],[.robox [.i],oA zG],[(5,none,zG,false)]⟩
def ySd (f:qJ4)(d:yEw.den):=f d.1.2.2.1.1 d.1.2.2.2.1.1 d.1.2.2.2.2.1.1 d.2.1.1 d.2.2.1
def yBv:zT:=⟨[yEw],[(.exit 0,yKf)],qNg,fun k d=>ySd (KA k k) d,fun b x _ K=>K (.exit 0) (zN b yKf (((),()),(x,())))⟩
def yE5:zW:=⟨[],[(3,yBv)],[],false⟩
def vYz:zS prog 1000 0 23 (zQ (zR f194) 0) yBv:=lp (A:=yE5) yBv (fun d=>d.2.1) ySd KA Fy (e1 yTn) zF
def vX2:=zI 194 [.c (.dat false zG),.fn 280 [[.i]]] (.c (.own zG)) (fun k d=>Xk k d.1 d.2.1) (fun x=>(x,())) (fun d=>d.1)
def vK7:zD prog vX2:=fA f194 yE5 (e1 yTn) (loops1 vYz)
def abc:=zI 251 [.c (.dat false zG),.c .i] (.c (.own zG)) (fun k d=>Fx k d.1 d.2.1) (fun x=>(x,())) (fun d=>d.1)
def CM:zD prog abc:=fA f251 ⟨[],[],[],false⟩ (e1 vK7) zF
def vHu:=zI 305 [.agg vR,.ptr vR] (.c .bool) (fun k d=>(H5 (Xq k) d)) (fun x=>(x,())) (fun d=>d.1)
def vEr:zD prog vHu:=fA f305 ⟨[],[],[],false⟩ e0 zF
def vFf:zE:=sp [(0,.c (.dat false zG)),(1,.c (.lit (.fn 305 [1001000]))),sI 7,sI 8] [.robox wE]
def yF9 (f:qOm)(d:vFf.den):=(mE (f d.1.1.1 d.1.2.2.1.1 d.1.2.2.2.1.1) d.2.1)
def qXa:zT:=⟨[vFf],[(.exit 0,vGj),(.ret,vDf)],(Unit⊕Int),fun k d=>yF9 (KF k k) d,fun b x _ K=>match x with|.inl x=>K (.exit 0) (zN b vGj ((),()))|.inr x=>K .ret (zN b vDf (((x,()),()),()))⟩
def yT5:zW:=⟨[],[(2,qXa)],[],false⟩
def vH9:zS prog 1000 0 19 (zQ (zR f166) 0) qXa:=lp (A:=yT5) qXa (fun d=>match d with|.inl d=>.inl ()|.inr d=>.inr d.1.1.1) yF9 KF FF (e1 vEr) zF
def abd:=zI 166 [.c (.dat false zG),.fn 305 [vR]] (.c .i) (fun k d=>(mD (Xr k) d)) (fun x=>(x,())) (fun d=>d.1)
def vN5:zD prog abd:=fA f166 yT5 (e1 vEr) (loops1 vH9)
def vTw:=zI 148 [.c (.dat false zG),.fn 305 [vR]] (.c .bool) (fun k d=>(mD (Pt k) d)) (fun x=>(x,())) (fun d=>d.1)
def abe:zD prog vTw:=fA f148 ⟨[],[],[],false⟩ (e1 vN5) zF
def vY2:=yH 304 [.agg vR,.ptr true [.map],.ptr false [.p (.dat false zG)]] (.c .bool) [[.map]] 0 (fun k d=>(RD (Xv k) d)) (fun x=>(x.1,x.2,())) (fun d=>(d.1,d.2.1))
def vAf:zD prog vY2:=fX f304 ⟨[],[],[],false⟩ 3 (e1 abe) zF
def yNs:zE:=⟨[(1,.c (.lit (.fn 304 [1001000,1001002]))),sO 5 3,(8,.c (.dat false zG)),sI 9,sI 10],[oB [.lit (.map 1001001)],.imap,.robox [.dat false zG],oA zG],[(5,none,zG,false)]⟩
def vB5:zE:=sp [(1,.c (.lit (.fn 304 [1001000,1001002]))),sO 5 3] [oB [.lit (.map 1001001)],.imap,.robox [.dat false zG],oA zG]
def yQv (f:qPv)(d:yNs.den):=f d.1.2.2.1.1 d.1.2.2.2.1.1 d.1.2.2.2.2.1.1 d.2.2.1 d.2.2.2.1.1 d.2.2.2.2.1
def qK8:zT:=⟨[yNs],[(.exit 0,vB5)],qOn,fun k d=>yQv (FG k k) d,fun b x _ K=>K (.exit 0) (zN b vB5 (((),(),()),((),x.1,(x.2.1,()),x.2.2,())))⟩
def yVu:zW:=⟨[],[(3,qK8)],[],false⟩
def abf:zS prog 1000 2 23 (zQ (zR f194) 0) qK8:=lp (A:=yVu) qK8 (fun d=>(d.2.2.1,d.2.2.2.1.1,d.2.2.2.2.1)) yQv FG FH (e1 vAf) zF
def vJg:=yH 194 [.c (.p (.dat false zG)),.fn 304 [(true,[.map]),(false,[.p (.dat false zG)])]] (.c (.own zG)) [[.map]] 0 (fun k d=>Xu k d.1 d.2.1 d.2.2.1) (fun x=>(x.1,x.2,())) (fun d=>(d.1,d.2.1))
def vRh:zD prog vJg:=fX f194 yVu 2 (e1 vAf) (loops1 abf)
def vZz:=zI 296 [.c (.dat false zG),.c .i] (.c (.own zG)) (fun k d=>KG k d.1 d.2.1) (fun x=>(x,())) (fun d=>d.1)
def MC:zD prog vZz:=fA f296 ⟨[],[],[],false⟩ (e2 CM vRh) zF
def vI4:=zI 144 [.agg eH,.agg vR] (.c .bool) (fun k d=>(tn (EZ k) d)) (fun x=>(x,())) (fun d=>d.1)
def qKa:zD prog vI4:=fA f144 ⟨[],[],[],false⟩ e0 zF
def abg:=zI 306 [.agg vR,.ptr eH] (.c .bool) (fun k d=>(tn (Xg k) d)) (fun x=>(x,())) (fun d=>d.1)
def vCv:zD prog abg:=fA f306 ⟨[],[],[],false⟩ (e1 qKa) zF
def yVc:zE:=sp [(0,.c (.dat false zG)),(1,.c (.lit (.fn 306 [1001000]))),sI 7,sI 8] [.robox jV]
def vD9 (f:qO2)(d:yVc.den):=(vM (f d.1.1.1 d.1.2.2.1.1 d.1.2.2.2.1.1) d.2.1)
def qQi:zT:=⟨[yVc],[(.exit 0,vGj),(.ret,vDf)],(Unit⊕Int),fun k d=>vD9 (Ky k k) d,fun b x _ K=>match x with|.inl x=>K (.exit 0) (zN b vGj ((),()))|.inr x=>K .ret (zN b vDf (((x,()),()),()))⟩
def yWh:zW:=⟨[],[(2,qQi)],[],false⟩
def vKa:zS prog 1000 0 19 (zQ (zR f166) 0) qQi:=lp (A:=yWh) qQi (fun d=>match d with|.inl d=>.inl ()|.inr d=>.inr d.1.1.1) vD9 Ky Fw (e1 vCv) zF
def vYg:=zI 166 [.c (.dat false zG),.fn 306 [eH]] (.c .i) (fun k d=>(lN (Xh k) d)) (fun x=>(x,())) (fun d=>d.1)
def vJj:zD prog vYg:=fA f166 yWh (e1 vCv) (loops1 vKa)
def vP1:=zI 148 [.c (.dat false zG),.fn 306 [eH]] (.c .bool) (fun k d=>(lN (Pp k) d)) (fun x=>(x,())) (fun d=>d.1)
def vY6:zD prog vP1:=fA f148 ⟨[],[],[],false⟩ (e1 vJj) zF
def yFl:zE:=sp [sP 4 0,sP 5 1,(15,.c (.dat false zG)),sI 16,sI 17] [oB [.lit .nsl,.lit .nsl,.lit .nsl],oB qMj,oA .i,oA .i,.mat]
def vCl:zE:=sp [sP 4 0,sP 5 1] [oB [.lit .nsl,.lit .nsl,.lit .nsl],oB qMj,oA .i,oA .i,.mat]
def vC2 (f:qL3)(d:yFl.den):=f d.1.2.2.1.1 d.1.2.2.2.1.1 d.1.2.2.2.2.1.1 d.2.2.2.1 d.2.2.2.2.1 d.2.2.2.2.2.1
def qPu:zT:=⟨[yFl],[(.exit 0,vCl)],qSu,fun k d=>vC2 (Ku k k) d,fun b x _ K=>K (.exit 0) (zN b vCl (((),(),()),((),(),x.1,x.2.1,x.2.2,())))⟩
def vDh:zW:=⟨[],[(3,qPu)],[],false⟩
def vNt:zS prog 1000 0 84 (zQ (zR f298) 0) qPu:=lp (A:=vDh) qPu (fun d=>(d.2.2.2.1,d.2.2.2.2.1,d.2.2.2.2.2.1)) vC2 Ku Fm (e2 CI Mw) zF
def abh:=zI 298 [.c .i,.c (.dat false zG)] (.agg [.own .i,.own .i,.mat]) (fun k d=>Pk k d.1 d.2.1) (fun x=>(x.1,x.2.1,x.2.2,())) (fun d=>(d.1,d.2.1,d.2.2.1))
def yZt:zD prog abh:=fA f298 vDh (e2 CI Mw) (loops1 vNt)
def abi:=zI 299 [.agg vR,.ptr [.i]] (.c .bool) (fun k d=>(mD (W7 k) d)) (fun x=>(x,())) (fun d=>d.1)
def yXy:zD prog abi:=fA f299 ⟨[],[],[],false⟩ e0 zF
def vCz:zE:=sp [(0,.c (.dat false zG)),(1,.c (.lit (.fn 299 [1001000]))),sI 7,sI 8] [.robox [.i]]
def vF2 (f:qLb)(d:vCz.den):=f d.1.1.1 d.1.2.2.1.1 d.1.2.2.2.1.1 d.2.1.1
def yAc:zT:=⟨[vCz],[(.exit 0,vGj),(.ret,vDf)],(Unit⊕Int),fun k d=>vF2 (Kv k k) d,fun b x _ K=>match x with|.inl x=>K (.exit 0) (zN b vGj ((),()))|.inr x=>K .ret (zN b vDf (((x,()),()),()))⟩
def yUf:zW:=⟨[],[(2,yAc)],[],false⟩
def vYj:zS prog 1000 0 19 (zQ (zR f166) 0) yAc:=lp (A:=yUf) yAc (fun d=>match d with|.inl d=>.inl ()|.inr d=>.inr d.1.1.1) vF2 Kv Fo (e1 yXy) zF
def abj:=zI 166 [.c (.dat false zG),.fn 299 [[.i]]] (.c .i) (fun k d=>W8 k d.1 d.2.1) (fun x=>(x,())) (fun d=>d.1)
def abk:zD prog abj:=fA f166 yUf (e1 yXy) (loops1 vYj)
def vZa:=zI 148 [.c (.dat false zG),.fn 299 [[.i]]] (.c .bool) (fun k d=>Pl k d.1 d.2.1) (fun x=>(x,())) (fun d=>d.1)
def yT1:zD prog vZa:=fA f148 ⟨[],[],[],false⟩ (e1 abk) zF
def yHg:zE:=sp [sI 5,(12,.c (.dat false .i)),sI 13,sI 14] []
def yH8:zE:=sp [sI 5] []
def yY8 (f:Int→AC→Int→Int→Option Int)(d:yHg.den):=f d.1.1.1 d.1.2.1.1 d.1.2.2.1.1 d.1.2.2.2.1.1
def qKi:zT:=⟨[yHg],[(.exit 0,yH8)],Int,fun k d=>yY8 (Fh k k) d,fun b x _ K=>K (.exit 0) (zN b yH8 (((x,()),()),()))⟩
def yKi:zW:=⟨[],[(3,qKi)],[],false⟩
def vRx:zS prog 1000 0 23 (zQ (zR f307) 0) qKi:=lp (A:=yKi) qKi (fun d=>d.1.1.1) yY8 Fh Fi e0 zF
def abl:=zI 307 [.agg eH,.c .i] (.c .i) (fun k d=>(lN (Pg k) d)) (fun x=>(x,())) (fun d=>d.1)
def vD6:zD prog abl:=fA f307 yKi e0 (loops1 vRx)
def vO8:=zI 308 [.c .i,.c .i] (.c .bool) (fun k d=>Fq k d.1 d.2.1) (fun x=>(x,())) (fun d=>d.1)
def qMp:zD prog vO8:=fA f308 ⟨[],[],[],false⟩ e0 zF
def abm:=zI 309 [.agg vR,.ptr [.i],.ptr oF,.ptr RE,.ptr [.i],.ptr eH] (.c .bool) (fun k d=>(vI5 (Xb k) d)) (fun x=>(x,())) (fun d=>d.1)
def yF5:zD prog abm:=fA f309 ⟨[],[],[],false⟩ (e2 Ry qMp) zF
def vF7:zE:=sp [(0,.c (.dat false zG)),(1,.c (.lit (.fn 309 [1001000,1001001,1001002,1001003,1001004]))),sI 7,sI 8] [.robox [.i],.robox [.i,.i,.i],.robox qV1,.robox [.i],.robox jV]
def vGi (f:qZ9)(d:vF7.den):=(vM (f d.1.1.1 d.1.2.2.1.1 d.1.2.2.2.1.1 d.2.1.1 d.2.2.1.1 d.2.2.1.2.1 d.2.2.1.2.2.1 d.2.2.2.1.1 d.2.2.2.1.2.1 d.2.2.2.1.2.2.1 d.2.2.2.2.1.1) d.2.2.2.2.2.1)
def yCi:zT:=⟨[vF7],[(.exit 0,vGj),(.ret,vDf)],(Unit⊕Int),fun k d=>vGi (Kx k k) d,fun b x _ K=>match x with|.inl x=>K (.exit 0) (zN b vGj ((),()))|.inr x=>K .ret (zN b vDf (((x,()),()),()))⟩
def ySs:zW:=⟨[],[(2,yCi)],[],false⟩
def abn:zS prog 1000 0 19 (zQ (zR f166) 0) yCi:=lp (A:=ySs) yCi (fun d=>match d with|.inl d=>.inl ()|.inr d=>.inr d.1.1.1) vGi Kx Fs (e1 yF5) zF
def vYa:=zI 166 [.c (.dat false zG),.fn 309 [[.i],oF,RE,[.i],eH]] (.c .i) (fun k d=>(yCo (Xc k) d)) (fun x=>(x,())) (fun d=>d.1)
def vNc:zD prog vYa:=fA f166 ySs (e1 yF5) (loops1 abn)
def vTl:=zI 148 [.c (.dat false zG),.fn 309 [[.i],oF,RE,[.i],eH]] (.c .bool) (fun k d=>(yCo (Pm k) d)) (fun x=>(x,())) (fun d=>d.1)
def yY9:zD prog vTl:=fA f148 ⟨[],[],[],false⟩ (e1 vNc) zF
def vFy:zE:=sp [(3,.c (.dat false zG)),sP 4 0,sP 5 1,sP 6 2,sP 9 3,sP 10 4,sI 11,(39,.c (.dat false .i)),sI 40,sI 41] [oB qV1,oB jV,oB [.i],oB [.i,.i,.i],oB [.i]]
def yQs:zE:=sp [(3,.c (.dat false zG)),sP 4 0,sP 5 1,sP 6 2,sP 9 3,sP 10 4,sI 11] [oB qV1,oB jV,oB [.i],oB [.i,.i,.i],oB [.i]]
def yQp (f:qTd)(d:vFy.den):=(vM (f d.1.1.1 d.1.2.2.2.2.2.2.1.1 d.1.2.2.2.2.2.2.2.1.1 d.1.2.2.2.2.2.2.2.2.1.1 d.1.2.2.2.2.2.2.2.2.2.1.1 d.2.1.1 d.2.1.2.1 d.2.1.2.2.1) d.2.2.1) d.2.2.2.1.1 d.2.2.2.2.1.1 d.2.2.2.2.1.2.1 d.2.2.2.2.1.2.2.1 d.2.2.2.2.2.1.1
def qZi:zT:=⟨[vFy],[(.exit 0,yQs)],qWd,fun k d=>yQp (BD k k) d,fun b x _ K=>K (.exit 0) (zN b yQs (((x.1,()),(),(),(),(),(),(x.2.1,()),()),((x.2.2.1,x.2.2.2.1,x.2.2.2.2.1,()),(abo x ()),(x.2.2.2.2.2.2.2.2.2.1,()),(x.2.2.2.2.2.2.2.2.2.2.1,x.2.2.2.2.2.2.2.2.2.2.2.1,x.2.2.2.2.2.2.2.2.2.2.2.2.1,()),(x.2.2.2.2.2.2.2.2.2.2.2.2.2,()),())))⟩
def vDk:zW:=⟨[],[(7,qZi)],[],false⟩
def vJt:zS prog 1000 0 59 (zQ (zR f300) 0) qZi:=lp (A:=vDk) qZi (fun d=>(d.1.1.1,d.1.2.2.2.2.2.2.1.1,d.2.1.1,d.2.1.2.1,d.2.1.2.2.1,(wA d.2.2.1 (d.2.2.2.1.1,d.2.2.2.2.1.1,d.2.2.2.2.1.2.1,d.2.2.2.2.1.2.2.1,d.2.2.2.2.2.1.1)))) yQp BD Ft (e3 vD6 qMp yY9) zF
def vJf:=zI 300 [.agg RE,.agg eH,.c .i,.c (.dat false zG)] (.c .bool) (fun k d=>(RD (Po k) d)) (fun x=>(x,())) (fun d=>d.1)
def yYd:zD prog vJf:=fA f300 vDk (e3 vD6 qMp yY9) (loops1 vJt)
def yEb:zE:=⟨[(1,.c (.dat false zG)),sP 2 0,sP 5 1,sO 6 5,sI 16,sI 17],[oB jV,oB qMj,oA .i,oA .i,.mat,oA .i],[(6,none,.i,false)]⟩
def yKk:zE:=sp [sO 6 0] [oA .i]
def yRn (f:yA3)(d:yEb.den):=(vM (f d.1.1.1 d.1.2.2.2.2.1.1 d.1.2.2.2.2.2.1.1) d.2.1) d.2.2.2.1 d.2.2.2.2.1 d.2.2.2.2.2.1 d.2.2.2.2.2.2.1
def qV2:zT:=⟨[yEb],[(.exit 0,yKk)],AC,fun k d=>yRn (Fu k k) d,fun b x _ K=>K (.exit 0) (zN b yKk (((),()),(x,())))⟩
def vFq:zW:=⟨[],[(4,qV2)],[],false⟩
def vMl:zS prog 1000 0 37 (zQ (zR f277) 0) qV2:=lp (A:=vFq) qV2 (fun d=>d.2.1) yRn Fu Fv (e3 yZt yT1 yYd) zF
def vRw:=zI 277 [.agg eH,.c (.dat false zG)] (.c (.own .i)) (fun k d=>(lN (BE k) d)) (fun x=>(x,())) (fun d=>d.1)
def MD:zD prog vRw:=fA f277 vFq (e3 yZt yT1 yYd) (loops1 vMl)
def vUr:=zI 297 [.agg eH,.c (.dat false zG)] (.c .bool) (fun k d=>(lN (BF k) d)) (fun x=>(x,())) (fun d=>d.1)
def ME:zD prog vUr:=fA f297 ⟨[],[],[],false⟩ (e2 vY6 MD) zF
def vOl:=zI 282 [.agg vR,.ptr eH] (.c .bool) (fun k d=>(tn (WU k) d)) (fun x=>(x,())) (fun d=>d.1)
def vDv:zD prog vOl:=fA f282 ⟨[],[],[],false⟩ (e1 qKa) zF
def yTl:zE:=sp [(0,.c (.dat false zG)),(1,.c (.lit (.fn 282 [1001000]))),sI 7,sI 8] [.robox jV]
def yGd (f:qO2)(d:yTl.den):=(vM (f d.1.1.1 d.1.2.2.1.1 d.1.2.2.2.1.1) d.2.1)
def yA9:zT:=⟨[yTl],[(.exit 0,vGj),(.ret,vDf)],(Unit⊕Int),fun k d=>yGd (Kg k k) d,fun b x _ K=>match x with|.inl x=>K (.exit 0) (zN b vGj ((),()))|.inr x=>K .ret (zN b vDf (((x,()),()),()))⟩
def yLm:zW:=⟨[],[(2,yA9)],[],false⟩
def vQv:zS prog 1000 0 19 (zQ (zR f166) 0) yA9:=lp (A:=yLm) yA9 (fun d=>match d with|.inl d=>.inl ()|.inr d=>.inr d.1.1.1) yGd Kg E0 (e1 vDv) zF
def vV8:=zI 166 [.c (.dat false zG),.fn 282 [eH]] (.c .i) (fun k d=>(lN (WV k) d)) (fun x=>(x,())) (fun d=>d.1)
def abp:zD prog vV8:=fA f166 yLm (e1 vDv) (loops1 vQv)
def vJl:=zI 148 [.c (.dat false zG),.fn 282 [eH]] (.c .bool) (fun k d=>(lN (O0 k) d)) (fun x=>(x,())) (fun d=>d.1)
def vCe:zD prog vJl:=fA f148 ⟨[],[],[],false⟩ (e1 abp) zF
def vU3:=zI 131 [.agg oF] (.c .bool) (fun k d=>WD k d.1 d.2.1 d.2.2.1) (fun x=>(x,())) (fun d=>d.1)
def yTy:zD prog vU3:=fA f131 ⟨[],[],[],false⟩ (e1 yPy) zF
def yK1:zE:=sp [(0,.c (.dat false qS)),(1,.c (.lit (.fn 131 []))),sI 7,sI 8] []
def yV5 (f:qN0)(d:yK1.den):=f d.1.1.1 d.1.2.2.1.1 d.1.2.2.2.1.1
def qXu:zT:=⟨[yK1],[(.exit 0,vGj),(.ret,vDf)],(Unit⊕Int),fun k d=>yV5 (JX k k) d,fun b x _ K=>match x with|.inl x=>K (.exit 0) (zN b vGj ((),()))|.inr x=>K .ret (zN b vDf (((x,()),()),()))⟩
def vEu:zW:=⟨[],[(2,qXu)],[],false⟩
def abq:zS prog 1000 0 19 (zQ (zR f187) 0) qXu:=lp (A:=vEu) qXu (fun d=>match d with|.inl d=>.inl ()|.inr d=>.inr d.1.1.1) yV5 JX EJ (e1 yTy) zF
def abr:=zI 187 [.c (.dat false qS),.c (.fn 131)] (.c .i) (fun k d=>WE k d.1) (fun x=>(x,())) (fun d=>d.1)
def vKn:zD prog abr:=fA f187 vEu (e1 yTy) (loops1 abq)
def vV4:=zI 133 [.c (.dat false qS),.c (.fn 131)] (.c .bool) (fun k d=>OO k d.1) (fun x=>(x,())) (fun d=>d.1)
def abt:zD prog vV4:=fA f133 ⟨[],[],[],false⟩ (e1 vKn) zF
def vHp:=zI 135 [.c .i] (.c .bool) (fun k d=>WA k d.1) (fun x=>(x,())) (fun d=>d.1)
def abu:zD prog vHp:=fA f135 ⟨[],[],[],false⟩ e0 zF
def abv:=zI 188 [.c .i,.ptr [.fn 135]] (.c .bool) (fun k d=>WH k d.1) (fun x=>(x,())) (fun d=>d.1)
def yHs:zD prog abv:=fA f188 ⟨[],[],[],false⟩ (e1 abu) zF
def yLf:zE:=sp [(0,.c (.dat false .i)),(1,.c (.lit (.fn 188 [1001000]))),sI 7,sI 8] [.robox [.lit (.fn 135 [])]]
def yUs (f:qNe)(d:yLf.den):=f d.1.1.1 d.1.2.2.1.1 d.1.2.2.2.1.1
def qR7:zT:=⟨[yLf],[(.exit 0,vGj),(.ret,vDf)],(Unit⊕Int),fun k d=>yUs (JY k k) d,fun b x _ K=>match x with|.inl x=>K (.exit 0) (zN b vGj ((),()))|.inr x=>K .ret (zN b vDf (((x,()),()),()))⟩
def yZ3:zW:=⟨[],[(2,qR7)],[],false⟩
def vM5:zS prog 1000 0 19 (zQ (zR f189) 0) qR7:=lp (A:=yZ3) qR7 (fun d=>match d with|.inl d=>.inl ()|.inr d=>.inr d.1.1.1) yUs JY EK (e1 yHs) zF
def abw:=zI 189 [.c (.dat false .i),.fn 188 [[.fn 135]]] (.c .i) (fun k d=>WI k d.1) (fun x=>(x,())) (fun d=>d.1)
def vSs:zD prog abw:=fA f189 yZ3 (e1 yHs) (loops1 vM5)
def vXf:=zI 139 [.c (.dat false .i),.fn 188 [[.fn 135]]] (.c .bool) (fun k d=>OP k d.1) (fun x=>(x,())) (fun d=>d.1)
def vPx:zD prog vXf:=fA f139 ⟨[],[],[],false⟩ (e1 vSs) zF
def vS1:=zI 136 [.c (.dat false .i),.c .i,.c (.fn 135)] (.c .bool) (fun k d=>J0 k d.1 d.2.1) (fun x=>(x,())) (fun d=>d.1)
def qQ6:zD prog vS1:=fA f136 ⟨[],[],[],false⟩ (e1 vPx) zF
def yHa:zE:=sp [sI 1,(2,.c (.lit (.fn 135 []))),(13,.c (.dat false (.sl .i))),sI 14,sI 15] []
def yDo:zE:=sp [(6,.c .bool)] []
def yNh (f:qRr)(d:yHa.den):=f d.1.1.1 d.1.2.2.1.1 d.1.2.2.2.1.1 d.1.2.2.2.2.1.1
def qR8:zT:=⟨[yHa],[(.exit 0,vGj),(.ret,yDo)],(Unit⊕Bool),fun k d=>yNh (J1 k k) d,fun b x _ K=>match x with|.inl x=>K (.exit 0) (zN b vGj ((),()))|.inr x=>K .ret (zN b yDo (((x,()),()),()))⟩
def ySb:zW:=⟨[],[(4,qR8)],[],false⟩
def vM4:zS prog 1000 0 25 (zQ (zR f134) 0) qR8:=lp (A:=ySb) qR8 (fun d=>match d with|.inl d=>.inl ()|.inr d=>.inr d.1.1.1) yNh J1 EM (e1 qQ6) zF
def vKk:=zI 134 [.c (.dat false (.sl .i)),.c .i,.c (.fn 135)] (.c .bool) (fun k d=>OT k d.1 d.2.1) (fun x=>(x,())) (fun d=>d.1)
def abx:zD prog vKk:=fA f134 ySb (e1 qQ6) (loops1 vM4)
def aby:=zI 137 [.c .i] (.c .bool) (fun k d=>OM k d.1) (fun x=>(x,())) (fun d=>d.1)
def abz:zD prog aby:=fA f137 ⟨[],[],[],false⟩ e0 zF
def vOj:=zI 188 [.c .i,.ptr [.fn 137]] (.c .bool) (fun k d=>WK k d.1) (fun x=>(x,())) (fun d=>d.1)
def yRy:zD prog vOj:=fA f188 ⟨[],[],[],false⟩ (e1 abz) zF
def vDy:zE:=sp [(0,.c (.dat false .i)),(1,.c (.lit (.fn 188 [1001000]))),sI 7,sI 8] [.robox [.lit (.fn 137 [])]]
def yK4 (f:qNe)(d:vDy.den):=f d.1.1.1 d.1.2.2.1.1 d.1.2.2.2.1.1
def qKf:zT:=⟨[vDy],[(.exit 0,vGj),(.ret,vDf)],(Unit⊕Int),fun k d=>yK4 (JZ k k) d,fun b x _ K=>match x with|.inl x=>K (.exit 0) (zN b vGj ((),()))|.inr x=>K .ret (zN b vDf (((x,()),()),()))⟩
def yLx:zW:=⟨[],[(2,qKf)],[],false⟩
def abA:zS prog 1000 0 19 (zQ (zR f189) 0) qKf:=lp (A:=yLx) qKf (fun d=>match d with|.inl d=>.inl ()|.inr d=>.inr d.1.1.1) yK4 JZ EL (e1 yRy) zF
def vSr:=zI 189 [.c (.dat false .i),.fn 188 [[.fn 137]]] (.c .i) (fun k d=>WL k d.1) (fun x=>(x,())) (fun d=>d.1)
def vSi:zD prog vSr:=fA f189 yLx (e1 yRy) (loops1 abA)
def vLo:=zI 139 [.c (.dat false .i),.fn 188 [[.fn 137]]] (.c .bool) (fun k d=>OQ k d.1) (fun x=>(x,())) (fun d=>d.1)
def vQw:zD prog vLo:=fA f139 ⟨[],[],[],false⟩ (e1 vSi) zF
def vNn:=zI 136 [.c (.dat false .i),.c .i,.c (.fn 137)] (.c .bool) (fun k d=>OR k d.1 d.2.1) (fun x=>(x,())) (fun d=>d.1)
def yHc:zD prog vNn:=fA f136 ⟨[],[],[],false⟩ (e1 vQw) zF
def yDh:zE:=sp [sI 1,(2,.c (.lit (.fn 137 []))),(13,.c (.dat false (.sl .i))),sI 14,sI 15] []
def yXb (f:qRr)(d:yDh.den):=f d.1.1.1 d.1.2.2.1.1 d.1.2.2.2.1.1 d.1.2.2.2.2.1.1
def qSx:zT:=⟨[yDh],[(.exit 0,vGj),(.ret,yDo)],(Unit⊕Bool),fun k d=>yXb (J2 k k) d,fun b x _ K=>match x with|.inl x=>K (.exit 0) (zN b vGj ((),()))|.inr x=>K .ret (zN b yDo (((x,()),()),()))⟩
def vCt:zW:=⟨[],[(4,qSx)],[],false⟩
def abB:zS prog 1000 0 25 (zQ (zR f134) 0) qSx:=lp (A:=vCt) qSx (fun d=>match d with|.inl d=>.inl ()|.inr d=>.inr d.1.1.1) yXb J2 EN (e1 yHc) zF
def abC:=zI 134 [.c (.dat false (.sl .i)),.c .i,.c (.fn 137)] (.c .bool) (fun k d=>OU k d.1 d.2.1) (fun x=>(x,())) (fun d=>d.1)
def abD:zD prog abC:=fA f134 vCt (e1 yHc) (loops1 abB)
def yOe:zE:=sp [(0,.c (.dat false (.sl .i))),sI 3,(7,.c (.dat false (.sl .i))),sI 8,sI 9,(14,.c (.dat false .i)),sI 15,sI 16] []
def yO3:zE:=sp [(0,.c (.dat false (.sl .i))),(7,.c (.dat false (.sl .i))),sI 8,sI 9] []
def vCs (f:qV6)(d:yOe.den):=f d.1.1.1 d.1.2.1.1 d.1.2.2.1.1 d.1.2.2.2.1.1 d.1.2.2.2.2.1.1 d.1.2.2.2.2.2.1.1 d.1.2.2.2.2.2.2.1.1 d.1.2.2.2.2.2.2.2.1.1
def qKe:zT:=⟨[yOe],[(.exit 2,yO3),(.ret,yQ4)],qJv,fun k d=>vCs (EO k k) d,fun b x _ K=>match x with|.inl x=>K (.exit 2) (zN b yO3 (((x.1,()),(x.2.1,()),(x.2.2.1,()),(x.2.2.2,()),()),()))|.inr x=>K .ret (zN b yQ4 (((x,()),()),()))⟩
def yWe (f:qXq)(d:yO3.den):=f d.1.1.1 d.1.2.1.1 d.1.2.2.1.1 d.1.2.2.2.1.1
def yA4:zT:=⟨[yO3],[(.exit 0,vGj),(.ret,yQ4)],(Unit⊕Bool),fun k d=>yWe (J3 k k) d,fun b x _ K=>match x with|.inl x=>K (.exit 0) (zN b vGj ((),()))|.inr x=>K .ret (zN b yQ4 (((x,()),()),()))⟩
def yAy:zW:=⟨[],[(5,qKe),(2,yA4)],[],false⟩
def abE:zS prog 1000 0 33 (zQ (zQ (zR f138) 0) 0) qKe:=lp (A:=yAy) qKe (fun d=>match d with|.inl d=>.inl (d.1.1.1,d.1.2.1.1,d.1.2.2.1.1,d.1.2.2.2.1.1)|.inr d=>.inr d.1.1.1) vCs EO EP e0 zF
def vKj:zS prog 1000 0 33 (zQ (zR f138) 0) yA4:=lp (A:=yAy) yA4 (fun d=>match d with|.inl d=>.inl ()|.inr d=>.inr d.1.1.1) yWe J3 ER e0 (loops1 abE)
def abF:=zI 138 [.c (.dat false (.sl .i))] (.c .bool) (fun k d=>OV k d.1) (fun x=>(x,())) (fun d=>d.1)
def vZm:zD prog abF:=fA f138 yAy e0 (loops1 vKj)
def vYy:=zI 85 [.agg eH] (.c .bool) (fun k d=>(vM (Bw k) d)) (fun x=>(x,())) (fun d=>d.1)
def RF:zD prog vYy:=fA f85 ⟨[],[],[],false⟩ (e5 abt abx qQ6 abD vZm) zF
def vBr:zE:=sp [sP 2 0,sP 4 1,sP 7 2,(24,.c (.dat false zG)),sI 25,sI 26] [oB wH,oB oG,oB tp,oA qS,.mat,oA .i,.mat]
def yU2:zE:=sp [sP 2 0,sP 4 1,sP 7 2] [oB wH,oB oG,oB tp,oA qS,.mat,oA .i,.mat]
def yM6 (f:qP5)(d:vBr.den):=(vM (f d.1.2.2.2.1.1 d.1.2.2.2.2.1.1 d.1.2.2.2.2.2.1.1) d.2.1) d.2.2.2.2.1 d.2.2.2.2.2.1 d.2.2.2.2.2.2.1 d.2.2.2.2.2.2.2.1
def qZs:zT:=⟨[vBr],[(.exit 0,yU2)],qOs,fun k d=>yM6 (E3 k k) d,fun b x _ K=>K (.exit 0) (zN b yU2 (((),(),(),()),((wA x ()),(),(),x.2.2.2.2.1,x.2.2.2.2.2.1,x.2.2.2.2.2.2.1,x.2.2.2.2.2.2.2,())))⟩
def yE7:zW:=⟨[],[(6,qZs)],[],false⟩
def vWi:zS prog 1000 0 104 (zQ (zR f252) 0) qZs:=lp (A:=yE7) qZs (fun d=>(wA d.2.1 (d.2.2.2.2.1,d.2.2.2.2.2.1,d.2.2.2.2.2.2.1,d.2.2.2.2.2.2.2.1))) yM6 E3 E4 (e4 vCe pK Ry RF) zF
def vLb:=zI 252 [.agg lh,.c (.dat false zG)] (.tup [(true,nF),(false,yX)]) (fun k d=>(lN (qt k) d)) (fun x=>(jI x ())) (fun d=>(yR d))
def CN:zD prog vLb:=fA f252 yE7 (e4 vCe pK Ry RF) (loops1 vWi)
def yKo:zE:=sp [sP 3 0,sP 6 1,sP 7 2,sO 15 3,sI 16,sI 17] [oB wH,oB wE,oB oG,oA zG]
def vEw:zE:=sp [sP 3 0,sP 6 1,sP 7 2] [oB wH,oB wE,oB oG]
def yLn:zE:=sp [sP 6 0,sP 7 1,(8,.c .bool)] [oB wE,oB wH]
def yU3 (f:qSz)(d:yKo.den):=(mE (vM (f d.1.2.2.2.2.1.1 d.1.2.2.2.2.2.1.1) d.2.1) d.2.2.1) d.2.2.2.2.1
def yBp:zT:=⟨[yKo],[(.exit 0,vEw),(.ret,yLn)],qPc,fun k d=>yU3 (KU k k) d,fun b x _ K=>match x with|.inl x=>K (.exit 0) (zN b vEw (((),(),(),()),((wA x ()),(MF x ()),(),())))|.inr x=>K .ret (zN b yLn (((),(),(x.1,()),()),((qZe x ()),(abG x ()),())))⟩
def vDn:zW:=⟨[],[(2,yBp)],[],false⟩
def vUe:zS prog 1000 0 40 (zQ (zR f275) 0) yBp:=lp (A:=vDn) yBp (fun d=>match d with|.inl d=>.inl (wA d.2.1 (vV d.2.2.1))|.inr d=>.inr (d.1.2.2.1.1,(ki d.2.1 (wS d.2.2.1)))) yU3 KU F6 (e3 MC ME CN) zF
def vPm:=zI 275 [.agg lh,.c (.dat true zG),.c .i] (.tup [(true,pI),(true,nF),(false,[.bool])]) (fun k d=>(ko (PN k) d)) (fun x=>(Ia x ())) (fun d=>(Ib d))
def yT8:zD prog vPm:=fA f275 vDn (e3 MC ME CN) (loops1 vUe)
def vDq:zE:=⟨[sI 2,sP 6 0,(7,.c (.dat true zG)),sO 8 1],[oB wH,oA zG],[(8,none,zG,false)]⟩
def yK0:zE:=sp [sP 6 0,(7,.c (.dat true zG)),sO 8 1] [oB wH,oA zG]
def vFm (f:qQk)(d:vDq.den):=(vM (f d.1.1.1 d.1.2.2.1.1) d.2.1) d.2.2.1
def qYj:zT:=⟨[vDq],[(.ret,yK0)],qZg,fun k d=>vFm (KV k k) d,fun b x _ K=>K .ret (zN b yK0 (((),(x.1,()),(),()),((iG x ()),x.2.2.2.2.2,())))⟩
def yQi:zW:=⟨[],[(2,qYj)],[],false⟩
def vU0:zS prog 1000 0 40 (zQ (zR f247) 0) qYj:=lp (A:=yQi) qYj (fun d=>(d.1.2.1.1,(wA d.2.1 d.2.2.1))) vFm KV F8 (e2 yT8 ru) zF
def abH:=zI 247 [.agg lh,.c (.dat true zG),.c .i] (.tup [(true,nF),(false,[.fro zG]),(false,[.own zG])]) (fun k d=>(ko (PO k) d)) (fun x=>(oH x ())) (fun d=>(nG d))
def yEr:zD prog abH:=fA f247 yQi (e2 yT8 ru) (loops1 vU0)
def vCb:zE:=sp [sP 3 0,sP 6 1,sO 8 2,sP 10 3,sO 18 2,sI 19,sI 20,sO 24 2,sI 25,sI 26] [oB wH,oB RG,oA zG,oB wE]
def yYo:zE:=sp [sP 3 0,sP 6 1,sO 8 2,sO 18 2,sI 19,sI 20] [oB wH,oB RG,oA zG]
def yEy:zE:=sp [sP 6 0,(7,.c .bool)] [oB ySz]
def vAv (f:qPw)(d:vCb.den):=(mE ((H5 (vM (f d.1.2.2.2.2.2.1.1 d.1.2.2.2.2.2.2.1.1 d.1.2.2.2.2.2.2.2.2.1.1 d.1.2.2.2.2.2.2.2.2.2.1.1) d.2.1) d.2.2.1) d.2.2.2.1) d.2.2.2.2.1)
def qKj:zT:=⟨[vCb],[(.exit 2,yYo),(.ret,yEy)],qNs,fun k d=>vAv (KW k k) d,fun b x _ K=>match x with|.inl x=>K (.exit 2) (zN b yYo (((),(),(),(),(x.1,()),(x.2.1,()),()),((Ro x ()),(vI8 x ()),x.2.2.2.2.2.2.2.2.2.2.2.2.2.2.2.2.2.2.2.2,())))|.inr x=>K .ret (zN b yEy (((),(x.1,()),()),((qOc x ()),())))⟩
def vGe:zE:=sp [sP 6 0] [oB RG]
def yP6 (f:qWp)(d:yYo.den):=(H5 (vM (f d.1.2.2.2.2.1.1 d.1.2.2.2.2.2.1.1) d.2.1) d.2.2.1) d.2.2.2.1
def yBq:zT:=⟨[yYo],[(.exit 0,vGe),(.ret,yEy)],qX6,fun k d=>yP6 (KY k k) d,fun b x _ K=>match x with|.inl x=>K (.exit 0) (zN b vGe (((),()),((RH x ()),())))|.inr x=>K .ret (zN b yEy (((),(x.1,()),()),((qOc x ()),())))⟩
def qYt:zW:=⟨[],[(6,qKj),(3,yBq)],[],false⟩
def abI:zS prog 1000 0 74 (zQ (zQ (zR f276) 0) 0) qKj:=lp (A:=qYt) qKj (fun d=>match d with|.inl d=>.inl (d.1.2.2.2.2.1.1,d.1.2.2.2.2.2.1.1,(wA d.2.1 (qJh d.2.2.1 d.2.2.2.1)))|.inr d=>.inr (d.1.2.1.1,(eG d.2.1))) vAv KW Gc (e3 MC ME CN) zF
def vSn:zS prog 1000 0 74 (zQ (zR f276) 0) yBq:=lp (A:=qYt) yBq (fun d=>match d with|.inl d=>.inl (qU0 d.2.1)|.inr d=>.inr (d.1.2.1.1,(eG d.2.1))) yP6 KY Gd (e3 MC ME CN) (loops1 abI)
def vLk:=zI 276 [.agg lh,.c (.dat true zG),.c .i] (.tup [(true,[.i,.i,.i,.i,.i,.i,.i,.i,.i,.i,.i,.i,.i,.i,.fro qS,.fro (.sl .i),.fro .i,.fro (.sl .i)]),(false,[.bool])]) (fun k d=>(ko (PR k) d)) (fun x=>(zc x ())) (fun d=>(RI d))
def qWf:zD prog vLk:=fA f276 qYt (e3 MC ME CN) (loops1 vSn)
def yR8:zE:=⟨[sI 2,sP 6 0,(7,.c (.dat true zG)),sO 8 1,sO 33 2,sI 34,sI 35],[oB wH,oA zG,oA zG],[(8,none,zG,false)]⟩
def yXx:zE:=sp [sI 2,sP 6 0,(7,.c (.dat true zG)),sO 8 1] [oB wH,oA zG]
def vEn (f:qLa)(d:yR8.den):=(vM (f d.1.1.1 d.1.2.2.1.1 d.1.2.2.2.2.2.1.1 d.1.2.2.2.2.2.2.1.1) d.2.1) d.2.2.1 d.2.2.2.1
def qUc:zT:=⟨[yR8],[(.exit 2,yXx)],qU7,fun k d=>vEn (xI k k) d,fun b x _ K=>K (.exit 2) (zN b yXx (((x.1,()),(),(x.2.1,()),(),()),((Ro x ()),x.2.2.2.2.2.2,())))⟩
def vDr (f:qQk)(d:vDq.den):=(vM (f d.1.1.1 d.1.2.2.1.1) d.2.1) d.2.2.1
def qTp:zT:=⟨[vDq],[(.ret,yK0)],qZg,fun k d=>vDr (KZ k k) d,fun b x _ K=>K .ret (zN b yK0 (((),(x.1,()),(),()),((iG x ()),x.2.2.2.2.2,())))⟩
def qR1:zW:=⟨[],[(7,qUc),(2,qTp)],[],false⟩
def vUa:zS prog 1000 0 52 (zQ (zQ (zR f248) 0) 0) qUc:=lp (A:=qR1) qUc (fun d=>(d.1.1.1,d.1.2.2.1.1,(wA d.2.1 d.2.2.1))) vEn xI xJ (e2 qWf ru) zF
def abJ:zS prog 1000 0 52 (zQ (zR f248) 0) qTp:=lp (A:=qR1) qTp (fun d=>(d.1.2.1.1,(wA d.2.1 d.2.2.1))) vDr KZ Ge (e2 qWf ru) (loops1 vUa)
def vJn:=zI 248 [.agg lh,.c (.dat true zG),.c .i] (.tup [(true,nF),(false,[.fro zG]),(false,[.own zG])]) (fun k d=>(ko (PT k) d)) (fun x=>(oH x ())) (fun d=>(nG d))
def yFx:zD prog vJn:=fA f248 qR1 (e2 qWf ru) (loops1 abJ)
def yZc (f:qQk)(d:vDq.den):=(vM (f d.1.1.1 d.1.2.2.1.1) d.2.1) d.2.2.1
def qTc:zT:=⟨[vDq],[(.ret,yK0)],qZg,fun k d=>yZc (K6 k k) d,fun b x _ K=>K .ret (zN b yK0 (((),(x.1,()),(),()),((iG x ()),x.2.2.2.2.2,())))⟩
def yZx:zW:=⟨[],[(2,qTc)],[],false⟩
def abK:zS prog 1000 0 40 (zQ (zR f213) 0) qTc:=lp (A:=yZx) qTc (fun d=>(d.1.2.1.1,(wA d.2.1 d.2.2.1))) yZc K6 P0 (e2 yEr yFx) zF
def vMn:=zI 213 [.agg lh,.c (.dat true zG),.c .i] (.tup [(true,nF),(false,[.fro zG]),(false,[.own zG])]) (fun k d=>(ko (K7 k) d)) (fun x=>(oH x ())) (fun d=>(nG d))
def vQk:zD prog vMn:=fA f213 yZx (e2 yEr yFx) (loops1 abK)
def vS0:=xm 278 false .i (.own .i) X2
def vL2:zD prog vS0:=fC f278 ⟨[],[],[],false⟩ e0 zF
def abL:=yH 279 [.agg vR,.ptr true [.own .i]] (.c .bool) [[.own .i]] 0 (fun k d=>(mD (X4 k) d)) (fun x=>(x.1,x.2,())) (fun d=>(d.1,d.2.1))
def yEj:zD prog abL:=fX f279 ⟨[],[],[],false⟩ 2 e0 zF
def yTu:zE:=⟨[(1,.c (.lit (.fn 279 [1001000]))),sO 5 2,(8,.c (.dat false zG)),sI 9,sI 10],[oB [.lit (.osl 1001001 none)],oA .i,oA zG],[(5,none,zG,false)]⟩
def vCr:zE:=sp [(1,.c (.lit (.fn 279 [1001000]))),sO 5 2] [oB [.lit (.osl 1001001 none)],oA .i,oA zG]
def yRm (f:qVv)(d:yTu.den):=f d.1.2.2.1.1 d.1.2.2.2.1.1 d.1.2.2.2.2.1.1 d.2.2.1 d.2.2.2.1
def qT9:zT:=⟨[yTu],[(.exit 0,vCr)],qM8,fun k d=>yRm (Gh k k) d,fun b x _ K=>K (.exit 0) (zN b vCr (((),(),()),((),x.1,x.2,())))⟩
def yOx:zW:=⟨[],[(3,qT9)],[],false⟩
def abM:zS prog 1000 2 23 (zQ (zR f194) 0) qT9:=lp (A:=yOx) qT9 (fun d=>(d.2.2.1,d.2.2.2.1)) yRm Gh Gj (e1 yEj) zF
def vP8:=yH 194 [.c (.p (.dat false zG)),.fn 279 [(true,[.own .i])]] (.c (.own zG)) [[.own .i]] 0 (fun k d=>X3 k d.1 d.2.1) (fun x=>(x.1,x.2,())) (fun d=>(d.1,d.2.1))
def vVq:zD prog vP8:=fX f194 yOx 2 (e1 yEj) (loops1 abM)
def vRn:=zI 250 [.c (.dat false zG),.c (.dat false .i)] (.c (.own zG)) (fun k d=>Gg k d.1 d.2.1) (fun x=>(x,())) (fun d=>d.1)
def Ic:zD prog vRn:=fA f250 ⟨[],[],[],false⟩ (e2 vL2 vVq) zF
def yHl:zE:=⟨[sP 3 0,sO 6 1,sI 7,sO 8 2,sI 18,sI 19],[oB jV,oA .i,oA zG],[(6,none,.i,false)]⟩
def yMo:zE:=sp [sP 3 0,sO 6 1,sI 7,sO 8 2] [oB jV,oA .i,oA zG]
def yFr (f:yB6)(d:yHl.den):=(vM (f d.1.2.2.1.1 d.1.2.2.2.2.1.1 d.1.2.2.2.2.2.1.1) d.2.1) d.2.2.1 d.2.2.2.1
def RJ:zT:=⟨[yHl],[(.exit 0,yMo)],qLy,fun k d=>yFr (BR k k) d,fun b x _ K=>K (.exit 0) (zN b yMo (((),(),(x.1,()),(),()),((iG x ()),x.2.2.2.2.2.1,x.2.2.2.2.2.2,())))⟩
def vAn:zE:=sp [sP 3 0,sO 6 1,sI 7,sO 8 2,sO 42 3,sI 43,sI 44] [oB jV,oA .i,oA zG,oA .i]
def yH6 (f:yB8)(d:vAn.den):=(vM (f d.1.2.2.1.1 d.1.2.2.2.2.2.1.1 d.1.2.2.2.2.2.2.1.1) d.2.1) d.2.2.1 d.2.2.2.1 d.2.2.2.2.1
def qWe:zT:=⟨[vAn],[(.exit 4,yMo)],qLy,fun k d=>yH6 (Gm k k) d,fun b x _ K=>K (.exit 4) (zN b yMo (((),(),(x.1,()),(),()),((iG x ()),x.2.2.2.2.2.1,x.2.2.2.2.2.2,())))⟩
def yGy:zE:=sp [sO 6 0,sI 7] [oA .i]
def vF3 (f:yCr)(d:yMo.den):=(vM (f d.1.2.2.1.1) d.2.1) d.2.2.1 d.2.2.2.1
def RK:zT:=⟨[yMo],[(.ret,yGy)],(Int×AC),fun k d=>vF3 (K5 k k) d,fun b x _ K=>K .ret (zN b yGy (((),(x.1,()),()),(x.2,())))⟩
def RM:zW:=⟨[],[(3,RJ),(12,qWe),(7,RK)],[],false⟩
def abN:zS prog 1000 0 55 (zQ (zR f249) 0) RJ:=lp (A:=RM) RJ (fun d=>(d.1.2.2.1.1,(wA d.2.1 (d.2.2.1,d.2.2.2.1)))) yFr BR Gl (e4 CM My Ic MD) zF
def vX8:zS prog 1000 0 55 (zQ (zQ (zR f249) 1) 0) qWe:=lp (A:=RM) qWe (fun d=>(d.1.2.2.1.1,(wA d.2.1 (d.2.2.1,d.2.2.2.1)))) yH6 Gm Gn (e4 CM My Ic MD) zF
def vMd:zS prog 1000 0 55 (zQ (zR f249) 1) RK:=lp (A:=RM) RK (fun d=>(d.1.2.1.1,d.2.1)) vF3 K5 Gp (e4 CM My Ic MD) (loops1 vX8)
def abO:=zI 249 [.agg eH,.c (.dat false zG),.c .i] (.tup [(false,[.own .i]),(false,yX)]) (fun k d=>(ko (PX k) d)) (fun x=>(x.1,x.2,())) (fun d=>(d.1,d.2.1))
def yL4:zD prog abO:=fA f249 RM (e4 CM My Ic MD) (nh (n:=2) (by kernel_rfl) fun i hi=>match i,hi with|0,_=>⟨RJ,by kernel_rfl,abN⟩|1,_=>⟨RK,by kernel_rfl,vMd⟩|i+2,hi=>absurd hi (by omega))
def yWs:zE:=sp [sP 6 0,(7,.c (.dat true zG)),sO 11 1,sO 38 1,sI 39,sI 40] [oB wH,oA zG]
def yJj:zE:=sp [sP 6 0,(7,.c (.dat true zG)),sO 11 1] [oB wH,oA zG]
def yMl (f:qPn)(d:yWs.den):=(vM (f d.1.2.1.1 d.1.2.2.2.2.1.1 d.1.2.2.2.2.2.1.1) d.2.1) d.2.2.1
def qPd:zT:=⟨[yWs],[(.exit 0,yJj)],qZg,fun k d=>yMl (BS k k) d,fun b x _ K=>K (.exit 0) (zN b yJj (((),(x.1,()),(),()),((iG x ()),x.2.2.2.2.2,())))⟩
def yD0:zW:=⟨[],[(8,qPd)],[],false⟩
def abP:zS prog 1000 0 56 (zQ (zR f214) 0) qPd:=lp (A:=yD0) qPd (fun d=>(d.1.2.1.1,(wA d.2.1 d.2.2.1))) yMl BS Gq (e5 yL4 CM Ic CN ru) zF
def vWn:=zI 214 [.agg lh,.c (.dat true zG),.c .i] (.tup [(true,nF),(false,[.fro zG]),(false,[.own zG])]) (fun k d=>(ko (BU k) d)) (fun x=>(oH x ())) (fun d=>(nG d))
def abQ:zD prog vWn:=fA f214 yD0 (e5 yL4 CM Ic CN ru) (loops1 abP)
def abR:=zI 164 [.agg lh,.c (.dat true zG),.c .i,.c .bool] (.tup [(true,nF),(false,[.fro zG]),(false,[.own zG])]) (fun k d=>(mE (uN k) d)) (fun x=>(oH x ())) (fun d=>(nG d))
def vZ4:zD prog abR:=fA f164 ⟨[],[],[],false⟩ (e2 vQk abQ) zF
def yH9:zE:=⟨[sO 3 0,sP 5 1,(8,.c (.dat false zG)),sI 9,sI 10,sO 18 2,sI 19,sI 20],[oA qZ,oB wE,oA .i],[(3,none,qZ,false)]⟩
def vEo:zE:=sp [sO 3 0,(8,.c (.dat false zG)),sI 9,sI 10] [oA qZ]
def yDv (f:qO4)(d:yH9.den):=(mE (f d.1.2.2.1.1 d.1.2.2.2.1.1 d.1.2.2.2.2.1.1 d.1.2.2.2.2.2.2.1.1 d.1.2.2.2.2.2.2.2.1.1 d.2.1) d.2.2.1) d.2.2.2.1
def qZq:zT:=⟨[yH9],[(.exit 2,vEo)],qQw,fun k d=>yDv (xO k k) d,fun b x _ K=>K (.exit 2) (zN b vEo (((),(x.1,()),(x.2.1,()),(x.2.2.1,()),()),(x.2.2.2,())))⟩
def yZd:zE:=⟨[sO 3 0,(8,.c (.dat false zG)),sI 9,sI 10],[oA qZ],[(3,none,qZ,false)]⟩
def yLi:zE:=sp [sO 3 0] [oA qZ]
def yL8 (f:qQf)(d:yZd.den):=f d.1.2.1.1 d.1.2.2.1.1 d.1.2.2.2.1.1 d.2.1
def qLd:zT:=⟨[yZd],[(.exit 0,yLi)],qLt,fun k d=>yL8 (K8 k k) d,fun b x _ K=>K (.exit 0) (zN b yLi (((),()),(x,())))⟩
def qL5:zW:=⟨[],[(6,qZq),(3,qLd)],[],false⟩
def vLd:zS prog 1000 0 41 (zQ (zQ (zR f165) 0) 0) qZq:=lp (A:=qL5) qZq (fun d=>(d.1.2.1.1,d.1.2.2.1.1,d.1.2.2.2.1.1,d.2.1)) yDv xO xP (e1 za) zF
def vTk:zS prog 1000 0 41 (zQ (zR f165) 0) qLd:=lp (A:=qL5) qLd (fun d=>d.2.1) yL8 K8 Gs (e1 za) (loops1 vLd)
def abS:=zI 165 [.c (.dat false zG)] (.c (.own qZ)) (fun k d=>P1 k d.1) (fun x=>(x,())) (fun d=>d.1)
def abT:zD prog abS:=fA f165 qL5 (e1 za) (loops1 vTk)
def vWd:=zI 96 [.agg yu,.c .bool] (.tup [(true,yv),(false,[.own qZ])]) (fun k d=>(MG (pC k) d)) (fun x=>(Ia x ())) (fun d=>(Ib d))
def yB7:zD prog vWd:=fA f96 ⟨[],[],[],false⟩ (e2 vZ4 abT) zF
def yYj:zE:=⟨[sP 2 0,sP 3 1,sP 4 2,sO 6 3,sO 7 4,(27,.c (.dat true zG)),sI 28,sI 29],[oB rr,oB jb,oB jX,oA qZ,oA zG],[(6,none,qZ,false),(7,none,zG,false)]⟩
def ySt:zE:=sp [sP 2 0,sP 3 1,sP 4 2,sO 6 3,sO 7 4] [oB rr,oB jb,oB jX,oA qZ,oA zG]
def yGt (f:qMk)(d:yYj.den):=(tn (lN (f d.1.2.2.2.2.2.1.1 d.1.2.2.2.2.2.2.1.1 d.1.2.2.2.2.2.2.2.1.1) d.2.1) d.2.2.1) d.2.2.2.1.1 d.2.2.2.1.2.1 d.2.2.2.1.2.2.1 d.2.2.2.2.1 d.2.2.2.2.2.1
def qPi:zT:=⟨[yYj],[(.exit 0,ySt)],qKt,fun k d=>yGt (Gz k k) d,fun b x _ K=>K (.exit 0) (zN b ySt (((),(),(),(),(),()),((pL x ()),(vPv x ()),(x.2.2.2.2.2.2.2.2.2.2.2.2.2.2.2.2.1,x.2.2.2.2.2.2.2.2.2.2.2.2.2.2.2.2.2.1,x.2.2.2.2.2.2.2.2.2.2.2.2.2.2.2.2.2.2.1,()),x.2.2.2.2.2.2.2.2.2.2.2.2.2.2.2.2.2.2.2.1,x.2.2.2.2.2.2.2.2.2.2.2.2.2.2.2.2.2.2.2.2,())))⟩
def yVl:zW:=⟨[],[(9,qPi)],[],false⟩
def vRy:zS prog 1000 0 66 (zQ (zR f95) 0) qPi:=lp (A:=yVl) qPi (fun d=>(pL d.2.1 (zb d.2.2.1 (d.2.2.2.1.1,d.2.2.2.1.2.1,d.2.2.2.1.2.2.1,d.2.2.2.2.1,d.2.2.2.2.2.1)))) yGt Gz GA (e6 Rz yRz yTp za yDu yB7) zF
def abU:=zI 95 [.agg kk,.agg yu] (.tup [(true,yv),(false,[.own qZ])]) (fun k d=>(yIj (uO k) d)) (fun x=>(Ia x ())) (fun d=>(Ib d))
def abV:zD prog abU:=fA f95 yVl (e6 Rz yRz yTp za yDu yB7) (loops1 vRy)
def abW:=yH 154 [.ptr true yw,.agg MA] (.c .i) [lL] 0 (fun k d=>yO5 k (lM d) (vEm d)) (fun x=>(x.1,(jN x.2 ()))) (fun d=>(d.1,(kl d)))
def vMh:zD prog abW:=fX f154 n0 1 (e4 iF yRb yYg Rs) zF
def abX:=yH 155 [.ptr true yw,.agg vR] (.c .i) [lL] 0 (fun k d=>RN k (lM d) (H7 d)) (fun x=>(x.1,(jN x.2 ()))) (fun d=>(d.1,(kl d)))
def vV5:zD prog abX:=fX f155 n0 1 (e8 yOv ru yEz iF qN9 yNr yVb yPi) zF
def vOw:=yH 156 [.ptr true yw,.agg vR] (.c .i) [lL] 0 (fun k d=>RO k (lM d) (H7 d)) (fun x=>(x.1,(jN x.2 ()))) (fun d=>(d.1,(kl d)))
def vMe:zD prog vOw:=fX f156 n0 1 (e3 pK yJr iF) zF
def vH2:=yH 157 [.ptr true yw,.c (.p .i),.c (.p .i)] (.c .i) [lL] 0 (fun k d=>yFw k (lM d) d.2.2.2.2.2.2.2.2.2.2.2.2.2.2.2.2.2.2.1 d.2.2.2.2.2.2.2.2.2.2.2.2.2.2.2.2.2.2.2.1) (fun x=>(x.1,(jN x.2 ()))) (fun d=>(d.1,(kl d)))
def abY:zD prog vH2:=fX f157 n0 1 (e6 H8 iF yIk H9 yz pK) zF
def vZ0:=yH 158 [.ptr true yw,.c (.p .i),.c (.p .i),.c (.p .i)] (.c .i) [lL] 0 (fun k d=>B6 k (lM d) d.2.2.2.2.2.2.2.2.2.2.2.2.2.2.2.2.2.2.1 d.2.2.2.2.2.2.2.2.2.2.2.2.2.2.2.2.2.2.2.1 d.2.2.2.2.2.2.2.2.2.2.2.2.2.2.2.2.2.2.2.2.1) (fun x=>(x.1,(jN x.2 ()))) (fun d=>(d.1,(kl d)))
def abZ:zD prog vZ0:=fX f158 n0 1 (e5 iF yNq yEx yLb pK) zF
def yE3:zE:=sp [sP 0 0,sO 7 1,sP 8 2,(40,.c (.dat true (.sl .i))),sI 41,sI 42] [oB qQm,oA .i,oB tp,oA qS,.mat,oA .i,.mat]
def vEy:zE:=sp [sP 0 0,sO 7 1,sP 8 2] [oB qQm,oA .i,oB tp,oA qS,.mat,oA .i,.mat]
def yUj:zE:=sp [sP 0 0,sI 6] [oB qQm]
def yG7 (f:qWx)(d:yE3.den):=f d.1.2.2.2.1.1 d.1.2.2.2.2.1.1 d.1.2.2.2.2.2.1.1 (lM d.2.1) d.2.2.1 d.2.2.2.2.1 d.2.2.2.2.2.1 d.2.2.2.2.2.2.1 d.2.2.2.2.2.2.2.1
def qS9:zT:=⟨[yE3],[(.exit 0,vEy),(.ret,yUj)],qV3,fun k d=>yG7 (uW k k) d,fun b x _ K=>match x with|.inl x=>K (.exit 0) (zN b vEy (((),(),(),()),((vU x.1 ()),x.2.1,(),x.2.2.1,x.2.2.2.1,x.2.2.2.2.1,x.2.2.2.2.2,())))|.inr x=>K .ret (zN b yUj (((),(x.1,()),()),((vU x.2 ()),())))⟩
def yCw:zW:=⟨[],[(6,qS9)],[],true⟩
def vLc:zS prog 1000 1 81 (zQ (zR f159) 0) qS9:=lp (A:=yCw) qS9 (fun d=>match d with|.inl d=>.inl ((lM d.2.1),d.2.2.1,d.2.2.2.2.1,d.2.2.2.2.2.1,d.2.2.2.2.2.2.1,d.2.2.2.2.2.2.2.1)|.inr d=>.inr (d.1.2.1.1,(lM d.2.1))) yG7 uW GZ (e5 H8 iF H9 pK yz) zF
def ab0:=yH 159 [.ptr true yw,.c (.p .i),.c (.p .i)] (.c .i) [lL] 0 (fun k d=>Qs k (lM d) d.2.2.2.2.2.2.2.2.2.2.2.2.2.2.2.2.2.2.1 d.2.2.2.2.2.2.2.2.2.2.2.2.2.2.2.2.2.2.2.1) (fun x=>(x.1,(jN x.2 ()))) (fun d=>(d.1,(kl d)))
def vS2:zD prog ab0:=fX f159 yCw 1 (e5 H8 iF H9 pK yz) (loops1 vLc)
def ab1:=yH 94 [.ptr true yw,.agg vR] (.c .i) [lL] 0 (fun k d=>yi k (lM d) (H7 d)) (fun x=>(x.1,(jN x.2 ()))) (fun d=>(d.1,(kl d)))
def ab2:zD prog ab1:=fX f94 n0 1 (e6 vMh vV5 vMe abY abZ vS2) zF
def ab3:=zI 40 [.agg MH,.agg yu,.agg CL] (.tup [(true,yv),(false,[.own qZ]),(false,yX)]) (fun k d=>hZ k (yR d) (rq d) (yAh d)) (fun x=>(vY x.1 (x.2.1,x.2.2,()))) (fun d=>((qQ d),d.2.2.2.2.2.2.2.2.2.2.2.1,d.2.2.2.2.2.2.2.2.2.2.2.2.1))
def qMt:zD prog ab3:=fA f40 n0 (e9 aaC vT8 yEz vKs abV yB7 yx yRe ab2) zF
def vK6:=yH 41 [.chn [qKn,lK],.c (.p (.dat false (.int .u8)))] (.c .i) [[.link 1,.i,.i,.i,.bool],jc] 0 (fun k d=>vh k (Ie d) (RP d) d.2.2.2.2.2.2.2.2.2.2.2.2.2.2.2.1) (fun x=>(x.1,(),(fk x.2.1 (iE x.2.2 ())))) (fun d=>(d.1,(qJx d),(qX9 d)))
def RQ:zD prog vK6:=fX f41 n0 0 (e1 vDx) zF
def ab4:=zI 140 [.c .i] (.c .bool) (fun k d=>Zs k d.1) (fun x=>(x,())) (fun d=>d.1)
def yJi:zD prog ab4:=fA f140 n0 (e1 iF) zF
def vCj:zE:=sp [(0,.c (.dat false .i)),(1,.c (.lit (.fn 140 []))),sI 7,sI 8] []
def yZj (f:qNe)(d:vCj.den):=f d.1.1.1 d.1.2.2.1.1 d.1.2.2.2.1.1
def qYa:zT:=⟨[vCj],[(.exit 0,vGj),(.ret,vDf)],(Unit⊕Int),fun k d=>yZj (Cq k k) d,fun b x _ K=>match x with|.inl x=>K (.exit 0) (zN b vGj ((),()))|.inr x=>K .ret (zN b vDf (((x,()),()),()))⟩
def vBy:zW:=⟨[],[(2,qYa)],[],false⟩
def ab5:zS prog 1000 0 19 (zQ (zR f189) 0) qYa:=lp (A:=vBy) qYa (fun d=>match d with|.inl d=>.inl ()|.inr d=>.inr d.1.1.1) yZj Cq Hy (e1 yJi) zF
def vTu:=zI 189 [.c (.dat false .i),.c (.fn 140)] (.c .i) (fun k d=>Zt k d.1) (fun x=>(x,())) (fun d=>d.1)
def vOv:zD prog vTu:=fA f189 vBy (e1 yJi) (loops1 ab5)
def ab6:=zI 139 [.c (.dat false .i),.c (.fn 140)] (.c .bool) (fun k d=>LX k d.1) (fun x=>(x,())) (fun d=>d.1)
def yIh:zD prog ab6:=fA f139 ⟨[],[],[],false⟩ (e1 vOv) zF
def ab7:=zI 142 [.c .i] (.c .bool) (fun k d=>Zv k d.1) (fun x=>(x,())) (fun d=>d.1)
def yPt:zD prog ab7:=fA f142 n0 e0 zF
def yFn:zE:=sp [(0,.c (.dat false .i)),(1,.c (.lit (.fn 142 []))),sI 7,sI 8] []
def yN6 (f:qNe)(d:yFn.den):=f d.1.1.1 d.1.2.2.1.1 d.1.2.2.2.1.1
def qXn:zT:=⟨[yFn],[(.exit 0,vGj),(.ret,vDf)],(Unit⊕Int),fun k d=>yN6 (Cr k k) d,fun b x _ K=>match x with|.inl x=>K (.exit 0) (zN b vGj ((),()))|.inr x=>K .ret (zN b vDf (((x,()),()),()))⟩
def yOy:zW:=⟨[],[(2,qXn)],[],false⟩
def vNu:zS prog 1000 0 19 (zQ (zR f189) 0) qXn:=lp (A:=yOy) qXn (fun d=>match d with|.inl d=>.inl ()|.inr d=>.inr d.1.1.1) yN6 Cr Hz (e1 yPt) zF
def ab8:=zI 189 [.c (.dat false .i),.c (.fn 142)] (.c .i) (fun k d=>Zw k d.1) (fun x=>(x,())) (fun d=>d.1)
def ab9:zD prog ab8:=fA f189 yOy (e1 yPt) (loops1 vNu)
def vOy:=zI 139 [.c (.dat false .i),.c (.fn 142)] (.c .bool) (fun k d=>QP k d.1) (fun x=>(x,())) (fun d=>d.1)
def ySa:zD prog vOy:=fA f139 ⟨[],[],[],false⟩ (e1 ab9) zF
def yF3:zE:=sp [sP 2 0,sP 3 1,(28,.c (.dat false (.sl .i))),sI 29,sI 30] [oB rr,oB zd]
def vE6:zE:=sp [(4,.c .bool)] []
def yHk (f:qKk)(d:yF3.den):=f d.1.2.2.1.1 d.1.2.2.2.1.1 d.1.2.2.2.2.1.1 (yR d.2.1) (qQ d.2.2.1)
def qZ7:zT:=⟨[yF3],[(.exit 0,vGj),(.ret,vE6)],(Unit⊕Bool),fun k d=>yHk (yj k k) d,fun b x _ K=>match x with|.inl x=>K (.exit 0) (zN b vGj ((),()))|.inr x=>K .ret (zN b vE6 (((x,()),()),()))⟩
def yWz:zW:=⟨[],[(6,qZ7)],[],true⟩
def aca:zS prog 1000 0 66 (zQ (zR f86) 0) qZ7:=lp (A:=yWz) qZ7 (fun d=>match d with|.inl d=>.inl ()|.inr d=>.inr d.1.1.1) yHk yj HA (e3 yIh yz ySa) zF
def vKq:=zI 86 [.agg kk,.agg pJ] (.c .bool) (fun k d=>LY k (yR d) (rq d)) (fun x=>(x,())) (fun d=>d.1)
def vC1:zD prog vKq:=fA f86 yWz (e3 yIh yz ySa) (loops1 aca)
def yId:zE:=sp [(0,.c (.dat false zG)),(1,.c (.lit (.fn 193 []))),sI 5] []
def yR2 (f:qMd)(d:yId.den):=f d.1.1.1 d.1.2.2.1.1
def yCl:zT:=⟨[yId],[(.exit 0,vGj),(.ret,vE6)],(Unit⊕Bool),fun k d=>yR2 (LR k k) d,fun b x _ K=>match x with|.inl x=>K (.exit 0) (zN b vGj ((),()))|.inr x=>K .ret (zN b vE6 (((x,()),()),()))⟩
def yGl:zW:=⟨[],[(2,yCl)],[],true⟩
def vP3:zS prog 1000 0 25 (zQ (zR f192) 0) yCl:=lp (A:=yGl) yCl (fun d=>match d with|.inl d=>.inl ()|.inr d=>.inr d.1.1.1) yR2 LR QM (e1 H6) zF
def acb:=zI 192 [.c (.dat false zG),.c (.fn 193)] (.c .bool) (fun k d=>QL k d.1) (fun x=>(x,())) (fun d=>d.1)
def yT4:zD prog acb:=fA f192 yGl (e1 H6) (loops1 vP3)
def yOk:zE:=sp [(0,.c (.dat false zG)),(5,.c (.dat false zG)),sI 6,sI 7] []
def yYk:zE:=sp [(0,.c (.dat false zG))] []
def yV8 (f:qSb)(d:yOk.den):=f d.1.1.1 d.1.2.1.1 d.1.2.2.1.1 d.1.2.2.2.1.1
def qOo:zT:=⟨[yOk],[(.exit 0,yYk),(.ret,yQ4)],qLe,fun k d=>yV8 (Co k k) d,fun b x _ K=>match x with|.inl x=>K (.exit 0) (zN b yYk (((x,()),()),()))|.inr x=>K .ret (zN b yQ4 (((x,()),()),()))⟩
def yUa:zW:=⟨[],[(2,qOo)],[],false⟩
def acd:zS prog 1000 0 26 (zQ (zR f146) 0) qOo:=lp (A:=yUa) qOo (fun d=>match d with|.inl d=>.inl d.1.1.1|.inr d=>.inr d.1.1.1) yV8 Co Hu (e2 yx yT4) zF
def vJz:=zI 146 [.c (.dat false zG)] (.c .bool) (fun k d=>LQ k d.1) (fun x=>(x,())) (fun d=>d.1)
def vVm:zD prog vJz:=fA f146 yUa (e2 yx yT4) (loops1 acd)
def yKu:zE:=sp [(0,.c (.dat false .i)),sI 3,(6,.c (.dat false .i)),sI 7,sI 8] []
def yS2:zE:=sp [(0,.c (.dat false .i))] []
def vE2 (f:qS4)(d:yKu.den):=f d.1.1.1 d.1.2.1.1 d.1.2.2.1.1 d.1.2.2.2.1.1 d.1.2.2.2.2.1.1
def qJ2:zT:=⟨[yKu],[(.exit 0,yS2),(.ret,yQ4)],(AC⊕Bool),fun k d=>vE2 (LU k k) d,fun b x _ K=>match x with|.inl x=>K (.exit 0) (zN b yS2 (((x,()),()),()))|.inr x=>K .ret (zN b yQ4 (((x,()),()),()))⟩
def yJt:zW:=⟨[],[(3,qJ2)],[],true⟩
def ace:zS prog 1000 0 20 (zQ (zR f147) 0) qJ2:=lp (A:=yJt) qJ2 (fun d=>match d with|.inl d=>.inl d.1.1.1|.inr d=>.inr d.1.1.1) vE2 LU Hv e0 zF
def vMa:=zI 147 [.c (.dat false .i)] (.c .bool) (fun k d=>LS k d.1) (fun x=>(x,())) (fun d=>d.1)
def vX3:zD prog vMa:=fA f147 yJt e0 (loops1 ace)
def vVh:=zI 145 [.c (.dat false .i),.c .i] (.c .bool) (fun k d=>PG k d.1 d.2.1) (fun x=>(x,())) (fun d=>d.1)
def acf:zD prog vVh:=fA f145 n0 (e1 yN8) zF
def acg:=zI 143 [.agg vR,.ptr pJ] (.c .bool) (fun k d=>QO k (vV d) (ach d)) (fun x=>(x,())) (fun d=>d.1)
def vA2:zD prog acg:=fA f143 n0 (e3 qKa iF acf) zF
def yCx:zE:=sp [(0,.c (.dat false zG)),(1,.c (.lit (.fn 143 [1001000]))),sI 7,sI 8] [.robox zd]
def vBz (f:qUx)(d:yCx.den):=(tn (f d.1.1.1 d.1.2.2.1.1 d.1.2.2.2.1.1) d.2.1)
def qNc:zT:=⟨[yCx],[(.exit 0,vGj),(.ret,vDf)],(Unit⊕Int),fun k d=>vBz (Cp k k) d,fun b x _ K=>match x with|.inl x=>K (.exit 0) (zN b vGj ((),()))|.inr x=>K .ret (zN b vDf (((x,()),()),()))⟩
def yNm:zW:=⟨[],[(2,qNc)],[],false⟩
def vZi:zS prog 1000 0 19 (zQ (zR f166) 0) qNc:=lp (A:=yNm) qNc (fun d=>match d with|.inl d=>.inl ()|.inr d=>.inr d.1.1.1) vBz Cp Hw (e1 vA2) zF
def vY7:=zI 166 [.c (.dat false zG),.fn 143 [pJ]] (.c .i) (fun k d=>(MG (Zq k) d)) (fun x=>(x,())) (fun d=>d.1)
def vYe:zD prog vY7:=fA f166 yNm (e1 vA2) (loops1 vZi)
def vZy:=zI 148 [.c (.dat false zG),.fn 143 [pJ]] (.c .bool) (fun k d=>(MG (QN k) d)) (fun x=>(x,())) (fun d=>d.1)
def vY3:zD prog vZy:=fA f148 ⟨[],[],[],false⟩ (e1 vYe) zF
def aci:=zI 87 [.agg pJ] (.c .bool) (fun k d=>LV k (qQ d)) (fun x=>(x,())) (fun d=>d.1)
def yOb:zD prog aci:=fA f87 n0 (e3 vVm vX3 vY3) zF
def yYz:zE:=⟨[sP 2 0,sP 3 1,sO 5 2,(44,.c (.dat false qS)),sI 45,sI 46],[oB rr,oB zd,oA .i],[(5,none,.i,false)]⟩
def vBw:zE:=sp [sP 2 0,sP 3 1,sO 5 2] [oB rr,oB zd,oA .i]
def vA6 (f:qOw)(d:yYz.den):=f d.1.2.2.2.1.1 d.1.2.2.2.2.1.1 d.1.2.2.2.2.2.1.1 (yR d.2.1) (qQ d.2.2.1) d.2.2.2.1
def yB0:zT:=⟨[yYz],[(.exit 0,vBw)],yCj,fun k d=>vA6 (HB k k) d,fun b x _ K=>K (.exit 0) (zN b vBw (((),(),(),()),((jI x.1 ()),(vY x.2.1 ()),x.2.2,())))⟩
def yHm:zW:=⟨[],[(5,yB0)],[],true⟩
def vXn:zS prog 1000 0 92 (zQ (zR f38) 0) yB0:=lp (A:=yHm) yB0 (fun d=>((yR d.2.1),(qQ d.2.2.1),d.2.2.2.1)) vA6 HB HC (e6 iF RF vC1 yOb Rx Rz) zF
def vSj:=zI 38 [.agg kk,.agg pJ] (.c .bool) (fun k d=>LZ k (yR d) (rq d)) (fun x=>(x,())) (fun d=>d.1)
def yGb:zD prog vSj:=fA f38 yHm (e6 iF RF vC1 yOb Rx Rz) (loops1 vXn)
def vFo:zE:=⟨[sP 1 0,sI 2,sP 3 3,(12,.c .bool),sP 13 4,sP 17 5,(72,.c (.dat true (.sl (.int .u8)))),sI 73,sI 74],[oB vGm,oA (.int .u8),oA (.int .u8),oB Ig,oB [.lit (.ptr 1001000 0),.i,.i,.i,.bool],oB jb],[(17,some 1,.bool,true),(17,some 2,.bool,true),(17,some 3,.bool,true),(17,some 4,.bool,true),(17,some 5,.bool,true),(17,some 6,.bool,true),(17,some 7,.bool,true),(17,some 8,.bool,true)]⟩
def yHb:zE:=sp [sP 1 0,sI 2,sP 3 3,(12,.c .bool),sP 13 4,sP 17 5] [oB vGm,oA (.int .u8),oA (.int .u8),oB Ig,oB [.lit (.ptr 1001000 0),.i,.i,.i,.bool],oB jb]
def yUd (f:yBu)(d:vFo.den):=f d.1.2.1.1 d.1.2.2.2.1.1 d.1.2.2.2.2.2.2.1.1 d.1.2.2.2.2.2.2.2.1.1 d.1.2.2.2.2.2.2.2.2.1.1 (lJ d.2.1) d.2.2.1 d.2.2.2.1 (yR d.2.2.2.2.1) (wS d.2.2.2.2.2.1) (qQ d.2.2.2.2.2.2.1)
def qL4:zT:=⟨[vFo],[(.exit 0,yHb)],qOy,fun k d=>yUd (yn k k) d,fun b x _ K=>K (.exit 0) (zN b yHb (((),(x.1,()),(),(x.2.1,()),(),(),()),((CK x.2.2.1 ()),x.2.2.2.1,x.2.2.2.2.1,(jI x.2.2.2.2.2.1 ()),(fk x.2.2.2.2.2.2.1 ()),(vY x.2.2.2.2.2.2.2 ()),())))⟩
def yYh:zW:=⟨[],[(11,qL4)],[],true⟩
def vHi:zS prog 1000 2 112 (zQ (zR f10) 0) qL4:=lp (A:=yYh) qL4 (fun d=>(d.1.2.1.1,d.1.2.2.2.1.1,(lJ d.2.1),d.2.2.1,d.2.2.2.1,(yR d.2.2.2.2.1),(wS d.2.2.2.2.2.1),(qQ d.2.2.2.2.2.2.1))) yUd yn yo (e10 F7q qWl yPu CJ yTj yIu yC9 qMt RQ yGb) zF
def qXi:=We 10 [.agg MH,.ptr true lK,.c (.p .i)] (.tup [(false,[.link 1]),(false,yX)]) [jc,[.link 2,.i,.fro jB,.i,.i,.i,.i,.fro qS,.fro (.sl .i),.fro .i,.fro (.sl .i),.fro .i,.fro (.sl .i),.fro zG,.fro .i,.i,.bool,.i,.bool],[.link 0,.i,.i,.i,.bool]] 2 (.tup [(false,[.nilp]),(false,yX)]) [jc] 0 (fun k d=>fx k (yR d) (RP d) d.2.2.2.2.2.2.2.2.2.2.2.2.2.2.2.1) (fun x=>((),x.1,(iE x.2.1 ((),(jN x.2.2.1 ((),(fk x.2.2.2 ()))))))) (fun x=>((),x.1,(iE x.2 ()))) (fun d=>(d.2.1,(yIt d),(vSz d),(acj d))) (fun d=>(d.2.1,(yIt d)))
def qSl:zD prog qXi:=fN f10 yYh 2 (e10 F7q qWl yPu CJ yTj yIu yC9 qMt RQ yGb) (loops1 vHi)
def ySy:zE:=sp [sI 0,sI 1,sO 5 0,sI 6] [oA .i]
def yC2 (f:qSk)(d:ySy.den):=f d.1.1.1 d.1.2.1.1 d.1.2.2.2.1.1 d.2.1
def qJl:zT:=⟨[ySy],[(.exit 0,vEe)],AC,fun k d=>yC2 (RR k k) d,fun b x _ K=>K (.exit 0) (zN b vEe (((),()),(x,())))⟩
def yDx:zW:=⟨[],[(5,qJl)],[],false⟩
def vN3:zS prog 1000 0 25 (zQ (zR f43) 0) qJl:=lp (A:=yDx) qJl (fun d=>d.2.1) yC2 RR yEu e0 zF
def ack:=zI 43 [.c .i,.c .i] (.c (.own .i)) (fun k d=>qLn k d.1 d.2.1) (fun x=>(x,())) (fun d=>d.1)
def MI:zD prog ack:=fA f43 yDx e0 (loops1 vN3)
def yI8:zE:=⟨[sI 0,sI 1,sO 5 0,sI 6],[.mat],[(5,none,(.sl .i),true)]⟩
def yFu (f:qZj)(d:yI8.den):=f d.1.1.1 d.1.2.1.1 d.1.2.2.2.1.1 d.2.1
def qKp:zT:=⟨[yI8],[(.exit 0,yZs)],EQ,fun k d=>yFu (RT k k) d,fun b x _ K=>K (.exit 0) (zN b yZs (((),()),(x,())))⟩
def yEk:zW:=⟨[22,23],[(5,qKp)],[],false⟩
def vS6:zS prog 1000 0 25 (zQ (zR f42) 0) qKp:=lp (A:=yEk) qKp (fun d=>d.2.1) yFu RT yHw (e1 MI) zF
def vIc:=zI 42 [.c .i,.c .i] (.c (.mat)) (fun k d=>yCc k d.1 d.2.1) (fun x=>(x,())) (fun d=>d.1)
def qTb:zD prog vIc:=fA f42 yEk (e1 MI) (loops1 vS6)
def yO0:zE:=⟨[sP 1 0,sP 2 1,sI 3,sP 4 2,sI 5],[oB rr,oB jX,oB Rc,oA qS,.mat,oA .i,.mat,oA .i],[(4,some 5,.i,false)]⟩
def yQ5 (f:yCh)(d:yO0.den):=f d.1.2.2.1.1 d.1.2.2.2.2.1.1 (yR d.2.1) (d.2.2.1.1,d.2.2.1.2.1,d.2.2.1.2.2.1) (d.2.2.2.1.1,d.2.2.2.1.2.1,d.2.2.2.1.2.2.1) d.2.2.2.2.1 d.2.2.2.2.2.1 d.2.2.2.2.2.2.1 d.2.2.2.2.2.2.2.1 d.2.2.2.2.2.2.2.2.1
def RU:zT:=⟨[yO0],[(.exit 0,yEe)],qNx,fun k d=>yQ5 (qQl k k) d,fun b x _ K=>K (.exit 0) (zN b yEe (((),(),(x.1,()),(),()),((jI x.2.1 ()),(x.2.2.1.1,x.2.2.1.2.1,x.2.2.1.2.2,()),(x.2.2.2.1.1,x.2.2.2.1.2.1,x.2.2.2.1.2.2,()),x.2.2.2.2.1,x.2.2.2.2.2.1,x.2.2.2.2.2.2.1,x.2.2.2.2.2.2.2.1,x.2.2.2.2.2.2.2.2,())))⟩
def vGh:zE:=⟨[sP 1 0,sP 2 1,sI 3,sP 4 2,sI 6],[oB rr,oB jX,oB yXr,oA qS,.mat,oA .i,.mat,oA .i,.mat],[(4,some 6,(.sl .i),true)]⟩
def yIr (f:qVf)(d:vGh.den):=f d.1.2.2.1.1 d.1.2.2.2.2.1.1 (yR d.2.1) (d.2.2.1.1,d.2.2.1.2.1,d.2.2.1.2.2.1) (d.2.2.2.1.1,d.2.2.2.1.2.1,d.2.2.2.1.2.2.1) d.2.2.2.2.1 d.2.2.2.2.2.1 d.2.2.2.2.2.2.1 d.2.2.2.2.2.2.2.1 d.2.2.2.2.2.2.2.2.1 d.2.2.2.2.2.2.2.2.2.1
def RV:zT:=⟨[vGh],[(.exit 2,vCm)],qO0,fun k d=>yIr (qOp k k) d,fun b x _ K=>K (.exit 2) (zN b vCm (((),(),()),((x.1.1,x.1.2.1,x.1.2.2,()),(x.2.1.1,x.2.1.2.1,x.2.1.2.2,()),x.2.2.1,x.2.2.2.1,x.2.2.2.2.1,x.2.2.2.2.2.1,x.2.2.2.2.2.2.1,x.2.2.2.2.2.2.2,())))⟩
def qPf:zW:=⟨[48,49],[(4,RU),(8,RV)],[],true⟩
def vUp:zS prog 1000 0 52 (zQ (zR f11) 0) RU:=lp (A:=qPf) RU (fun d=>(d.1.2.2.1.1,(yR d.2.1),(d.2.2.1.1,d.2.2.1.2.1,d.2.2.1.2.2.1),(d.2.2.2.1.1,d.2.2.2.1.2.1,d.2.2.2.1.2.2.1),d.2.2.2.2.1,d.2.2.2.2.2.1,d.2.2.2.2.2.2.1,d.2.2.2.2.2.2.2.1,d.2.2.2.2.2.2.2.2.1)) yQ5 qQl yF1 (e2 qTb MI) zF
def vHf:zS prog 1000 0 52 (zQ (zR f11) 1) RV:=lp (A:=qPf) RV (fun d=>((d.2.1.1,d.2.1.2.1,d.2.1.2.2.1),(d.2.2.1.1,d.2.2.1.2.1,d.2.2.1.2.2.1),d.2.2.2.1,d.2.2.2.2.1,d.2.2.2.2.2.1,d.2.2.2.2.2.2.1,d.2.2.2.2.2.2.2.1,d.2.2.2.2.2.2.2.2.1)) yIr qOp yXf (e2 qTb MI) zF
def qNa:=zI 11 [.agg kk] (.agg qP8) (fun k d=>Z9 k (yR d)) (fun x=>(vY x ())) (fun d=>(qQ d))
def vQl:zD prog qNa:=fA f11 qPf (e2 qTb MI) (nh (n:=2) (by kernel_rfl) fun i hi=>match i,hi with|0,_=>⟨RU,by kernel_rfl,vUp⟩|1,_=>⟨RV,by kernel_rfl,vHf⟩|i+2,hi=>absurd hi (by omega))
def qSt:=yH 12 [.ptr true lK,.agg [.i,.i]] (.tup []) [jc] 0 (fun k d=>RW k (fR d) (d.2.2.2.2.2.2.2.2.2.2.1,d.2.2.2.2.2.2.2.2.2.2.2.1)) (fun x=>(iE x ())) (fun d=>(fR d))
def qJj:zD prog qSt:=fX f12 n0 1 e0 zF
def qUk:=yH 16 [.chn [RX,RY,lK]] (.c .bool) [RZ,R0,jc] 0 (fun k d=>lg k (kl d) (R1 d) (R2 d)) (fun x=>(x.1,(),(jN x.2.1 ((),(fk x.2.2.1 (iE x.2.2.2 ())))))) (fun d=>(d.1,(qW1 d),(qJk d),(qQz d)))
def Q8:zD prog qUk:=fX f16 n0 0 e0 zF
def acm:=zI 45 [.c .i,.c .i] (.c (.own qZ)) (fun k d=>MJ k d.1 d.2.1) (fun x=>(x,())) (fun d=>d.1)
def yK2:zD prog acm:=fA f45 n0 e0 zF
def vJ2:=zI 100 [.agg vR] (.c (.own (.int .u8))) (fun k d=>Yt k (vV d)) (fun x=>(x,())) (fun d=>d.1)
def vLs:zD prog vJ2:=fA f100 ⟨[1],[],[],true⟩ (e3 vDi Rn Rg) zF
def vZ1:=zI 47 [.agg CL] (.c (.own (.int .u8))) (fun k d=>Qa k (lJ d)) (fun x=>(x,())) (fun d=>d.1)
def acn:zD prog vZ1:=fA f47 n0 (e2 vLs Rg) zF
def vRt:=yH 99 [.chn [qKn,lK],.c (.p (.dat false (.int .u8)))] (.c .i) [[.link 1,.i,.i,.i,.bool],jc] 0 (fun k d=>L9 k (Ie d) (RP d) d.2.2.2.2.2.2.2.2.2.2.2.2.2.2.2.1) (fun x=>(x.1,(),(fk x.2.1 (iE x.2.2 ())))) (fun d=>(d.1,(qJx d),(qX9 d)))
def vZb:zD prog vRt:=fX f99 n0 0 (e3 vD1 yHp yUz) zF
def vUu:=yH 46 [.chn [RX,RY,lK],.c (.p (.dat false (.int .u8)))] (.c .i) [RZ,R0,jc] 0 (fun k d=>QY k (kl d) (R1 d) (R2 d) d.2.2.2.2.2.2.2.2.2.2.2.2.2.2.2.2.2.2.2.2.2.2.2.2.2.2.2.2.2.2.2.2.2.2.1) (fun x=>(x.1,(),(jN x.2.1 ((),(fk x.2.2.1 (iE x.2.2.2 ())))))) (fun d=>(d.1,(qW1 d),(qJk d),(qQz d)))
def vMq:zD prog vUu:=fX f46 n0 0 (e3 vZb CJ RQ) zF
def vUf:=yH 48 [.chn [qKn,lK]] (.c .i) [[.link 1,.i,.i,.i,.bool],jc] 0 (fun k d=>QZ k (Ie d) (RP d)) (fun x=>(x.1,(),(fk x.2.1 (iE x.2.2 ())))) (fun d=>(d.1,(qJx d),(qX9 d)))
def vMo:zD prog vUf:=fX f48 n0 0 e0 zF
def qS6:=yH 13 [.chn [RX,RY,lK],.c (.p .i),.c (.p (.dat false (.int .u8)))] (.c (.own qZ)) [RZ,R0,jc] 0 (fun k d=>Mj k (kl d) (R1 d) (R2 d) d.2.2.2.2.2.2.2.2.2.2.2.2.2.2.2.2.2.2.2.2.2.2.2.2.2.2.2.2.2.2.2.2.2.2.1 d.2.2.2.2.2.2.2.2.2.2.2.2.2.2.2.2.2.2.2.2.2.2.2.2.2.2.2.2.2.2.2.2.2.2.2.1) (fun x=>(x.1,(),(jN x.2.1 ((),(fk x.2.2.1 (iE x.2.2.2 ())))))) (fun d=>(d.1,(qW1 d),(qJk d),(qQz d)))
def qMs:zD prog qS6:=fX f13 n0 0 (e9 Q8 Mx yK2 qMt acn vMq vMo CJ RQ) zF
def yIl:zE:=sp [(0,.c (.dat false (.int .u8))),(3,.c (.int .u64)),sI 4] []
def yNi:zE:=sp [(3,.c (.int .u64))] []
def yQ9 (f:AC→Int→Int→Option Int)(d:yIl.den):=f d.1.1.1 d.1.2.1.1 d.1.2.2.1.1
def yBb:zT:=⟨[yIl],[(.exit 0,yNi)],Int,fun k d=>yQ9 (JL k k) d,fun b x _ K=>K (.exit 0) (zN b yNi (((x,()),()),()))⟩
def vC3:zW:=⟨[],[(3,yBb)],[],true⟩
def vVr:zS prog 1000 0 19 (zQ (zR f102) 0) yBb:=lp (A:=vC3) yBb (fun d=>d.1.1.1) yQ9 JL Oy e0 zF
def aco:=zI 102 [.c (.dat false (.int .u8))] (.c .i) (fun k d=>JK k d.1) (fun x=>(x,())) (fun d=>d.1)
def qYw:zD prog aco:=fA f102 vC3 e0 (loops1 vVr)
def yGu:zE:=⟨[(0,.c (.dat false (.int .u8))),sO 4 0,sI 5],[oA .i],[(4,none,.i,false)]⟩
def vFr (f:qXm)(d:yGu.den):=f d.1.1.1 d.1.2.2.1.1 d.2.1
def qK1:zT:=⟨[yGu],[(.exit 0,yGh)],AC,fun k d=>vFr (Bo k k) d,fun b x _ K=>K (.exit 0) (zN b yGh (((),()),(x,())))⟩
def yXt:zW:=⟨[],[(5,qK1)],[],true⟩
def acp:zS prog 1000 0 26 (zQ (zR f49) 0) qK1:=lp (A:=yXt) qK1 (fun d=>d.2.1) vFr Bo Et (e1 qYw) zF
def vUh:=zI 49 [.c (.dat false (.int .u8))] (.tup [(false,[.own .i]),(false,yX)]) (fun k d=>JM k d.1) (fun x=>(x.1,x.2,())) (fun d=>(d.1,d.2.1))
def qX7:zD prog vUh:=fA f49 yXt (e1 qYw) (loops1 acp)
def vKh:=zI 50 [.c .i] (.c .i) (fun k d=>Bp k d.1) (fun x=>(x,())) (fun d=>d.1)
def MK:zD prog vKh:=fA f50 n0 e0 zF
def yL3:zE:=sp [sP 2 0,sP 4 1,sO 5 2,sI 7] [oB wE,oB wE,oA .i]
def yIa:zE:=sp [sP 2 0,sP 4 1] [oB wE,oB wE]
def yPn (f:yBk)(d:yL3.den):=f d.1.2.2.2.1.1 (vV d.2.1) (vV d.2.2.1) d.2.2.2.1
def yBe:zT:=⟨[yL3],[(.exit 0,yIa)],qUa,fun k d=>yPn (OC k k) d,fun b x _ K=>K (.exit 0) (zN b yIa (((),(),()),((gi x.1 ()),(gi x.2 ()),())))⟩
def yZa:zW:=⟨[],[(8,yBe)],[],true⟩
def vXo:zS prog 1000 0 48 (zQ (zR f14) 0) yBe:=lp (A:=yZa) yBe (fun d=>((vV d.2.1),(vV d.2.2.1))) yPn OC yKc (e2 qX7 MK) zF
def qXy:=zI 14 [.c (.dat false (.int .u8))] (.tup [(true,pI),(false,yX)]) (fun k d=>JN k d.1) (fun x=>(gi x.1 (x.2,()))) (fun d=>((vV d),d.2.2.2.2.2.2.2.1))
def vMs:zD prog qXy:=fA f14 yZa (e2 qX7 MK) (loops1 vXo)
def vYt:=zI 103 [.c .i] (.c .bool) (fun k d=>QI k d.1) (fun x=>(x,())) (fun d=>d.1)
def acq:zD prog vYt:=fA f103 n0 e0 zF
def yXo:zE:=sp [sP 1 0,sI 3,sI 4] [oB wE]
def yF4 (f:yCb)(d:yXo.den):=f d.1.2.1.1 d.1.2.2.1.1 (vV d.2.1)
def qPj:zT:=⟨[yXo],[(.exit 0,vC7),(.ret,yQ4)],(Int⊕Bool),fun k d=>yF4 (Ho k k) d,fun b x _ K=>match x with|.inl x=>K (.exit 0) (zN b vC7 (((x,()),()),()))|.inr x=>K .ret (zN b yQ4 (((x,()),()),()))⟩
def yOh:zW:=⟨[],[(3,qPj)],[],true⟩
def acr:zS prog 1000 0 21 (zQ (zR f65) 0) qPj:=lp (A:=yOh) qPj (fun d=>match d with|.inl d=>.inl d.1.1.1|.inr d=>.inr d.1.1.1) yF4 Ho Zg (e1 MK) zF
def vIk:=zI 65 [.agg vR] (.c .bool) (fun k d=>Cg k (vV d)) (fun x=>(x,())) (fun d=>d.1)
def yXz:zD prog vIk:=fA f65 yOh (e1 MK) (loops1 acr)
def vS3:=zI 104 [.c .i] (.c .bool) (fun k d=>QJ k d.1) (fun x=>(x,())) (fun d=>d.1)
def vWe:zD prog vS3:=fA f104 n0 e0 zF
def vRm:=zI 51 [.agg kk,.agg CL] (.c .bool) (fun k d=>Ch k (yR d) (vSo d)) (fun x=>(x,())) (fun d=>d.1)
def vM6:zD prog vRm:=fA f51 n0 (e3 acq yXz vWe) zF
def yO6:zE:=⟨[(0,.c (.dat false zG)),sI 1,sO 5 0,sI 6],[oA zG],[(5,none,zG,false)]⟩
def yEo (f:qNo)(d:yO6.den):=f d.1.1.1 d.1.2.1.1 d.1.2.2.2.1.1 d.2.1
def yCf:zT:=⟨[yO6],[(.exit 0,yKf)],qNg,fun k d=>yEo (KC k k) d,fun b x _ K=>K (.exit 0) (zN b yKf (((),()),(x,())))⟩
def yDy:zW:=⟨[],[(3,yCf)],[],false⟩
def vOc:zS prog 1000 0 28 (zQ (zR f52) 0) yCf:=lp (A:=yDy) yCf (fun d=>d.2.1) yEo KC FB e0 zF
def qSh:=zI 52 [.c (.dat false zG),.c .i] (.c (.own zG)) (fun k d=>uE k d.1 d.2.1) (fun x=>(x,())) (fun d=>d.1)
def ze:zD prog qSh:=fA f52 yDy e0 (loops1 vOc)
def yUq:zE:=sp [(1,.c (.dat false .i)),sP 4 0,sP 5 1,sI 6] [oB wE,oB wE]
def yOi:zE:=sp [sP 4 0,sP 5 1] [oB wE,oB wE]
def yV4 (f:qNq)(d:yUq.den):=(mE (mE (f d.1.1.1 d.1.2.2.2.1.1) d.2.1) d.2.2.1)
def yAf:zT:=⟨[yUq],[(.exit 0,yOi)],qPp,fun k d=>yV4 (R3 k k) d,fun b x _ K=>K (.exit 0) (zN b yOi (((),(),()),((ki x ()),(yUl x ()),())))⟩
def vCa:zW:=⟨[],[(3,yAf)],[],false⟩
def vVx:zS prog 1000 0 27 (zQ (zR f24) 0) yAf:=lp (A:=vCa) yAf (fun d=>(ki d.2.1 (vV d.2.2.1))) yV4 R3 vF0 e0 zF
def vU5:=zI 24 [.c .i,.c (.dat false .i)] (.agg pI) (fun k d=>fQ k d.1 d.2.1) (fun x=>(gi x ())) (fun d=>(vV d))
def vl:zD prog vU5:=fA f24 vCa e0 (loops1 vVx)
def vPt:=zI 105 [.agg kk,.c .i] (.c .bool) (fun k d=>QG k (yR d) d.2.2.2.2.2.1) (fun x=>(x,())) (fun d=>d.1)
def R4:zD prog vPt:=fA f105 n0 e0 zF
def vM2:=zI 106 [.agg vR,.c .i] (.c .bool) (fun k d=>(mD (Zd k) d)) (fun x=>(x,())) (fun d=>d.1)
def R5:zD prog vM2:=fA f106 ⟨[],[],[],false⟩ e0 zF
def yEm:zE:=sp [(0,.c (.dat false zG)),sI 1,sI 5] []
def yQk (f:qT7)(d:yEm.den):=f d.1.1.1 d.1.2.1.1 d.1.2.2.1.1
def yB5:zT:=⟨[yEm],[(.exit 0,vGj),(.ret,vDf)],(Unit⊕Int),fun k d=>yQk (FI k k) d,fun b x _ K=>match x with|.inl x=>K (.exit 0) (zN b vGj ((),()))|.inr x=>K .ret (zN b vDf (((x,()),()),()))⟩
def yX0:zW:=⟨[],[(2,yB5)],[],false⟩
def vWw:zS prog 1000 0 20 (zQ (zR f56) 0) yB5:=lp (A:=yX0) yB5 (fun d=>match d with|.inl d=>.inl ()|.inr d=>.inr d.1.1.1) yQk FI FJ e0 zF
def acs:=zI 56 [.c (.dat false zG),.c .i] (.c .i) (fun k d=>nq k d.1 d.2.1) (fun x=>(x,())) (fun d=>d.1)
def R6:zD prog acs:=fA f56 yX0 e0 (loops1 vWw)
def vPp:=zI 107 [.c (.dat true zG),.c .i] (.tup [(false,[.fro zG]),(true,pI),(false,yX)]) (fun k d=>oC k d.1 d.2.1) (fun x=>(Rt x ())) (fun d=>(Ru d))
def mF:zD prog vPp:=fA f107 ⟨[],[],[],false⟩ (e1 R6) zF
def acu:=zI 108 [.agg kk,.c .i] (.c .bool) (fun k d=>LM k (yR d) d.2.2.2.2.2.1) (fun x=>(x,())) (fun d=>d.1)
def R7:zD prog acu:=fA f108 n0 e0 zF
def vHz:=zI 260 [.agg vR,.c .i] (.c .bool) (fun k d=>(mD (Xo k) d)) (fun x=>(x,())) (fun d=>d.1)
def yDb:zD prog vHz:=fA f260 ⟨[],[],[],false⟩ e0 zF
def yZe (f:qNo)(d:yO6.den):=f d.1.1.1 d.1.2.1.1 d.1.2.2.2.1.1 d.2.1
def qQo:zT:=⟨[yO6],[(.exit 0,yKf)],qNg,fun k d=>yZe (KB k k) d,fun b x _ K=>K (.exit 0) (zN b yKf (((),()),(x,())))⟩
def yTg:zW:=⟨[],[(3,qQo)],[],false⟩
def acv:zS prog 1000 0 27 (zQ (zR f227) 0) qQo:=lp (A:=yTg) qQo (fun d=>d.2.1) yZe KB FA (e1 yDb) zF
def qTl:=zI 227 [.c (.dat false zG),.c .i] (.c (.own zG)) (fun k d=>Fz k d.1 d.2.1) (fun x=>(x,())) (fun d=>d.1)
def CO:zD prog qTl:=fA f227 yTg (e1 yDb) (loops1 acv)
def yG5:zE:=sp [sO 5 0,sO 6 1,sI 7,sO 8 2,(9,.c .bool),sI 10] [oA zG,oA zG,oA zG]
def yTq:zE:=sp [sO 5 0,sO 6 1,sI 7,sO 8 2,(9,.c .bool)] [oA zG,oA zG,oA zG]
def yFs (f:qMh)(d:yG5.den):=f d.1.2.2.1.1 d.1.2.2.2.2.1.1 d.1.2.2.2.2.2.1.1 d.2.1 d.2.2.1 d.2.2.2.1
def qNb:zT:=⟨[yG5],[(.exit 2,yTq)],qPb,fun k d=>yFs (FC k k) d,fun b x _ K=>K (.exit 2) (zN b yTq (((),(),(x.1,()),(),(x.2.1,()),()),(x.2.2.1,x.2.2.2.1,x.2.2.2.2,())))⟩
def yV9:zE:=⟨[sO 5 0,sO 6 1,sI 7],[oA zG,oA zG],[(6,none,zG,false)]⟩
def vD7:zE:=sp [sO 6 0] [oA zG]
def vC8 (f:qNi)(d:yV9.den):=f d.1.2.2.1.1 d.2.1 d.2.2.1
def qZo:zT:=⟨[yV9],[(.exit 0,vD7)],qNg,fun k d=>vC8 (KE k k) d,fun b x _ K=>K (.exit 0) (zN b vD7 (((),()),(x,())))⟩
def acw:Env:=⟨prog,fun t=>[142].any (Nat.beq t),fK [qTl,qSh]⟩
def yBi:jU acw:=Oj (l:=[qTl,qSh]) (eqT:=fun t=>[142].any (Nat.beq t)) (TV (fun t h=>VG (p:=fun t=>prog.keyTypeAt 8 t&& !prog.eqGuardType prog.depth t) (l:=[142]) (List.forall_mem_cons.2 ⟨by kernel_rfl,List.forall_mem_nil _⟩) t h)) ic ⟨CO,ze,trivial⟩
def qM5:zW:=⟨[],[(9,qNb),(4,qZo)],[],false⟩
def vWf:zS prog 1000 0 61 (zQ (zQ (zR f285) 0) 0) qNb:=lp (A:=qM5) qNb (fun d=>(d.1.2.2.1.1,d.1.2.2.2.2.1.1,d.2.1,d.2.2.1,d.2.2.2.1)) yFs FC FD yBi zF
def acx:zS prog 1000 0 61 (zQ (zR f285) 0) qZo:=lp (A:=qM5) qZo (fun d=>d.2.1) vC8 KE FE yBi (loops1 vWf)
def vG9:=zI 285 [.c (.dat false zG),.c .i] (.c (.own zG)) (fun k d=>KD k d.1 d.2.1) (fun x=>(x,())) (fun d=>d.1)
def ML:zD prog vG9:=fA f285 qM5 yBi (loops1 acx)
def vYw:=zI 288 [.agg eH,.agg vR] (.c .bool) (fun k d=>(tn (WT k) d)) (fun x=>(x,())) (fun d=>d.1)
def yMe:zD prog vYw:=fA f288 ⟨[],[],[],false⟩ e0 zF
def yYb:zE:=sp [(1,.c (.dat false zG)),sP 2 0,sI 5] [oB jV]
def yGo:zE:=sp [(1,.c (.dat false zG))] []
def yJy (f:qU6)(d:yYb.den):=(vM (f d.1.1.1 d.1.2.2.1.1) d.2.1)
def qKs:zT:=⟨[yYb],[(.exit 0,yGo),(.ret,vE6)],qLe,fun k d=>yJy (Ki k k) d,fun b x _ K=>match x with|.inl x=>K (.exit 0) (zN b yGo (((x,()),()),()))|.inr x=>K .ret (zN b vE6 (((x,()),()),()))⟩
def yYu:zW:=⟨[],[(2,qKs)],[],false⟩
def vT2:zS prog 1000 0 22 (zQ (zR f261) 0) qKs:=lp (A:=yYu) qKs (fun d=>match d with|.inl d=>.inl d.1.1.1|.inr d=>.inr d.1.1.1) yJy Ki E1 (e1 yMe) zF
def acy:=zI 261 [.agg eH,.c (.dat false zG)] (.c .bool) (fun k d=>(lN (Kh k) d)) (fun x=>(x,())) (fun d=>d.1)
def R8:zD prog acy:=fA f261 yYu (e1 yMe) (loops1 vT2)
def yI7:zE:=⟨[(0,.c (.dat false (.sl .i))),sO 3 0,sI 4],[.mat],[(3,none,(.sl .i),true)]⟩
def yDi:zE:=sp [sO 3 0] [.mat]
def vAo (f:qTi)(d:yI7.den):=f d.1.1.1 d.1.2.2.1.1 d.2.1
def qRj:zT:=⟨[yI7],[(.exit 0,yDi)],EQ,fun k d=>vAo (J4 k k) d,fun b x _ K=>K (.exit 0) (zN b yDi (((),()),(x,())))⟩
def yXl:zW:=⟨[18,19],[(3,qRj)],[],false⟩
def vSc:zS prog 1000 0 21 (zQ (zR f219) 0) qRj:=lp (A:=yXl) qRj (fun d=>d.2.1) vAo J4 ES e0 zF
def acz:=zI 219 [.c (.dat false (.sl .i))] (.c (.mat)) (fun k d=>J5 k d.1) (fun x=>(x,())) (fun d=>d.1)
def vSk:zD prog acz:=fA f219 yXl e0 (loops1 vSc)
def vM9:=zI 177 [.agg eH] (.agg [.own qS,.mat,.own .i,.mat]) (fun k d=>(vM (pt k) d)) (fun x=>(fk x ())) (fun d=>(wS d))
def zg:zD prog vM9:=fA f177 ⟨[],[],[],false⟩ (e1 vSk) zF
def yRu:zE:=sp [(0,.c (.dat false zG)),sI 1,sI 6,sI 7,sI 8] []
def vA8:zE:=sp [sI 6,sI 7] []
def yN3 (f:qJg)(d:yRu.den):=f d.1.1.1 d.1.2.1.1 d.1.2.2.1.1 d.1.2.2.2.1.1 d.1.2.2.2.2.1.1
def qJ0:zT:=⟨[yRu],[(.exit 0,vA8)],wC,fun k d=>yN3 (Kl k k) d,fun b x _ K=>K (.exit 0) (zN b vA8 (((x.1,()),(x.2,()),()),()))⟩
def yPr:zW:=⟨[],[(3,qJ0)],[],false⟩
def vM8:zS prog 1000 0 46 (zQ (zR f289) 0) qJ0:=lp (A:=yPr) qJ0 (fun d=>(d.1.1.1,d.1.2.1.1)) yN3 Kl E6 e0 zF
def vS4:=zI 289 [.c (.dat false zG),.c .i] (.tup [(false,yX),(false,yX)]) (fun k d=>Kk k d.1 d.2.1) (fun x=>(x.1,x.2,())) (fun d=>(d.1,d.2.1))
def qJ8:zD prog vS4:=fA f289 yPr e0 (loops1 vM8)
def acA:=zI 263 [.c (.dat false zG),.c .i] (.c .i) (fun k d=>O7 k d.1 d.2.1) (fun x=>(x,())) (fun d=>d.1)
def qXb:zD prog acA:=fA f263 ⟨[],[],[],false⟩ (e1 qJ8) zF
def acB:=zI 262 [.agg oF,.c .i] (.c .i) (fun k d=>(vM (Km k) d)) (fun x=>(x,())) (fun d=>d.1)
def MM:zD prog acB:=fA f262 ⟨[],[],[],false⟩ e0 zF
def yXc:zE:=sp [(0,.c (.dat false zG)),sI 1,sI 2,sI 7,sI 8] []
def vGo:zE:=sp [sI 7] []
def yKx (f:yBa)(d:yXc.den):=f d.1.1.1 d.1.2.1.1 d.1.2.2.1.1 d.1.2.2.2.1.1 d.1.2.2.2.2.1.1
def qPl:zT:=⟨[yXc],[(.exit 0,vGo)],Int,fun k d=>yKx (Kj k k) d,fun b x _ K=>K (.exit 0) (zN b vGo (((x,()),()),()))⟩
def vD8:zW:=⟨[],[(3,qPl)],[],false⟩
def vQy:zS prog 1000 0 39 (zQ (zR f290) 0) qPl:=lp (A:=vD8) qPl (fun d=>d.1.1.1) yKx Kj E5 e0 zF
def vGw:=zI 290 [.c (.dat false zG),.c .i,.c .i] (.c .i) (fun k d=>xz k d.1 d.2.1 d.2.2.1) (fun x=>(x,())) (fun d=>d.1)
def qVy:zD prog vGw:=fA f290 vD8 e0 (loops1 vQy)
def vQs:=zI 264 [.c (.dat false zG),.c .i,.c .i] (.c .i) (fun k d=>O5 k d.1 d.2.1 d.2.2.1) (fun x=>(x,())) (fun d=>d.1)
def qSc:zD prog vQs:=fA f264 ⟨[],[],[],false⟩ (e1 qVy) zF
def yTb:zE:=sp [(0,.c (.dat false (.sl .i))),sI 1,sI 5] []
def yKp (f:qTy)(d:yTb.den):=f d.1.1.1 d.1.2.1.1 d.1.2.2.1.1
def qUo:zT:=⟨[yTb],[(.exit 0,vGj),(.ret,vE6)],(Unit⊕Bool),fun k d=>yKp (JW k k) d,fun b x _ K=>match x with|.inl x=>K (.exit 0) (zN b vGj ((),()))|.inr x=>K .ret (zN b vE6 (((x,()),()),()))⟩
def yRg:zW:=⟨[],[(4,qUo)],[],false⟩
def vZx:zS prog 1000 0 22 (zQ (zR f291) 0) qUo:=lp (A:=yRg) qUo (fun d=>match d with|.inl d=>.inl ()|.inr d=>.inr d.1.1.1) yKp JW EE e0 zF
def vR4:=zI 291 [.c (.dat false (.sl .i)),.c .i] (.c .bool) (fun k d=>JV k d.1 d.2.1) (fun x=>(x,())) (fun d=>d.1)
def yA1:zD prog vR4:=fA f291 yRg e0 (loops1 vZx)
def vK0:=zI 222 [.agg oF] (.c .bool) (fun k d=>JT k d.1 d.2.1 d.2.2.1) (fun x=>(x,())) (fun d=>d.1)
def R9:zD prog vK0:=fA f222 ⟨[],[],[],false⟩ e0 zF
def vTn:=zI 292 [.c .i] (.c .bool) (fun k d=>JU k d.1) (fun x=>(x,())) (fun d=>d.1)
def qOt:zD prog vTn:=fA f292 ⟨[],[],[],false⟩ e0 zF
def yTd:zE:=sp [sP 1 0,sI 3,sI 4,sI 5] [oB jV]
def yKm:zE:=sp [sP 1 0,sI 3,sI 4] [oB jV]
def yH1 (f:qUi)(d:yTd.den):=(vM (f d.1.2.1.1 d.1.2.2.1.1 d.1.2.2.2.1.1) d.2.1)
def qR6:zT:=⟨[yTd],[(.exit 2,yKm),(.ret,yQ4)],qTa,fun k d=>yH1 (EF k k) d,fun b x _ K=>match x with|.inl x=>K (.exit 2) (zN b yKm (((),(x.1,()),(x.2.1,()),()),((B8 x ()),())))|.inr x=>K .ret (zN b yQ4 (((x,()),()),()))⟩
def yG0 (f:qJ5)(d:yKm.den):=(vM (f d.1.2.1.1 d.1.2.2.1.1) d.2.1)
def qLv:zT:=⟨[yKm],[(.exit 0,vGj),(.ret,yQ4)],(Unit⊕Bool),fun k d=>yG0 (EH k k) d,fun b x _ K=>match x with|.inl x=>K (.exit 0) (zN b vGj ((),()))|.inr x=>K .ret (zN b yQ4 (((x,()),()),()))⟩
def qS8:zW:=⟨[],[(10,qR6),(5,qLv)],[],false⟩
def vXr:zS prog 1000 0 114 (zQ (zQ (zR f265) 0) 0) qR6:=lp (A:=qS8) qR6 (fun d=>match d with|.inl d=>.inl (d.1.2.1.1,d.1.2.2.1.1,(wS d.2.1))|.inr d=>.inr d.1.1.1) yH1 EF EG (e3 yA1 R9 qOt) zF
def acC:zS prog 1000 0 114 (zQ (zR f265) 0) qLv:=lp (A:=qS8) qLv (fun d=>match d with|.inl d=>.inl ()|.inr d=>.inr d.1.1.1) yG0 EH EI (e3 yA1 R9 qOt) (loops1 vXr)
def vO0:=zI 265 [.agg eH] (.c .bool) (fun k d=>(vM (ON k) d)) (fun x=>(x,())) (fun d=>d.1)
def qK9:zD prog vO0:=fA f265 qS8 (e3 yA1 R9 qOt) (loops1 acC)
def vAr:zE:=sp [(1,.c (.dat false zG)),sP 2 0,sP 4 1,sP 6 2,sI 7,sI 8] [oB wH,oB oG,oB tp,oA qS,.mat,oA .i,.mat]
def vE7:zE:=sp [(1,.c (.dat false zG)),sP 2 0,sP 4 1,sP 6 2,sI 7] [oB wH,oB oG,oB tp,oA qS,.mat,oA .i,.mat]
def vCx (f:qX3)(d:vAr.den):=(vM (f d.1.1.1 d.1.2.2.2.2.1.1 d.1.2.2.2.2.2.1.1) d.2.1) d.2.2.2.2.1 d.2.2.2.2.2.1 d.2.2.2.2.2.2.1 d.2.2.2.2.2.2.2.1
def qY5:zT:=⟨[vAr],[(.exit 2,vE7)],qWa,fun k d=>vCx (E7 k k) d,fun b x _ K=>K (.exit 2) (zN b vE7 (((x.1,()),(),(),(),(x.2.1,()),()),((Ro x ()),(),(),x.2.2.2.2.2.2.1,x.2.2.2.2.2.2.2.1,x.2.2.2.2.2.2.2.2.1,x.2.2.2.2.2.2.2.2.2,())))⟩
def yFi:zE:=sp [sP 2 0,sP 4 1,sP 6 2] [oB wH,oB oG,oB tp,oA qS,.mat,oA .i,.mat]
def vC0 (f:qWt)(d:vE7.den):=(vM (f d.1.1.1 d.1.2.2.2.2.1.1) d.2.1) d.2.2.2.2.1 d.2.2.2.2.2.1 d.2.2.2.2.2.2.1 d.2.2.2.2.2.2.2.1
def qQu:zT:=⟨[vE7],[(.exit 0,yFi)],qOs,fun k d=>vC0 (E9 k k) d,fun b x _ K=>K (.exit 0) (zN b yFi (((),(),(),()),((wA x ()),(),(),x.2.2.2.2.1,x.2.2.2.2.2.1,x.2.2.2.2.2.2.1,x.2.2.2.2.2.2.2,())))⟩
def qQj:zW:=⟨[],[(9,qY5),(5,qQu)],[],false⟩
def vJo:zS prog 1000 0 84 (zQ (zQ (zR f228) 0) 0) qY5:=lp (A:=qQj) qY5 (fun d=>(d.1.1.1,d.1.2.2.2.2.1.1,(wA d.2.1 (d.2.2.2.2.1,d.2.2.2.2.2.1,d.2.2.2.2.2.2.1,d.2.2.2.2.2.2.2.1)))) vCx E7 E8 (e6 R8 zg qXb MM qSc qK9) zF
def vOd:zS prog 1000 0 84 (zQ (zR f228) 0) qQu:=lp (A:=qQj) qQu (fun d=>(wA d.2.1 (d.2.2.2.2.1,d.2.2.2.2.2.1,d.2.2.2.2.2.2.1,d.2.2.2.2.2.2.2.1))) vC0 E9 Fa (e6 R8 zg qXb MM qSc qK9) (loops1 vJo)
def acD:=zI 228 [.agg lh,.c (.dat false zG)] (.tup [(true,nF),(false,yX)]) (fun k d=>(lN (Bz k) d)) (fun x=>(jI x ())) (fun d=>(yR d))
def qVx:zD prog acD:=fA f228 qQj (e6 R8 zg qXb MM qSc qK9) (loops1 vOd)
def yZ6:zE:=sp [sI 1,sP 2 0,sI 5,sI 6] [oB jV]
def yIb (f:qWk)(d:yZ6.den):=(vM (f d.1.1.1 d.1.2.2.1.1 d.1.2.2.2.1.1) d.2.1)
def qKx:zT:=⟨[yZ6],[(.exit 0,yH8)],Int,fun k d=>yIb (Fc k k) d,fun b x _ K=>K (.exit 0) (zN b yH8 (((x,()),()),()))⟩
def vFs:zW:=⟨[],[(3,qKx)],[],false⟩
def vL1:zS prog 1000 0 28 (zQ (zR f301) 0) qKx:=lp (A:=vFs) qKx (fun d=>d.1.1.1) yIb Fc Fe e0 zF
def vJ7:=zI 301 [.agg eH,.c .i] (.c .i) (fun k d=>(lN (Pb k) d)) (fun x=>(x,())) (fun d=>d.1)
def yNe:zD prog vJ7:=fA f301 vFs e0 (loops1 vL1)
def yV3:zE:=sp [(1,.c (.dat false zG)),sI 2,sP 3 0,sI 7,sI 8,sI 9,sI 10,sI 11] [oB jV]
def yZh:zE:=sp [sI 2,sP 3 0,sI 7,sI 8,sI 9,sI 10] [oB jV]
def ySl (f:qJy)(d:yV3.den):=(vM (f d.1.1.1 d.1.2.1.1 d.1.2.2.2.1.1 d.1.2.2.2.2.1.1 d.1.2.2.2.2.2.1.1 d.1.2.2.2.2.2.2.1.1 d.1.2.2.2.2.2.2.2.1.1) d.2.1)
def qZn:zT:=⟨[yV3],[(.exit 0,yZh),(.ret,yDo)],qW0,fun k d=>ySl (sS k k) d,fun b x _ K=>match x with|.inl x=>K (.exit 0) (zN b yZh (((x.1,()),(),(x.2.1,()),(x.2.2.1,()),(x.2.2.2.1,()),(x.2.2.2.2.1,()),()),((acE x ()),())))|.inr x=>K .ret (zN b yDo (((x,()),()),()))⟩
def yLw:zW:=⟨[],[(7,qZn)],[],false⟩
def vR8:zS prog 1000 0 130 (zQ (zR f287) 0) qZn:=lp (A:=yLw) qZn (fun d=>match d with|.inl d=>.inl (d.1.1.1,d.1.2.2.1.1,d.1.2.2.2.1.1,d.1.2.2.2.2.1.1,d.1.2.2.2.2.2.1.1,(wS d.2.1))|.inr d=>.inr d.1.1.1) ySl sS Fg (e4 qJ8 yNe qVy MM) zF
def vXx:=zI 287 [.agg eH,.c (.dat false zG),.c .i] (.c .bool) (fun k d=>(ko (Pf k) d)) (fun x=>(x,())) (fun d=>d.1)
def vB6:zD prog vXx:=fA f287 yLw (e4 qJ8 yNe qVy MM) (loops1 vR8)
def vAi:zE:=⟨[(1,.c (.dat false zG)),sP 2 0,sO 5 1,sI 6],[oB jV,oA .i],[(5,none,.i,false)]⟩
def vBa (f:qSq)(d:vAi.den):=(vM (f d.1.1.1 d.1.2.2.2.1.1) d.2.1) d.2.2.1
def qKr:zT:=⟨[vAi],[(.exit 0,vEe)],AC,fun k d=>vBa (uC k k) d,fun b x _ K=>K (.exit 0) (zN b vEe (((),()),(x,())))⟩
def yV0:zW:=⟨[],[(3,qKr)],[],false⟩
def vNp:zS prog 1000 0 23 (zQ (zR f259) 0) qKr:=lp (A:=yV0) qKr (fun d=>d.2.1) vBa uC sU (e1 vB6) zF
def vX7:=zI 259 [.agg eH,.c (.dat false zG)] (.c (.own .i)) (fun k d=>(lN (uB k) d)) (fun x=>(x,())) (fun d=>d.1)
def MN:zD prog vX7:=fA f259 yV0 (e1 vB6) (loops1 vNp)
def acF:=zI 286 [.agg eH,.c (.dat false zG)] (.c .bool) (fun k d=>(lN (Ko k) d)) (fun x=>(x,())) (fun d=>d.1)
def vR0:zD prog acF:=fA f286 ⟨[],[],[],false⟩ (e2 R8 MN) zF
def vX6:=zI 257 [.agg lh,.c (.dat false zG)] (.tup [(true,nF),(false,[.bool])]) (fun k d=>(lN (u9 k) d)) (fun x=>(jI x ())) (fun d=>(yR d))
def vm:zD prog vX6:=fA f257 ⟨[],[],[],false⟩ (e2 qVx vR0) zF
def ySw:zE:=sp [sP 3 0,sP 6 1,sO 8 2,sI 9] [oB wH,oB wE,oA zG]
def yZo:zE:=sp [sP 6 0] [oB wE]
def vAx:zE:=sp [sP 6 0,(7,.c .bool)] [oB wE]
def yC5 (f:qTk)(d:ySw.den):=(mE (vM (f d.1.2.2.2.1.1) d.2.1) d.2.2.1) d.2.2.2.1
def qTr:zT:=⟨[ySw],[(.exit 0,yZo),(.ret,vAx)],qY1,fun k d=>yC5 (LB k k) d,fun b x _ K=>match x with|.inl x=>K (.exit 0) (zN b yZo (((),()),((gi x ()),())))|.inr x=>K .ret (zN b vAx (((),(x.1,()),()),((yPm x ()),())))⟩
def yZg:zW:=⟨[],[(3,qTr)],[],false⟩
def vRj:zS prog 1000 0 37 (zQ (zR f256) 0) qTr:=lp (A:=yZg) qTr (fun d=>match d with|.inl d=>.inl (vV d.2.1)|.inr d=>.inr (d.1.2.1.1,(vV d.2.1))) yC5 LB G5 (e2 ML vm) zF
def vR2:=zI 256 [.agg lh,.c (.dat true zG),.c .i] (.tup [(true,pI),(false,[.bool])]) (fun k d=>(ko (Qz k) d)) (fun x=>(CK x ())) (fun d=>(lJ d))
def vFj:zD prog vR2:=fA f256 yZg (e2 ML vm) (loops1 vRj)
def yQ3:zE:=⟨[(1,.c (.dat true zG)),sI 2,sP 3 0,sP 6 1,sO 9 2],[oB wH,oB oG,oA zG],[(9,none,zG,false)]⟩
def yH5 (f:qJu)(d:yQ3.den):=(vM (f d.1.1.1 d.1.2.1.1) d.2.1) d.2.2.2.1
def qPh:zT:=⟨[yQ3],[(.ret,yK0)],qZg,fun k d=>yH5 (LC k k) d,fun b x _ K=>K .ret (zN b yK0 (((),(x.1,()),(),()),((iG x ()),x.2.2.2.2.2,())))⟩
def yDd:zW:=⟨[],[(2,qPh)],[],false⟩
def acG:zS prog 1000 0 43 (zQ (zR f223) 0) qPh:=lp (A:=yDd) qPh (fun d=>(d.1.2.1.1,(wA d.2.1 d.2.2.1))) yH5 LC G6 (e3 vFj vm mF) zF
def vVl:=zI 223 [.agg lh,.c (.dat true zG),.c .i] (.tup [(true,nF),(false,[.fro zG]),(false,[.own zG])]) (fun k d=>(ko (QA k) d)) (fun x=>(oH x ())) (fun d=>(nG d))
def vAk:zD prog vVl:=fA f223 yDd (e3 vFj vm mF) (loops1 acG)
def vE5:zE:=sp [sP 3 0,sP 6 1,sP 7 2,sO 9 3,sI 10,sI 11] [oB wH,oB wE,oB wE,oA zG]
def yY3:zE:=sp [sP 3 0,sP 6 1,sP 7 2,sO 9 3,sI 10] [oB wH,oB wE,oB wE,oA zG]
def yG3:zE:=sp [sP 6 0,sP 7 1,(8,.c .bool)] [oB wE,oB wE]
def yUm (f:qYp)(d:vE5.den):=(mE (mE (vM (f d.1.2.2.2.2.1.1 d.1.2.2.2.2.2.1.1) d.2.1) d.2.2.1) d.2.2.2.1) d.2.2.2.2.1
def yBd:zT:=⟨[vE5],[(.exit 2,yY3),(.ret,yG3)],yCu,fun k d=>yUm (LF k k) d,fun b x _ K=>match x with|.inl x=>K (.exit 2) (zN b yY3 (((),(),(),(),(x.1,()),()),((iG x ()),(acH x ()),(vXy x ()),x.2.2.2.2.2.2.2.2.2.2.2.2.2.2.2.2.2.2.2,())))|.inr x=>K .ret (zN b yG3 (((),(),(x.1,()),()),((qZe x ()),(yOs x ()),())))⟩
def yDn:zE:=sp [sP 6 0,sP 7 1] [oB wE,oB wE]
def yPz (f:qQh)(d:yY3.den):=(mE (mE (vM (f d.1.2.2.2.2.1.1) d.2.1) d.2.2.1) d.2.2.2.1) d.2.2.2.2.1
def qTn:zT:=⟨[yY3],[(.exit 0,yDn),(.ret,yG3)],qN7,fun k d=>yPz (LG k k) d,fun b x _ K=>match x with|.inl x=>K (.exit 0) (zN b yDn (((),(),()),((ki x ()),(yUl x ()),())))|.inr x=>K .ret (zN b yG3 (((),(),(x.1,()),()),((qZe x ()),(yOs x ()),())))⟩
def qXf:zW:=⟨[],[(6,yBd),(3,qTn)],[],false⟩
def vYf:zS prog 1000 0 71 (zQ (zQ (zR f258) 0) 0) yBd:=lp (A:=qXf) yBd (fun d=>match d with|.inl d=>.inl (d.1.2.2.2.2.1.1,(wA d.2.1 (ki d.2.2.1 (ki d.2.2.2.1 d.2.2.2.2.1))))|.inr d=>.inr (d.1.2.2.1.1,(ki d.2.1 (vV d.2.2.1)))) yUm LF G7 (e2 ML vm) zF
def acI:zS prog 1000 0 71 (zQ (zR f258) 0) qTn:=lp (A:=qXf) qTn (fun d=>match d with|.inl d=>.inl (ki d.2.1 (vV d.2.2.1))|.inr d=>.inr (d.1.2.2.1.1,(ki d.2.1 (vV d.2.2.1)))) yPz LG G8 (e2 ML vm) (loops1 vYf)
def vVn:=zI 258 [.agg lh,.c (.dat true zG),.c .i] (.tup [(true,pI),(true,pI),(false,[.bool])]) (fun k d=>(ko (QB k) d)) (fun x=>(yKy x ())) (fun d=>(ySv d))
def yZv:zD prog vVn:=fA f258 qXf (e2 ML vm) (loops1 acI)
def yUi (f:qJu)(d:yQ3.den):=(vM (f d.1.1.1 d.1.2.1.1) d.2.1) d.2.2.2.1
def qRf:zT:=⟨[yQ3],[(.ret,yK0)],qZg,fun k d=>yUi (LH k k) d,fun b x _ K=>K .ret (zN b yK0 (((),(x.1,()),(),()),((iG x ()),x.2.2.2.2.2,())))⟩
def yU0:zW:=⟨[],[(2,qRf)],[],false⟩
def vO2:zS prog 1000 0 55 (zQ (zR f224) 0) qRf:=lp (A:=yU0) qRf (fun d=>(d.1.2.1.1,(wA d.2.1 d.2.2.1))) yUi LH G9 (e3 yZv vm mF) zF
def acJ:=zI 224 [.agg lh,.c (.dat true zG),.c .i] (.tup [(true,nF),(false,[.fro zG]),(false,[.own zG])]) (fun k d=>(ko (QC k) d)) (fun x=>(oH x ())) (fun d=>(nG d))
def yFb:zD prog acJ:=fA f224 yU0 (e3 yZv vm mF) (loops1 vO2)
def yQt (f:qJu)(d:yQ3.den):=(vM (f d.1.1.1 d.1.2.1.1) d.2.1) d.2.2.2.1
def yAx:zT:=⟨[yQ3],[(.ret,yK0)],qZg,fun k d=>yQt (LK k k) d,fun b x _ K=>K .ret (zN b yK0 (((),(x.1,()),(),()),((iG x ()),x.2.2.2.2.2,())))⟩
def yQc:zW:=⟨[],[(2,yAx)],[],false⟩
def acK:zS prog 1000 0 45 (zQ (zR f181) 0) yAx:=lp (A:=yQc) yAx (fun d=>(d.1.2.1.1,(wA d.2.1 d.2.2.1))) yQt LK Hi (e2 vAk yFb) zF
def acL:=zI 181 [.agg lh,.c (.dat true zG),.c .i] (.tup [(true,nF),(false,[.fro zG]),(false,[.own zG])]) (fun k d=>(ko (LL k) d)) (fun x=>(oH x ())) (fun d=>(nG d))
def vM7:zD prog acL:=fA f181 yQc (e2 vAk yFb) (loops1 acK)
def yOj:zE:=⟨[(0,.c (.dat false zG)),(1,.c (.dat false .i)),sO 5 0,sI 6],[oA zG],[(5,none,zG,false)]⟩
def yE2 (f:qXv)(d:yOj.den):=f d.1.1.1 d.1.2.1.1 d.1.2.2.2.1.1 d.2.1
def qR9:zT:=⟨[yOj],[(.exit 0,yKf)],qNg,fun k d=>yE2 (Hb k k) d,fun b x _ K=>K (.exit 0) (zN b yKf (((),()),(x,())))⟩
def yR3:zW:=⟨[],[(3,qR9)],[],false⟩
def vJ8:zS prog 1000 0 60 (zQ (zR f226) 0) qR9:=lp (A:=yR3) qR9 (fun d=>d.2.1) yE2 Hb Hc (e1 ze) zF
def vZn:=zI 226 [.c (.dat false zG),.c (.dat false .i)] (.c (.own zG)) (fun k d=>Ha k d.1 d.2.1) (fun x=>(x,())) (fun d=>d.1)
def Ih:zD prog vZn:=fA f226 yR3 (e1 ze) (loops1 vJ8)
def yE0:zE:=⟨[sP 3 0,sO 8 1,sO 9 2,sI 10],[oB jV,oA zG,oA .i],[(9,none,.i,false)]⟩
def yMu:zE:=sp [sP 3 0,sO 8 1,sO 9 2] [oB jV,oA zG,oA .i]
def yG2 (f:qX4)(d:yE0.den):=(vM (f d.1.2.2.2.1.1) d.2.1) d.2.2.1 d.2.2.2.1
def Sa:zT:=⟨[yE0],[(.exit 0,yMu)],qSp,fun k d=>yG2 (Ce k k) d,fun b x _ K=>K (.exit 0) (zN b yMu (((),(),(),()),((wA x ()),x.2.2.2.2.1,x.2.2.2.2.2,())))⟩
def yM7:zE:=sp [sP 3 0,sO 8 1,sO 9 2,sI 11,sO 12 3,sI 13] [oB jV,oA zG,oA .i,oA .i]
def yRx:zE:=sp [sP 3 0,sO 8 1,sO 9 2,sI 11] [oB jV,oA zG,oA .i]
def vAq (f:qM1)(d:yM7.den):=(vM (f d.1.2.2.2.1.1 d.1.2.2.2.2.2.1.1) d.2.1) d.2.2.1 d.2.2.2.1 d.2.2.2.2.1
def qXs:zT:=⟨[yM7],[(.exit 4,yRx)],qVq,fun k d=>vAq (He k k) d,fun b x _ K=>K (.exit 4) (zN b yRx (((),(),(),(x.1,()),()),((iG x ()),x.2.2.2.2.2.1,x.2.2.2.2.2.2,())))⟩
def yKq (f:qOx)(d:yRx.den):=(vM (f d.1.2.2.2.1.1) d.2.1) d.2.2.1 d.2.2.2.1
def Sb:zT:=⟨[yRx],[(.ret,yGy)],(Int×AC),fun k d=>yKq (LI k k) d,fun b x _ K=>K .ret (zN b yGy (((),(x.1,()),()),(x.2,())))⟩
def Sc:zW:=⟨[],[(4,Sa),(13,qXs),(9,Sb)],[],false⟩
def acM:zS prog 1000 0 58 (zQ (zR f225) 0) Sa:=lp (A:=Sc) Sa (fun d=>(wA d.2.1 (d.2.2.1,d.2.2.2.1))) yG2 Ce Hd (e4 CO ze Ih MN) zF
def vZr:zS prog 1000 0 58 (zQ (zQ (zR f225) 1) 0) qXs:=lp (A:=Sc) qXs (fun d=>(d.1.2.2.2.1.1,(wA d.2.1 (d.2.2.1,d.2.2.2.1)))) vAq He Hf (e4 CO ze Ih MN) zF
def acN:zS prog 1000 0 58 (zQ (zR f225) 1) Sb:=lp (A:=Sc) Sb (fun d=>(d.1.2.1.1,d.2.1)) yKq LI Hg (e4 CO ze Ih MN) (loops1 vZr)
def vZ2:=zI 225 [.agg eH,.c (.dat false zG),.c .i] (.tup [(false,[.own .i]),(false,yX)]) (fun k d=>(ko (QD k) d)) (fun x=>(x.1,x.2,())) (fun d=>(d.1,d.2.1))
def yKw:zD prog vZ2:=fA f225 Sc (e4 CO ze Ih MN) (nh (n:=2) (by kernel_rfl) fun i hi=>match i,hi with|0,_=>⟨Sa,by kernel_rfl,acM⟩|1,_=>⟨Sb,by kernel_rfl,acN⟩|i+2,hi=>absurd hi (by omega))
def yFd:zE:=sp [(1,.c (.dat true zG)),sP 6 0,sO 11 1,sP 12 2,sI 14] [oB oG,oA zG,oB wH]
def vGc:zE:=sp [(1,.c (.dat true zG)),sP 6 0,sO 11 1,sP 12 2] [oB oG,oA zG,oB wH]
def vE9 (f:qX8)(d:yFd.den):=(vM (f d.1.1.1 d.1.2.2.2.2.1.1 d.2.2.1) d.2.2.2.1)
def qP4:zT:=⟨[yFd],[(.exit 0,vGc)],qNz,fun k d=>vE9 (Cf k k) d,fun b x _ K=>K (.exit 0) (zN b vGc (((x.1,()),(),(),(),()),((),x.2.1,(B8 x ()),())))⟩
def vA9:zW:=⟨[],[(7,qP4)],[],false⟩
def vQr:zS prog 1000 0 57 (zQ (zR f182) 0) qP4:=lp (A:=vA9) qP4 (fun d=>(d.1.1.1,d.2.2.1,(wS d.2.2.2.1))) vE9 Cf Hh (e5 yKw CO Ih qVx mF) zF
def vL8:=zI 182 [.agg lh,.c (.dat true zG),.c .i] (.tup [(true,nF),(false,[.fro zG]),(false,[.own zG])]) (fun k d=>(ko (LJ k) d)) (fun x=>(oH x ())) (fun d=>(nG d))
def vIm:zD prog vL8:=fA f182 vA9 (e5 yKw CO Ih qVx mF) (loops1 vQr)
def vHa:=zI 115 [.agg lh,.c (.dat true zG),.c .i,.c .bool] (.tup [(true,nF),(false,[.fro zG]),(false,[.own zG])]) (fun k d=>(mE (QE k) d)) (fun x=>(oH x ())) (fun d=>(nG d))
def acO:zD prog vHa:=fA f115 ⟨[],[],[],false⟩ (e2 vM7 vIm) zF
def ySr:zE:=⟨[(0,.c (.dat false zG)),sO 3 0,sI 4],[oA qZ],[(3,none,qZ,false)]⟩
def vCk (f:qW5)(d:ySr.den):=f d.1.1.1 d.1.2.2.1.1 d.2.1
def yBt:zT:=⟨[ySr],[(.exit 0,yLi)],qLt,fun k d=>vCk (K9 k k) d,fun b x _ K=>K (.exit 0) (zN b yLi (((),()),(x,())))⟩
def yIm:zW:=⟨[],[(3,yBt)],[],false⟩
def acP:zS prog 1000 0 39 (zQ (zR f116) 0) yBt:=lp (A:=yIm) yBt (fun d=>d.2.1) vCk K9 Gt (e1 vl) zF
def vW4:=zI 116 [.c (.dat false zG)] (.c (.own qZ)) (fun k d=>P2 k d.1) (fun x=>(x,())) (fun d=>d.1)
def vHk:zD prog vW4:=fA f116 yIm (e1 vl) (loops1 acP)
def vNb:=zI 55 [.agg yu,.c .bool] (.tup [(true,yv),(false,[.own qZ])]) (fun k d=>(MG (oD k) d)) (fun x=>(Ia x ())) (fun d=>(Ib d))
def MO:zD prog vNb:=fA f55 ⟨[],[],[],false⟩ (e2 acO vHk) zF
def yEp:zE:=⟨[sP 3 0,sP 4 1,sO 6 2,(7,.c (.dat true zG)),sI 8],[oB jb,oB jX,oA qZ],[(6,none,qZ,false)]⟩
def yMp:zE:=sp [sP 3 0,sP 4 1,sO 6 2] [oB jb,oB jX,oA qZ]
def vCo (f:qRq)(d:yEp.den):=f d.1.2.2.2.1.1 d.1.2.2.2.2.1.1 (qQ d.2.1) (d.2.2.1.1,d.2.2.1.2.1,d.2.2.1.2.2.1) d.2.2.2.1
def Sd:zT:=⟨[yEp],[(.exit 0,yMp)],qKh,fun k d=>vCo (yf k k) d,fun b x _ K=>K (.exit 0) (zN b yMp (((),(),(),()),((vY x.1 ()),(x.2.1.1,x.2.1.2.1,x.2.1.2.2,()),x.2.2,())))⟩
def yNv:zE:=sp [sP 3 0,sP 4 1,sO 6 2,sI 9] [oB jb,oB jX,oA qZ]
def vD0 (f:qUq)(d:yNv.den):=f d.1.2.2.2.1.1 (qQ d.2.1) (d.2.2.1.1,d.2.2.1.2.1,d.2.2.1.2.2.1) d.2.2.2.1
def Se:zT:=⟨[yNv],[(.exit 2,yMp)],qKh,fun k d=>vD0 (yg k k) d,fun b x _ K=>K (.exit 2) (zN b yMp (((),(),(),()),((vY x.1 ()),(x.2.1.1,x.2.1.2.1,x.2.1.2.2,()),x.2.2,())))⟩
def yQ0:zE:=⟨[sP 2 0,sP 3 1,sP 4 2,sO 6 3,(7,.c (.dat true zG)),sI 10],[oB Ig,oB jb,oB jX,oA qZ],[(6,none,qZ,false)]⟩
def yXg:zE:=sp [sP 2 0,sP 3 1,sP 4 2,sO 6 3] [oB Ig,oB jb,oB jX,oA qZ]
def yLd (f:qTh)(d:yQ0.den):=f d.1.2.2.2.2.1.1 d.1.2.2.2.2.2.1.1 (yR d.2.1) (qQ d.2.2.1) (d.2.2.2.1.1,d.2.2.2.1.2.1,d.2.2.2.1.2.2.1) d.2.2.2.2.1
def Sf:zT:=⟨[yQ0],[(.exit 4,yXg)],qQ7,fun k d=>yLd (vd k k) d,fun b x _ K=>K (.exit 4) (zN b yXg (((),(),(),(),()),((jI x.1 ()),(vY x.2.1 ()),(x.2.2.1.1,x.2.2.1.2.1,x.2.2.1.2.2,()),x.2.2.2,())))⟩
def Sg:zW:=⟨[],[(8,Sd),(12,Se),(18,Sf)],[],true⟩
def acQ:zS prog 1000 0 129 (zQ (zR f53) 0) Sd:=lp (A:=Sg) Sd (fun d=>((qQ d.2.1),(d.2.2.1.1,d.2.2.1.2.1,d.2.2.1.2.2.1),d.2.2.2.1)) vCo yf Hj (e6 R4 vl R5 mF R7 MO) zF
def acR:zS prog 1000 0 129 (zQ (zR f53) 1) Se:=lp (A:=Sg) Se (fun d=>((qQ d.2.1),(d.2.2.1.1,d.2.2.1.2.1,d.2.2.1.2.2.1),d.2.2.2.1)) vD0 yg Hk (e6 R4 vl R5 mF R7 MO) zF
def acS:zS prog 1000 0 129 (zQ (zR f53) 2) Sf:=lp (A:=Sg) Sf (fun d=>((yR d.2.1),(qQ d.2.2.1),(d.2.2.2.1.1,d.2.2.2.1.2.1,d.2.2.2.1.2.2.1),d.2.2.2.2.1)) yLd vd Hl (e6 R4 vl R5 mF R7 MO) zF
def vJv:=zI 53 [.agg MH,.agg yu] (.tup [(true,yv),(false,[.own qZ])]) (fun k d=>Hm k (yR d) (rq d)) (fun x=>(vY x.1 (x.2,()))) (fun d=>((qQ d),d.2.2.2.2.2.2.2.2.2.2.2.1))
def acT:zD prog vJv:=fA f53 Sg (e6 R4 vl R5 mF R7 MO) (nh (n:=3) (by kernel_rfl) fun i hi=>match i,hi with|0,_=>⟨Sd,by kernel_rfl,acQ⟩|1,_=>⟨Se,by kernel_rfl,acR⟩|2,_=>⟨Sf,by kernel_rfl,acS⟩|i+3,hi=>absurd hi (by omega))
def vW6:=zI 168 [.ptr yHj,.c .i] (.c .i) (fun k d=>uX k (RI d) d.2.2.2.2.2.2.2.2.2.2.2.2.2.2.2.2.2.2.2.1) (fun x=>(x,())) (fun d=>d.1)
def qQt:zD prog vW6:=fA f168 n0 e0 zF
def acU:=zI 175 [.agg kk,.c .i,.c .i] (.c .i) (fun k d=>G1 k (yR d) d.2.2.2.2.2.1 d.2.2.2.2.2.2.1) (fun x=>(x,())) (fun d=>d.1)
def yVm:zD prog acU:=fA f175 n0 e0 zF
def vNw:=zI 169 [.agg kk,.c .i,.agg vR] (.c .i) (fun k d=>Ca k (yR d) d.2.2.2.2.2.1 (qR3 d)) (fun x=>(x,())) (fun d=>d.1)
def vXj:zD prog vNw:=fA f169 n0 (e1 yVm) zF
def yPo:zE:=sp [(0,.c (.dat false .i)),sI 1,sI 5] []
def yOm (f:qWq)(d:yPo.den):=f d.1.1.1 d.1.2.1.1 d.1.2.2.1.1
def qKy:zT:=⟨[yPo],[(.exit 0,vGj),(.ret,vE6)],(Unit⊕Bool),fun k d=>yOm (GQ k k) d,fun b x _ K=>match x with|.inl x=>K (.exit 0) (zN b vGj ((),()))|.inr x=>K .ret (zN b vE6 (((x,()),()),()))⟩
def vE0:zW:=⟨[],[(2,qKy)],[],true⟩
def vQj:zS prog 1000 0 18 (zQ (zR f215) 0) qKy:=lp (A:=vE0) qKy (fun d=>match d with|.inl d=>.inl ()|.inr d=>.inr d.1.1.1) yOm GQ GR e0 zF
def vMy:=zI 215 [.c (.dat false .i),.c .i] (.c .bool) (fun k d=>Qp k d.1 d.2.1) (fun x=>(x,())) (fun d=>d.1)
def yUh:zD prog vMy:=fA f215 vE0 e0 (loops1 vQj)
def yIq:zE:=sp [(0,.c (.dat true .i)),sI 1,sI 6] []
def yQ2 (f:qMv)(d:yIq.den):=f d.1.1.1 d.1.2.1.1 d.1.2.2.1.1
def qRs:zT:=⟨[yIq],[(.exit 0,yIq)],(AC×Int×Int),fun k d=>yQ2 (Lu k k) d,fun b x _ K=>K (.exit 0) (zN b yIq (((x.1,()),(x.2.1,()),(x.2.2,()),()),()))⟩
def yVg:zW:=⟨[],[(6,qRs)],[],true⟩
def vMj:zS prog 1000 0 41 (zQ (zR f170) 0) qRs:=lp (A:=yVg) qRs (fun d=>(d.1.1.1,d.1.2.1.1,d.1.2.2.1.1)) yQ2 Lu GS (e1 yUh) zF
def acV:=zI 170 [.c (.dat true .i),.c .i] (.tup [(false,[.fro .i]),(false,yX)]) (fun k d=>B5 k d.1 d.2.1) (fun x=>(x.1,x.2,())) (fun d=>(d.1,d.2.1))
def acW:zD prog acV:=fA f170 yVg (e1 yUh) (loops1 vMj)
def vKi:=zI 218 [.agg vR,.agg vR] (.c .bool) (fun k d=>(H5 (Lm k) d)) (fun x=>(x,())) (fun d=>d.1)
def Sh:zD prog vKi:=fA f218 ⟨[],[],[],false⟩ e0 zF
def yFt:zE:=sp [(0,.c (.dat false zG)),sP 3 0,sI 5] [oB wE]
def yUe (f:qNf)(d:yFt.den):=(mE (f d.1.1.1 d.1.2.2.1.1) d.2.1)
def qZk:zT:=⟨[yFt],[(.exit 0,yH8)],Int,fun k d=>yUe (GN k k) d,fun b x _ K=>K (.exit 0) (zN b yH8 (((x,()),()),()))⟩
def yWk:zW:=⟨[],[(2,qZk)],[],false⟩
def vWb:zS prog 1000 0 21 (zQ (zR f217) 0) qZk:=lp (A:=yWk) qZk (fun d=>d.1.1.1) yUe GN GO (e1 Sh) zF
def acX:=zI 217 [.c (.dat false zG),.agg vR] (.c .i) (fun k d=>(mD (GM k) d)) (fun x=>(x,())) (fun d=>d.1)
def qRk:zD prog acX:=fA f217 yWk (e1 Sh) (loops1 vWb)
def vUw:=zI 216 [.c (.dat false zG),.c .i,.agg vR] (.c (.own zG)) (fun k d=>(RD (B3 k) d)) (fun x=>(x,())) (fun d=>d.1)
def MP:zD prog vUw:=fA f216 ⟨[],[],[],false⟩ e0 zF
def vZw:=zI 171 [.c (.dat true zG),.agg vR] (.tup [(false,[.fro zG]),(false,yX)]) (fun k d=>(mD (B4 k) d)) (fun x=>(x.1,x.2,())) (fun d=>(d.1,d.2.1))
def acY:zD prog vZw:=fA f171 ⟨[],[],[],false⟩ (e3 R6 qRk MP) zF
def acZ:=yH 109 [.ptr true CP,.agg MA] (.c .i) [CQ] 0 (fun k d=>Qv k (yE d d.2.2.2.2.2.2.2.2.2.2.2.2.2.2.2.2.2.2.1) (vPr d)) (fun x=>(x.1,(zc x.2 ()))) (fun d=>(d.1,(CR d)))
def vOg:zD prog acZ:=fX f109 n0 1 (e4 qQt vXj acW acY) zF
def ac0:=zI 172 [.ptr yHj,.c .i] (.tup [(true,pI),(false,[.bool])]) (fun k d=>yEl k (RI d) d.2.2.2.2.2.2.2.2.2.2.2.2.2.2.2.2.2.2.2.1) (fun x=>(gi x.1 (x.2,()))) (fun d=>((vV d),d.2.2.2.2.2.2.2.1))
def ac1:zD prog ac0:=fA f172 n0 (e1 R6) zF
def yTi:zE:=sp [(6,.c (.dat true zG)),sP 7 0,sI 9] [oB wE]
def yZf (f:qQb)(d:yTi.den):=f d.1.1.1 d.1.2.2.1.1 (vV d.2.1)
def qJp:zT:=⟨[yTi],[(.exit 0,yTi)],qY4,fun k d=>yZf (Lt k k) d,fun b x _ K=>K (.exit 0) (zN b yTi (((x.1,()),(),(x.2.1,()),()),((gi x.2.2 ()),())))⟩
def yMi:zW:=⟨[],[(5,qJp)],[],true⟩
def vM0:zS prog 1000 0 40 (zQ (zR f173) 0) qJp:=lp (A:=yMi) qJp (fun d=>(d.1.1.1,d.1.2.2.1.1,(vV d.2.1))) yZf Lt GP (e3 mF Sh MP) zF
def ac2:=zI 173 [.c (.dat true zG),.c .i] (.tup [(false,[.fro zG]),(false,yX)]) (fun k d=>Ls k d.1 d.2.1) (fun x=>(x.1,x.2,())) (fun d=>(d.1,d.2.1))
def ac3:zD prog ac2:=fA f173 yMi (e3 mF Sh MP) (loops1 vM0)
def vLa:=zI 174 [.c (.dat true zG),.c .i] (.tup [(false,[.fro zG]),(false,yX)]) (fun k d=>Lr k d.1 d.2.1) (fun x=>(x.1,x.2,())) (fun d=>(d.1,d.2.1))
def vPk:zD prog vLa:=fA f174 n0 (e3 mF qRk MP) zF
def vU1:=zI 176 [.c (.dat true zG),.c .i,.c .i] (.tup [(false,[.fro zG]),(false,yX)]) (fun k d=>Lq k d.1 d.2.1 d.2.2.1) (fun x=>(x.1,x.2,())) (fun d=>(d.1,d.2.1))
def ac4:zD prog vU1:=fA f176 n0 (e3 mF qRk MP) zF
def vV0:=yH 110 [.ptr true CP,.c (.p .i),.agg MA] (.c .i) [CQ] 0 (fun k d=>Cc k (yE d d.2.2.2.2.2.2.2.2.2.2.2.2.2.2.2.2.2.2.1) d.2.2.2.2.2.2.2.2.2.2.2.2.2.2.2.2.2.2.2.1 (vA1 d)) (fun x=>(x.1,(zc x.2 ()))) (fun d=>(d.1,(CR d)))
def vIq:zD prog vV0:=fX f110 n0 1 (e7 ac1 mF vl ac3 vPk yVm ac4) zF
def vOe:=yH 111 [.ptr true CP,.c (.p .i),.agg MA] (.c .i) [CQ] 0 (fun k d=>Cd k (yE d d.2.2.2.2.2.2.2.2.2.2.2.2.2.2.2.2.2.2.1) d.2.2.2.2.2.2.2.2.2.2.2.2.2.2.2.2.2.2.2.1 (vA1 d)) (fun x=>(x.1,(zc x.2 ()))) (fun d=>(d.1,(CR d)))
def ac5:zD prog vOe:=fX f111 n0 1 (e2 zg qQt) zF
def vG5:=zI 178 [.c (.dat false .i),.c .i,.c .i] (.c (.own .i)) (fun k d=>uY k d.1 d.2.1 d.2.2.1) (fun x=>(x,())) (fun d=>d.1)
def qL7:zD prog vG5:=fA f178 n0 e0 zF
def vZg:=zI 283 [.c .i] (.c (.own .i)) (fun k d=>Qh k d.1) (fun x=>(x,())) (fun d=>d.1)
def yAp:zD prog vZg:=fA f283 n0 e0 zF
def vEi:zE:=sp [sO 0 0,sI 3] [oA .i]
def yT7:zE:=sp [sO 0 0] [oA .i]
def vA4 (f:Int→AC→Option AC)(d:vEi.den):=f d.1.2.1.1 d.2.1
def qZa:zT:=⟨[vEi],[(.exit 0,yT7)],AC,fun k d=>vA4 (qM2 k k) d,fun b x _ K=>K (.exit 0) (zN b yT7 (((),()),(x,())))⟩
def yL2:zW:=⟨[],[(2,qZa)],[],true⟩
def vG0:zS prog 1000 0 35 (zQ (zR f284) 0) qZa:=lp (A:=yL2) qZa (fun d=>d.2.1) vA4 qM2 vDg e0 zF
def ac6:=yH 284 [.c (.own .i)] (.c (.own .i)) [] 0 (fun k d=>GG k d.1) (fun x=>(x,())) (fun d=>d.1)
def MQ:zD prog ac6:=fX f284 yL2 0 e0 (loops1 vG0)
def yJq:zE:=sp [sI 1,sO 5 0,sO 6 1,sI 7,sI 8] [oA .i,oA .i]
def yDw:zE:=sp [sI 1,sO 5 0,sO 6 1,sI 7] [oA .i,oA .i]
def yFh (f:qWv)(d:yJq.den):=f d.1.1.1 d.1.2.2.2.1.1 d.1.2.2.2.2.1.1 d.2.1 d.2.2.1
def qYn:zT:=⟨[yJq],[(.exit 2,yDw)],qQ0,fun k d=>yFh (qW3 k k) d,fun b x _ K=>K (.exit 2) (zN b yDw (((x.1,()),(),(),(x.2.1,()),()),(x.2.2.1,x.2.2.2,())))⟩
def vD2 (f:qPy)(d:yDw.den):=f d.1.1.1 d.1.2.2.2.1.1 d.2.1 d.2.2.1
def qPa:zT:=⟨[yDw],[(.exit 0,yKk)],AC,fun k d=>vD2 (Qf k k) d,fun b x _ K=>K (.exit 0) (zN b yKk (((),()),(x,())))⟩
def qU9:zW:=⟨[],[(7,qYn),(4,qPa)],[],true⟩
def ac7:zS prog 1000 0 47 (zQ (zQ (zR f253) 0) 0) qYn:=lp (A:=qU9) qYn (fun d=>(d.1.1.1,d.1.2.2.2.1.1,d.2.1,d.2.2.1)) yFh qW3 yMz (e2 yAp MQ) zF
def vHb:zS prog 1000 0 47 (zQ (zR f253) 0) qPa:=lp (A:=qU9) qPa (fun d=>d.2.1) vD2 Qf yNp (e2 yAp MQ) (loops1 ac7)
def vRl:=zI 253 [.c .i,.c .i] (.c (.own .i)) (fun k d=>Qg k d.1 d.2.1) (fun x=>(x,())) (fun d=>d.1)
def vMp:zD prog vRl:=fA f253 qU9 (e2 yAp MQ) (loops1 vHb)
def vCp:zE:=sp [sO 0 0,sI 1,sI 5] [oA .i]
def yYl (f:Int→Int→AC→Option AC)(d:vCp.den):=f d.1.2.1.1 d.1.2.2.1.1 d.2.1
def qZw:zT:=⟨[vCp],[(.exit 0,yT7)],AC,fun k d=>yYl (Qd k k) d,fun b x _ K=>K (.exit 0) (zN b yT7 (((),()),(x,())))⟩
def yHz:zW:=⟨[],[(2,qZw)],[],true⟩
def vHg:zS prog 1000 0 23 (zQ (zR f254) 0) qZw:=lp (A:=yHz) qZw (fun d=>d.2.1) yYl Qd yXn (e1 MQ) zF
def ac8:=yH 254 [.c (.own .i),.c (.p .i)] (.c (.own .i)) [] 0 (fun k d=>Qc k d.1 d.2.1) (fun x=>(x,())) (fun d=>d.1)
def vMg:zD prog ac8:=fX f254 yHz 0 (e1 MQ) (loops1 vHg)
def vGa:zE:=sp [sO 0 0,sI 1,sI 6,sI 7] [oA .i]
def yQ6 (f:qSk)(d:vGa.den):=f d.1.2.1.1 d.1.2.2.1.1 d.1.2.2.2.1.1 d.2.1
def Si:zT:=⟨[vGa],[(.exit 0,yT7)],AC,fun k d=>yQ6 (Lh k k) d,fun b x _ K=>K (.exit 0) (zN b yT7 (((),()),(x,())))⟩
def vF4:zE:=sp [sO 0 0,sI 9] [oA .i]
def yH2:zE:=sp [sI 4,(5,.c .bool)] []
def yY2 (f:yA5)(d:vF4.den):=f d.1.2.1.1 d.2.1
def Sj:zT:=⟨[vF4],[(.exit 2,yT7),(.ret,yH2)],(AC⊕fy),fun k d=>yY2 (GH k k) d,fun b x _ K=>match x with|.inl x=>K (.exit 2) (zN b yT7 (((),()),(x,())))|.inr x=>K .ret (zN b yH2 (((x.1,()),(x.2,()),()),()))⟩
def yBj:zW:=⟨[],[(3,Si),(9,Sj)],[],true⟩
def vSy:zS prog 1000 0 66 (zQ (zR f255) 0) Si:=lp (A:=yBj) Si (fun d=>d.2.1) yQ6 Lh yX7 e0 zF
def ac9:zS prog 1000 0 66 (zQ (zR f255) 1) Sj:=lp (A:=yBj) Sj (fun d=>match d with|.inl d=>.inl d.2.1|.inr d=>.inr (d.1.1.1,d.1.2.1.1)) yY2 GH yZi e0 zF
def vIr:=yH 255 [.c (.own .i),.c (.p .i)] (.tup [(false,yX),(false,[.bool])]) [] 0 (fun k d=>Qe k d.1 d.2.1) (fun x=>(x.1,x.2,())) (fun d=>(d.1,d.2.1))
def vXs:zD prog vIr:=fX f255 yBj 0 e0 (nh (n:=2) (by kernel_rfl) fun i hi=>match i,hi with|0,_=>⟨Si,by kernel_rfl,vSy⟩|1,_=>⟨Sj,by kernel_rfl,ac9⟩|i+2,hi=>absurd hi (by omega))
def vXq:=zI 220 [.c .i,.c .i,.c .i] (.tup [(false,yX),(false,[.bool])]) (fun k d=>Qn k d.1 d.2.1 d.2.2.1) (fun x=>(x.1,x.2,())) (fun d=>(d.1,d.2.1))
def yWj:zD prog vXq:=fA f220 n0 (e3 vMp vMg vXs) zF
def vGu:=zI 221 [.c .i,.c .i] (.tup [(false,yX),(false,[.bool])]) (fun k d=>GJ k d.1 d.2.1) (fun x=>(x.1,x.2,())) (fun d=>(d.1,d.2.1))
def qN5:zD prog vGu:=fA f221 n0 e0 zF
def yP5:zE:=sp [(0,.c (.dat false jB)),(1,.c (.dat false .i)),(2,.c (.dat false .i)),sI 8,sI 9] []
def yI0:zE:=sp [sI 8] []
def yW6 (f:yAs)(d:yP5.den):=f d.1.1.1 d.1.2.1.1 d.1.2.2.1.1 d.1.2.2.2.1.1 d.1.2.2.2.2.1.1
def qYf:zT:=⟨[yP5],[(.exit 0,yI0),(.ret,yHf)],(Int⊕fy),fun k d=>yW6 (Ln k k) d,fun b x _ K=>match x with|.inl x=>K (.exit 0) (zN b yI0 (((x,()),()),()))|.inr x=>K .ret (zN b yHf (((x.1,()),(x.2,()),()),()))⟩
def vBd:zW:=⟨[],[(5,qYf)],[],true⟩
def vRp:zS prog 1000 0 63 (zQ (zR f179) 0) qYf:=lp (A:=vBd) qYf (fun d=>match d with|.inl d=>.inl d.1.1.1|.inr d=>.inr (d.1.1.1,d.1.2.1.1)) yW6 Ln GK (e2 yWj qN5) zF
def ada:=zI 179 [.c (.dat false jB),.c (.dat false .i),.c (.dat false .i)] (.tup [(false,yX),(false,[.bool])]) (fun k d=>B2 k d.1 d.2.1 d.2.2.1) (fun x=>(x.1,x.2,())) (fun d=>(d.1,d.2.1))
def qVi:zD prog ada:=fA f179 vBd (e2 yWj qN5) (loops1 vRp)
def vPs:=yH 112 [.ptr true CP,.c (.p .i),.c (.p .i)] (.c .i) [CQ] 0 (fun k d=>Qw k (yE d d.2.2.2.2.2.2.2.2.2.2.2.2.2.2.2.2.2.2.1) d.2.2.2.2.2.2.2.2.2.2.2.2.2.2.2.2.2.2.2.1 d.2.2.2.2.2.2.2.2.2.2.2.2.2.2.2.2.2.2.2.2.1) (fun x=>(x.1,(zc x.2 ()))) (fun d=>(d.1,(CR d)))
def vNe:zD prog vPs:=fX f112 n0 1 (e3 qL7 qVi zg) zF
def vKe:=zI 180 [.agg oF,.c .i] (.tup [(true,[.i,.i,.i]),(false,yX)]) (fun k d=>G2 k (d.1,d.2.1,d.2.2.1) d.2.2.2.1) (fun x=>(x.1.1,x.1.2.1,x.1.2.2,x.2,())) (fun d=>((d.1,d.2.1,d.2.2.1),d.2.2.2.1))
def vRr:zD prog vKe:=fA f180 n0 (e2 qN5 R9) zF
def adb:=yH 113 [.ptr true CP,.c (.p .bool),.c (.p .i),.c (.p .i)] (.c .i) [CQ] 0 (fun k d=>G3 k (yE d d.2.2.2.2.2.2.2.2.2.2.2.2.2.2.2.2.2.2.1) d.2.2.2.2.2.2.2.2.2.2.2.2.2.2.2.2.2.2.2.1 d.2.2.2.2.2.2.2.2.2.2.2.2.2.2.2.2.2.2.2.2.1 d.2.2.2.2.2.2.2.2.2.2.2.2.2.2.2.2.2.2.2.2.2.1) (fun x=>(x.1,(zc x.2 ()))) (fun d=>(d.1,(CR d)))
def vNz:zD prog adb:=fX f113 n0 1 (e3 qQt zg vRr) zF
def yH7:zE:=sp [sP 0 0,sO 7 1,sP 8 2,sI 9] [oB qU5,oA .i,oB tp,oA qS,.mat,oA .i,.mat]
def yNd:zE:=sp [sP 0 0,sO 7 1,sP 8 2] [oB qU5,oA .i,oB tp,oA qS,.mat,oA .i,.mat]
def vFx:zE:=sp [sP 0 0,sI 6] [oB qU5]
def yD6 (f:qNn)(d:yH7.den):=f d.1.2.2.2.1.1 (eG d.2.1) d.2.2.1 d.2.2.2.2.1 d.2.2.2.2.2.1 d.2.2.2.2.2.2.1 d.2.2.2.2.2.2.2.1
def qSs:zT:=⟨[yH7],[(.exit 0,yNd),(.ret,vFx)],qN6,fun k d=>yD6 (uZ k k) d,fun b x _ K=>match x with|.inl x=>K (.exit 0) (zN b yNd (((),(),(),()),((jN x.1 ()),x.2.1,(),x.2.2.1,x.2.2.2.1,x.2.2.2.2.1,x.2.2.2.2.2,())))|.inr x=>K .ret (zN b vFx (((),(x.1,()),()),((jN x.2 ()),())))⟩
def vEx:zW:=⟨[],[(6,qSs)],[],true⟩
def vOz:zS prog 1000 1 93 (zQ (zR f114) 0) qSs:=lp (A:=vEx) qSs (fun d=>match d with|.inl d=>.inl ((eG d.2.1),d.2.2.1,d.2.2.2.2.1,d.2.2.2.2.2.1,d.2.2.2.2.2.2.1,d.2.2.2.2.2.2.2.1)|.inr d=>.inr (d.1.2.1.1,(eG d.2.1))) yD6 uZ G4 (e3 qL7 zg qVi) zF
def vJx:=yH 114 [.ptr true CP,.c (.p .i),.c (.p .i)] (.c .i) [CQ] 0 (fun k d=>Qx k (yE d d.2.2.2.2.2.2.2.2.2.2.2.2.2.2.2.2.2.2.1) d.2.2.2.2.2.2.2.2.2.2.2.2.2.2.2.2.2.2.2.1 d.2.2.2.2.2.2.2.2.2.2.2.2.2.2.2.2.2.2.2.2.1) (fun x=>(x.1,(zc x.2 ()))) (fun d=>(d.1,(CR d)))
def vIp:zD prog vJx:=fX f114 vEx 1 (e3 qL7 zg qVi) (loops1 vOz)
def vN4:=yH 54 [.ptr true CP,.agg vR] (.c .i) [CQ] 0 (fun k d=>yh k (yE d d.2.2.2.2.2.2.2.2.2.2.2.2.2.2.2.2.2.2.1) (ade d)) (fun x=>(x.1,(zc x.2 ()))) (fun d=>(d.1,(CR d)))
def adf:zD prog vN4:=fX f54 n0 1 (e6 vOg vIq ac5 vNe vNz vIp) zF
def qRx:=zI 15 [.agg MH,.agg yu,.agg CL] (.tup [(true,yv),(false,[.own qZ]),(false,yX)]) (fun k d=>LO k (yR d) (rq d) (yAh d)) (fun x=>(vY x.1 (x.2.1,x.2.2,()))) (fun d=>((qQ d),d.2.2.2.2.2.2.2.2.2.2.2.1,d.2.2.2.2.2.2.2.2.2.2.2.2.1))
def aae:zD prog qRx:=fA f15 n0 (e7 vM6 ze vl acT adf MO R6) zF
def qTw:=yH 18 [.chn [RX,RY,lK]] (.agg yv) [RZ,R0,jc] 0 (fun k d=>vO k (kl d) (R1 d) (R2 d)) (fun x=>(vY x.1 ((),(jN x.2.1 ((),(fk x.2.2.1 (iE x.2.2.2 ()))))))) (fun d=>((qQ d),(vMc d),(adg d),(adh d)))
def yCv:zD prog qTw:=fX f18 n0 0 e0 zF
def yZl:zE:=sp [(0,.c (.dat false .i)),(1,.c (.dat false .i)),sI 5] []
def yLo (f:qY9)(d:yZl.den):=f d.1.1.1 d.1.2.1.1 d.1.2.2.1.1
def qRz:zT:=⟨[yZl],[(.exit 0,vGj),(.ret,vE6)],(Unit⊕Bool),fun k d=>yLo (Kc k k) d,fun b x _ K=>match x with|.inl x=>K (.exit 0) (zN b vGj ((),()))|.inr x=>K .ret (zN b vE6 (((x,()),()),()))⟩
def yMn:zW:=⟨[],[(4,qRz)],[],false⟩
def vMw:zS prog 1000 0 26 (zQ (zR f58) 0) qRz:=lp (A:=yMn) qRz (fun d=>match d with|.inl d=>.inl ()|.inr d=>.inr d.1.1.1) yLo Kc EV e0 zF
def qV9:=zI 58 [.c (.dat false .i),.c (.dat false .i)] (.c .bool) (fun k d=>og k d.1 d.2.1) (fun x=>(x,())) (fun d=>d.1)
def Sk:zD prog qV9:=fA f58 yMn e0 (loops1 vMw)
def yJu:zE:=sp [(0,.c (.dat false (.sl .i))),(1,.c (.dat false (.sl .i))),sI 5] []
def yQx (f:qYo)(d:yJu.den):=f d.1.1.1 d.1.2.1.1 d.1.2.2.1.1
def qMl:zT:=⟨[yJu],[(.exit 0,vGj),(.ret,vE6)],(Unit⊕Bool),fun k d=>yQx (Ke k k) d,fun b x _ K=>match x with|.inl x=>K (.exit 0) (zN b vGj ((),()))|.inr x=>K .ret (zN b vE6 (((x,()),()),()))⟩
def vGf:zW:=⟨[],[(4,qMl)],[],false⟩
def adi:zS prog 1000 0 27 (zQ (zR f59) 0) qMl:=lp (A:=vGf) qMl (fun d=>match d with|.inl d=>.inl ()|.inr d=>.inr d.1.1.1) yQx Ke EW (e1 Sk) zF
def qKc:=zI 59 [.c (.dat false (.sl .i)),.c (.dat false (.sl .i))] (.c .bool) (fun k d=>ux k d.1 d.2.1) (fun x=>(x,())) (fun d=>d.1)
def yS8:zD prog qKc:=fA f59 vGf (e1 Sk) (loops1 adi)
def yLa:zE:=sp [sP 2 0,sP 3 1,sI 5] [oB jV,oB jV]
def yDt (f:qRl)(d:yLa.den):=(vM (vM (f d.1.2.2.1.1) d.2.1) d.2.2.1)
def qTg:zT:=⟨[yLa],[(.exit 0,vGj),(.ret,vE6)],(Unit⊕Bool),fun k d=>yDt (Kf k k) d,fun b x _ K=>match x with|.inl x=>K (.exit 0) (zN b vGj ((),()))|.inr x=>K .ret (zN b vE6 (((x,()),()),()))⟩
def adj:Env:=⟨prog,fun t=>[119].any (Nat.beq t),fK [qKc,qV9]⟩
def yOd:jU adj:=Oj (l:=[qKc,qV9]) (eqT:=fun t=>[119].any (Nat.beq t)) (TV (fun t h=>VG (p:=fun t=>prog.keyTypeAt 8 t&& !prog.eqGuardType prog.depth t) (l:=[119]) (List.forall_mem_cons.2 ⟨by kernel_rfl,List.forall_mem_nil _⟩) t h)) ic ⟨yS8,Sk,trivial⟩
def vCf:zW:=⟨[],[(4,qTg)],[],false⟩
def vKl:zS prog 1000 0 55 (zQ (zR f57) 0) qTg:=lp (A:=vCf) qTg (fun d=>match d with|.inl d=>.inl ()|.inr d=>.inr d.1.1.1) yDt Kf EY yOd zF
def vSf:=zI 57 [.agg eH,.agg eH] (.c .bool) (fun k d=>(mD (EX k) d)) (fun x=>(x,())) (fun d=>d.1)
def vGv:zD prog vSf:=fA f57 vCf yOd (loops1 vKl)
def vAz:zE:=sp [(0,.c (.dat false zG)),(1,.c (.dat false zG)),sI 5] []
def yV6 (f:qVn)(d:vAz.den):=f d.1.1.1 d.1.2.1.1 d.1.2.2.1.1
def qYg:zT:=⟨[vAz],[(.exit 0,vGj),(.ret,vE6)],(Unit⊕Bool),fun k d=>yV6 (L5 k k) d,fun b x _ K=>match x with|.inl x=>K (.exit 0) (zN b vGj ((),()))|.inr x=>K .ret (zN b vE6 (((x,()),()),()))⟩
def vL6:Env:=⟨prog,fun t=>[142].any (Nat.beq t),fK []⟩
def yXm:jU vL6:=Oj (l:=[]) (eqT:=fun t=>[142].any (Nat.beq t)) (TV (fun t h=>VG (p:=fun t=>prog.keyTypeAt 8 t&& !prog.eqGuardType prog.depth t) (l:=[142]) (List.forall_mem_cons.2 ⟨by kernel_rfl,List.forall_mem_nil _⟩) t h)) ic trivial
def yXw:zW:=⟨[],[(4,qYg)],[],false⟩
def vV9:zS prog 1000 0 26 (zQ (zR f60) 0) qYg:=lp (A:=yXw) qYg (fun d=>match d with|.inl d=>.inl ()|.inr d=>.inr d.1.1.1) yV6 L5 HD yXm zF
def vVo:=zI 60 [.c (.dat false zG),.c (.dat false zG)] (.c .bool) (fun k d=>Cu k d.1 d.2.1) (fun x=>(x,())) (fun d=>d.1)
def adk:zD prog vVo:=fA f60 yXw yXm (loops1 vV9)
def qL0:=zI 17 [.agg pJ,.agg pJ] (.c .bool) (fun k d=>jP k (qQ d) (vHo d)) (fun x=>(x,())) (fun d=>d.1)
def vG7:zD prog qL0:=fA f17 n0 (e4 vGv Sk yS8 adk) zF
def qO9:=yH 19 [.ptr true lK] (.tup []) [jc] 0 (fun k d=>nE k (fR d)) (fun x=>(iE x ())) (fun d=>(fR d))
def qR0:zD prog qO9:=fX f19 ⟨[],[],[(2,3)],true⟩ 1 e0 (Ji (n:=1) (by kernel_rfl) fun i hi=>match i,hi with|0,_=>.inr ⟨by kernel_rfl,zF⟩|i+1,hi=>absurd hi (by omega))
def yJl:zE:=sp [(0,.c (.dat false .i)),sO 3 0,sI 4,sI 5] [oA (.int .u8)]
def vFk:zE:=sp [(0,.c (.dat false .i)),sO 3 0,sI 4] [oA (.int .u8)]
def yFa (f:yAo)(d:yJl.den):=f d.1.1.1 d.1.2.2.1.1 d.1.2.2.2.1.1 d.2.1
def qRv:zT:=⟨[yJl],[(.exit 2,vFk)],qKz,fun k d=>yFa (Mk k k) d,fun b x _ K=>K (.exit 2) (zN b vFk (((x.1,()),(),(x.2.1,()),()),(x.2.2,())))⟩
def vD3 (f:qXm)(d:vFk.den):=f d.1.1.1 d.1.2.2.1.1 d.2.1
def qN4:zT:=⟨[vFk],[(.exit 0,yR1)],AC,fun k d=>vD3 (CC k k) d,fun b x _ K=>K (.exit 0) (zN b yR1 (((),()),(x,())))⟩
def qZ6:zW:=⟨[],[(6,qRv),(3,qN4)],[],true⟩
def vTi:zS prog 1000 0 30 (zQ (zQ (zR f28) 0) 0) qRv:=lp (A:=qZ6) qRv (fun d=>(d.1.1.1,d.1.2.2.1.1,d.2.1)) yFa Mk Q3 e0 zF
def vLv:zS prog 1000 0 30 (zQ (zR f28) 0) qN4:=lp (A:=qZ6) qN4 (fun d=>d.2.1) vD3 CC HK e0 (loops1 vTi)
def vW1:=zI 28 [.c (.dat false .i)] (.c (.own (.int .u8))) (fun k d=>HJ k d.1) (fun x=>(x,())) (fun d=>d.1)
def yZm:zD prog vW1:=fA f28 qZ6 e0 (loops1 vLv)
def vYc:=zI 66 [.c (.dat false .i)] (.c (.own (.int .u8))) (fun k d=>kj k d.1) (fun x=>(x,())) (fun d=>d.1)
def MR:zD prog vYc:=fA f66 n0 (e1 yZm) zF
def yS0:zE:=⟨[(0,.c (.dat false (.sl .i))),sO 3 0,sI 4],[oA (.int .u8)],[(3,none,(.int .u8),false)]⟩
def yIo (f:qQ9)(d:yS0.den):=f d.1.1.1 d.1.2.2.1.1 d.2.1
def yBg:zT:=⟨[yS0],[(.exit 0,yR1)],AC,fun k d=>yIo (HL k k) d,fun b x _ K=>K (.exit 0) (zN b yR1 (((),()),(x,())))⟩
def yHi:zW:=⟨[],[(3,yBg)],[],true⟩
def vVs:zS prog 1000 0 19 (zQ (zR f67) 0) yBg:=lp (A:=yHi) yBg (fun d=>d.2.1) yIo HL HM (e1 MR) zF
def adl:=zI 67 [.c (.dat false (.sl .i))] (.c (.own (.int .u8))) (fun k d=>pG k d.1) (fun x=>(x,())) (fun d=>d.1)
def qWw:zD prog adl:=fA f67 yHi (e1 MR) (loops1 vVs)
def vCu:zE:=sp [sP 1 0,sP 4 1,sO 5 2,sI 6] [oB zd,oB jV,oA (.int .u8)]
def yEi:zE:=sp [sP 1 0,sP 4 1,sO 5 2] [oB zd,oB jV,oA (.int .u8)]
def yDf (f:yCt)(d:vCu.den):=f d.1.2.2.2.1.1 (qQ d.2.1) (wS d.2.2.1) d.2.2.2.1
def Sl:zT:=⟨[vCu],[(.exit 0,yEi)],qM3,fun k d=>yDf (vi k k) d,fun b x _ K=>K (.exit 0) (zN b yEi (((),(),(),()),((vY x.1 ()),(fk x.2.1 ()),x.2.2,())))⟩
def yUb:zE:=sp [sP 1 0,sO 5 1,sI 7] [oB zd,oA (.int .u8)]
def yFo:zE:=sp [sP 1 0,sO 5 1] [oB zd,oA (.int .u8)]
def yOr (f:qM4)(d:yUb.den):=f d.1.2.2.1.1 (qQ d.2.1) d.2.2.1
def Sm:zT:=⟨[yUb],[(.exit 2,yFo)],qQn,fun k d=>yOr (vj k k) d,fun b x _ K=>K (.exit 2) (zN b yFo (((),(),()),((vY x.1 ()),x.2,())))⟩
def qXt:zW:=⟨[],[(7,Sl),(16,Sm)],[],true⟩
def adm:zS prog 1000 0 127 (zQ (zR f29) 0) Sl:=lp (A:=qXt) Sl (fun d=>((qQ d.2.1),(wS d.2.2.1),d.2.2.2.1)) yDf vi HN (e2 MR qWw) zF
def vSv:zS prog 1000 0 127 (zQ (zR f29) 1) Sm:=lp (A:=qXt) Sm (fun d=>((qQ d.2.1),d.2.2.1)) yOr vj HO (e2 MR qWw) zF
def vT9:=zI 29 [.agg pJ] (.c (.own (.int .u8))) (fun k d=>HP k (qQ d)) (fun x=>(x,())) (fun d=>d.1)
def Sn:zD prog vT9:=fA f29 qXt (e2 MR qWw) (nh (n:=2) (by kernel_rfl) fun i hi=>match i,hi with|0,_=>⟨Sl,by kernel_rfl,adm⟩|1,_=>⟨Sm,by kernel_rfl,vSv⟩|i+2,hi=>absurd hi (by omega))
def vZc:=zI 183 [.c (.dat true (.int .u8))] (.tup [(false,[.own .i]),(false,[.fro (.int .u8)]),(false,[.bool])]) (fun k d=>Q4 k d.1) (fun x=>(x.1,x.2.1,x.2.2,())) (fun d=>(d.1,d.2.1,d.2.2.1))
def vVy:zD prog vZc:=fA f183 n0 (e2 qYw qX7) zF
def vRb:=yH 119 [.ptr true H3] (.c (.own .i)) [[.fro (.int .u8),.bool]] 0 (fun k d=>yq k (d.1,d.2.1)) (fun x=>(x.1,x.2.1,x.2.2,())) (fun d=>(d.1,(d.2.1,d.2.2.1)))
def Ii:zD prog vRb:=fX f119 n0 1 (e1 vVy) zF
def adn:=yH 117 [.ptr true H3,.c (.p .i)] (.c (.own .i)) [[.fro (.int .u8),.bool]] 0 (fun k d=>HQ k (d.1,d.2.1) d.2.2.1) (fun x=>(x.1,x.2.1,x.2.2,())) (fun d=>(d.1,(d.2.1,d.2.2.1)))
def qLs:zD prog adn:=fX f117 n0 1 (e1 Ii) zF
def vD5:zE:=⟨[sP 0 0,sI 1,sO 5 1,sI 6],[oB pH,oA (.sl .i)],[(5,none,(.sl .i),false)]⟩
def vBp (f:yCn)(d:vD5.den):=f d.1.2.1.1 d.1.2.2.2.1.1 (d.2.1.1,d.2.1.2.1) d.2.2.1
def qZy:zT:=⟨[vD5],[(.exit 0,yZ5)],qLk,fun k d=>vBp (CE k k) d,fun b x _ K=>K (.exit 0) (zN b yZ5 (((),(),()),((x.1.1,x.1.2,()),x.2,())))⟩
def vGp:zW:=⟨[],[(3,qZy)],[],true⟩
def ado:zS prog 1000 1 24 (zQ (zR f118) 0) qZy:=lp (A:=vGp) qZy (fun d=>((d.2.1.1,d.2.1.2.1),d.2.2.1)) vBp CE HS (e1 Ii) zF
def vPu:=yH 118 [.ptr true H3,.c (.p .i)] (.c (.own (.sl .i))) [[.fro (.int .u8),.bool]] 0 (fun k d=>HR k (d.1,d.2.1) d.2.2.1) (fun x=>(x.1,x.2.1,x.2.2,())) (fun d=>(d.1,(d.2.1,d.2.2.1)))
def qOh:zD prog vPu:=fX f118 vGp 1 (e1 Ii) (loops1 ado)
def yMq (f:qUp)(d:vGd.den):=f d.1.1.1 d.1.2.2.2.2.2.1.1 (d.2.1.1,d.2.1.2.1,d.2.1.2.2.1) (d.2.2.1.1,d.2.2.1.2.1) d.2.2.2.1 (d.2.2.2.2.1.1,d.2.2.2.2.1.2.1,d.2.2.2.2.1.2.2.1) d.2.2.2.2.2.1
def So:zT:=⟨[vGd],[(.exit 0,vDc)],yBn,fun k d=>yMq (CF k k) d,fun b x _ K=>K (.exit 0) (zN b vDc (((x.1,()),(),(),(),(),()),((x.2.1.1,x.2.1.2.1,x.2.1.2.2,()),(x.2.2.1.1,x.2.2.1.2,()),x.2.2.2.1,(x.2.2.2.2.1.1,x.2.2.2.2.1.2.1,x.2.2.2.2.1.2.2,()),x.2.2.2.2.2,())))⟩
def yUx:zE:=⟨[(0,.c (.dat true (.int .u8))),sP 2 0,sP 4 1,sO 5 2,sP 6 3,sI 9],[oB jX,oB pH,oA .i,oB [.i,.lit (.osl 1001004 none),.lit (.osl 1001005 none),.lit (.osl 1001006 none),.lit (.osl 1001007 none),.lit (.osl 1001008 none),.lit (.osl 1001009 none),.lit (.osl 1001010 none),.lit .nsl,.i,.bool],oA qS,oA (.sl .i),oA .i,oA (.sl .i),oA .i,oA (.sl .i),oA zG],[(6,some 7,zG,false)]⟩
def yNw (f:qOj)(d:yUx.den):=f d.1.1.1 d.1.2.2.2.2.2.1.1 (d.2.1.1,d.2.1.2.1,d.2.1.2.2.1) (d.2.2.1.1,d.2.2.1.2.1) d.2.2.2.1 (d.2.2.2.2.1.1,d.2.2.2.2.1.2.1,d.2.2.2.2.1.2.2.1) d.2.2.2.2.2.1 d.2.2.2.2.2.2.1 d.2.2.2.2.2.2.2.1 d.2.2.2.2.2.2.2.2.1 d.2.2.2.2.2.2.2.2.2.1 d.2.2.2.2.2.2.2.2.2.2.1 d.2.2.2.2.2.2.2.2.2.2.2.1
def Sp:zT:=⟨[yUx],[(.exit 2,vE4)],qVu,fun k d=>yNw (CG k k) d,fun b x _ K=>K (.exit 2) (zN b vE4 (((x.1,()),(),(),(),()),((x.2.1.1,x.2.1.2.1,x.2.1.2.2,()),(x.2.2.1.1,x.2.2.1.2,()),(x.2.2.2.1.1,x.2.2.2.1.2.1,x.2.2.2.1.2.2,()),x.2.2.2.2.1,x.2.2.2.2.2.1,x.2.2.2.2.2.2.1,x.2.2.2.2.2.2.2.1,x.2.2.2.2.2.2.2.2.1,x.2.2.2.2.2.2.2.2.2.1,x.2.2.2.2.2.2.2.2.2.2,())))⟩
def qP7:zW:=⟨[],[(5,So),(15,Sp)],[],true⟩
def adp:zS prog 1000 0 154 (zQ (zR f61) 0) So:=lp (A:=qP7) So (fun d=>(d.1.1.1,(d.2.1.1,d.2.1.2.1,d.2.1.2.2.1),(d.2.2.1.1,d.2.2.1.2.1),d.2.2.2.1,(d.2.2.2.2.1.1,d.2.2.2.2.1.2.1,d.2.2.2.2.1.2.2.1),d.2.2.2.2.2.1)) yMq CF HT (e4 qLs qOh Ii Sn) zF
def vWj:zS prog 1000 0 154 (zQ (zR f61) 1) Sp:=lp (A:=qP7) Sp (fun d=>(d.1.1.1,(d.2.1.1,d.2.1.2.1,d.2.1.2.2.1),(d.2.2.1.1,d.2.2.1.2.1),(d.2.2.2.1.1,d.2.2.2.1.2.1,d.2.2.2.1.2.2.1),d.2.2.2.2.1,d.2.2.2.2.2.1,d.2.2.2.2.2.2.1,d.2.2.2.2.2.2.2.1,d.2.2.2.2.2.2.2.2.1,d.2.2.2.2.2.2.2.2.2.1,d.2.2.2.2.2.2.2.2.2.2.1)) yNw CG HU (e4 qLs qOh Ii Sn) zF
def vQ8:=zI 61 [.c (.dat true (.int .u8))] (.tup [(true,vDa),(false,[.bool])]) (fun k d=>Mo k d.1) (fun x=>(vY x.1 (x.2,()))) (fun d=>((qQ d),d.2.2.2.2.2.2.2.2.2.2.2.1))
def vVf:zD prog vQ8:=fA f61 qP7 (e4 qLs qOh Ii Sn) (nh (n:=2) (by kernel_rfl) fun i hi=>match i,hi with|0,_=>⟨So,by kernel_rfl,adp⟩|1,_=>⟨Sp,by kernel_rfl,vWj⟩|i+2,hi=>absurd hi (by omega))
def qPo:=zI 20 [.agg pJ] (.agg vDa) (fun k d=>iZ k (qQ d)) (fun x=>(vY x ())) (fun d=>(qQ d))
def aaf:zD prog qPo:=fA f20 n0 (e2 Sn vVf) zF
def vPw:=zI 64 [.c .i,.c .i,.c (.dat false .i)] (.agg qPt) (fun k d=>MS k d.1 d.2.1 d.2.2.1) (fun x=>(CK x ())) (fun d=>(lJ d))
def vLh:zD prog vPw:=fA f64 n0 (e1 vl) zF
def vK8:=zI 23 [.agg vR] (.c (.own (.int .u8))) (fun k d=>yL6 k (vV d)) (fun x=>(x,())) (fun d=>d.1)
def adq:zD prog vK8:=fA f23 ⟨[1],[],[],true⟩ (e3 yXz MK yZm) zF
def vHt:=zI 63 [.agg CL] (.agg [.i,.i,.own (.int .u8),.i,.i]) (fun k d=>MU k (lJ d)) (fun x=>(jI x ())) (fun d=>(yR d))
def adr:zD prog vHt:=fA f63 n0 (e1 adq) zF
def vXh:=zI 185 [.agg CL] (.c .bool) (fun k d=>yF7 k (lJ d)) (fun x=>(x,())) (fun d=>d.1)
def yF8:zD prog vXh:=fA f185 n0 e0 zF
def yYq:zE:=sp [(0,.c (.dat false qZ)),(1,.c (.lit (.fn 185 []))),sI 7,sI 8] []
def vB8 (f:yAq)(d:yYq.den):=f d.1.1.1 d.1.2.2.1.1 d.1.2.2.2.1.1
def qRy:zT:=⟨[yYq],[(.exit 0,vGj),(.ret,vDf)],(Unit⊕Int),fun k d=>vB8 (qRo k k) d,fun b x _ K=>match x with|.inl x=>K (.exit 0) (zN b vGj ((),()))|.inr x=>K .ret (zN b vDf (((x,()),()),()))⟩
def yUc:zW:=⟨[],[(2,qRy)],[],true⟩
def ads:zS prog 1000 0 19 (zQ (zR f229) 0) qRy:=lp (A:=yUc) qRy (fun d=>match d with|.inl d=>.inl ()|.inr d=>.inr d.1.1.1) vB8 qRo yGz (e1 yF8) zF
def vSg:=zI 229 [.c (.dat false qZ),.c (.fn 185)] (.c .i) (fun k d=>yHn k d.1) (fun x=>(x,())) (fun d=>d.1)
def adt:zD prog vSg:=fA f229 yUc (e1 yF8) (loops1 ads)
def vIf:=zI 184 [.c (.dat false qZ),.c (.fn 185)] (.c .bool) (fun k d=>vF5 k d.1) (fun x=>(x,())) (fun d=>d.1)
def vP2:zD prog vIf:=fA f184 n0 (e1 adt) zF
def vRf:=zI 120 [.c (.dat false qZ)] (.c .bool) (fun k d=>qTu k d.1) (fun x=>(x,())) (fun d=>d.1)
def yY1:zD prog vRf:=fA f120 n0 (e1 vP2) zF
def vI3:=zI 16 [.c (.nilp)] (.c .bool) (fun k d=>MV k) (fun x=>(x,())) (fun d=>d.1)
def qUl:zD prog vI3:=fA f16 n0 e0 zF
def vNj:=zI 13 [.c (.nilp),.c .i,.c (.dat false (.int .u8))] (.c (.own qZ)) (fun k d=>yNz k d.2.1 d.2.2.1) (fun x=>(x,())) (fun d=>d.1)
def yVp:zD prog vNj:=fA f13 n0 (e3 qUl Mx yK2) zF
def vNs:=zI 18 [.c (.nilp)] (.agg qP8) (fun k d=>qYh k) (fun x=>(vY x ())) (fun d=>(qQ d))
def yZ7:zD prog vNs:=fA f18 n0 e0 zF
def yO7:zE:=⟨[sI 2,sP 4 0,sP 8 1,sP 9 2,sP 10 5,sP 12 7,(30,.c (.dat false yt)),sI 31,sI 32],[oB Ig,oB Sq,oB qKq,oA (.int .u8),oA (.int .u8),oB yS6,oB [.lit (.ptr 1001002 0),.i,.i,.i,.bool],oB [.lit (.osl 1001008 none),.lit (.osl 1001009 none),.i,.lit .nsl,.lit .nsl,.lit .nsl,.lit .nsl,.lit .nsl,.lit .nsl,.lit .nsl,.lit .nsl,.i,.bool,.bool],oA (.sl qZ),oA qZ],[(12,some 0,(.sl qZ),false),(12,some 1,qZ,false)]⟩
def yWg:zE:=⟨[sI 2,sP 4 0,sP 8 1,sP 9 2,(10,.c (.lit .nilp)),sP 12 5,(30,.c (.dat false yt)),sI 31,sI 32],[oB Ig,oB Sq,oB qKq,oA (.int .u8),oA (.int .u8),oB [.lit (.osl 1001006 none),.lit (.osl 1001007 none),.i,.lit .nsl,.lit .nsl,.lit .nsl,.lit .nsl,.lit .nsl,.lit .nsl,.lit .nsl,.lit .nsl,.i,.bool,.bool],oA (.sl qZ),oA qZ],[(12,some 0,(.sl qZ),false),(12,some 1,qZ,false)]⟩
def yV1:zE:=sp [sP 8 0,(10,.c (.lit .nilp)),sP 12 1] [oB Sq,oB [.lit (.osl 1001002 none),.lit (.osl 1001003 none),.i,.lit .nsl,.lit .nsl,.lit .nsl,.lit .nsl,.lit .nsl,.lit .nsl,.lit .nsl,.lit .nsl,.i,.bool,.bool],oA (.sl qZ),oA qZ]
def yQy:zE:=sp [sP 8 0,sP 10 1,sP 12 6] [oB Sq,oB [.lit (.ptr 1001002 0),.i,.dat true jB,.i,.i,.i,.i,.dat true qS,.dat true (.sl .i),.dat true .i,.dat true (.sl .i),.dat true .i,.dat true (.sl .i),.dat true zG,.dat true .i,.i,.bool,.i,.bool],oB [.lit (.ptr 1001003 0),.i,.i,.i,.bool],oB [.i,.lit (.osl 1001004 none),.i,.lit (.osl 1001005 none),.i,.i,.i,.bool,.bool,.i],oA (.int .u8),oA (.int .u8),oB [.lit (.osl 1001007 none),.lit (.osl 1001008 none),.i,.lit .nsl,.lit .nsl,.lit .nsl,.lit .nsl,.lit .nsl,.lit .nsl,.lit .nsl,.lit .nsl,.i,.bool,.bool],oA (.sl qZ),oA qZ]
def yX9 (f:qMu)(d:rT [yO7,yWg]):Option Sr:=match d with|.inl d=>f (.inl (d.1.1.1,d.1.2.2.2.2.2.2.1.1,d.1.2.2.2.2.2.2.2.1.1,d.1.2.2.2.2.2.2.2.2.1.1,(yR d.2.1),(wS d.2.2.1),(lJ d.2.2.2.1),d.2.2.2.2.1,d.2.2.2.2.2.1,(eG d.2.2.2.2.2.2.1),(wS d.2.2.2.2.2.2.2.1),(wS d.2.2.2.2.2.2.2.2.1),d.2.2.2.2.2.2.2.2.2.1,d.2.2.2.2.2.2.2.2.2.2.1))|.inr d=>f (.inr (d.1.1.1,d.1.2.2.2.2.2.2.1.1,d.1.2.2.2.2.2.2.2.1.1,d.1.2.2.2.2.2.2.2.2.1.1,(yR d.2.1),(wS d.2.2.1),(lJ d.2.2.2.1),d.2.2.2.2.1,d.2.2.2.2.2.1,(wS d.2.2.2.2.2.2.1),d.2.2.2.2.2.2.2.1,d.2.2.2.2.2.2.2.2.1))
def yCe:zT:=⟨[yO7,yWg],[(.exit 0,yV1),(.exit 0,yQy)],Sr,fun k d=>yX9 (Ss k k) d,fun b x _ K=>match x with|.inl x=>K (.exit 0) (zN b yV1 (((),(),(),()),((fk x.1 ()),(fk x.2.1 ()),x.2.2.1,x.2.2.2,())))|.inr x=>K (.exit 0) (zN b yQy (((),(),(),()),((fk x.1 ()),(jN x.2.1 ()),(fk x.2.2.1 ()),(CK x.2.2.2.1 ()),x.2.2.2.2.1,x.2.2.2.2.2.1,(fk x.2.2.2.2.2.2.1 ()),x.2.2.2.2.2.2.2.1,x.2.2.2.2.2.2.2.2,())))⟩
def yZu:zW:=⟨[],[(7,yCe)],[],true⟩
def vVp:zS prog 1000 0 110 (zQ (zR f62) 0) yCe:=lp (A:=yZu) yCe (fun d=>match d with|.inl d=>.inl ((wS d.2.1),(wS d.2.2.1),d.2.2.2.1,d.2.2.2.2.1)|.inr d=>.inr ((wS d.2.1),(eG d.2.2.1),(wS d.2.2.2.1),(lJ d.2.2.2.2.1),d.2.2.2.2.2.1,d.2.2.2.2.2.2.1,(wS d.2.2.2.2.2.2.2.1),d.2.2.2.2.2.2.2.2.1,d.2.2.2.2.2.2.2.2.2.1)) yX9 Ss yZy (e12 F2q qSl qMs Mx yY1 Q8 qJj qR0 yVp qUl yZ7 yCv) zF (hs:=by intro k rec d;rcases d with d|d<;>kernel_rfl) (h0:=by intro k d;rcases d with d|d<;>rfl)
def vLm:=zI 62 [.agg MH,.c .i,.c .i,.c (.dat false yt)] (.agg [.own (.sl qZ),.own qZ,.i,.fro qS,.fro (.sl .i),.fro .i,.fro (.sl .i),.fro .i,.fro (.sl .i),.fro zG,.fro .i,.i,.bool,.bool]) (fun k d=>vDz k (yR d) d.2.2.2.2.2.1 d.2.2.2.2.2.2.1 d.2.2.2.2.2.2.2.1) (fun x=>(RH x ())) (fun d=>(qU0 d))
def vP0:zD prog vLm:=fA f62 yZu (e12 F2q qSl qMs Mx yY1 Q8 qJj qR0 yVp qUl yZ7 yCv) (loops1 vVp)
def yAl:=zI 21 [] (.c .bool) (fun k d=>qTz k) (fun x=>(x,())) (fun d=>d.1)
def vTt:zD prog yAl:=fA f21 n0 (e4 F1q vLh adr vP0) zF
end
end Go.Ab.Gi
