/- part 102 -/
import Derived.Test.YtajdkmfmbgephaaGreatGiXS
import Derived.Test.YtajdkmfmbgephaaGreatGiAbE
import Derived.Test.YtajdkmfmbgephaaGreatProg
set_option linter.unusedVariables false
set_option maxRecDepth 100000
set_option maxHeartbeats 4000000
namespace Go.Ab.Gi
open Go.RowKit Go.Lib Go.Proofs Go.Proofs.Tryz
noncomputable section
theorem gJ:prog.follows .mixedOrders=true:=by kernel_rfl
abbrev n0:qF:=⟨[],[],[],true⟩
theorem e0:jZ ⟨prog,fun _=>false,eO []⟩:=lk (l:=[]) gJ trivial
theorem e1 {a0}(h0:zB prog a0):jZ ⟨prog,fun _=>false,eO [a0]⟩:=lk (l:=[a0]) gJ ⟨h0,trivial⟩
theorem e2 {a0 a1}(h0:zB prog a0)(h1:zB prog a1):jZ ⟨prog,fun _=>false,eO [a0,a1]⟩:=lk (l:=[a0,a1]) gJ ⟨h0,h1,trivial⟩
theorem e3 {a0 a1 a2}(h0:zB prog a0)(h1:zB prog a1)(h2:zB prog a2):jZ ⟨prog,fun _=>false,eO [a0,a1,a2]⟩:=lk (l:=[a0,a1,a2]) gJ ⟨h0,h1,h2,trivial⟩
theorem e4 {a0 a1 a2 a3}(h0:zB prog a0)(h1:zB prog a1)(h2:zB prog a2)(h3:zB prog a3):jZ ⟨prog,fun _=>false,eO [a0,a1,a2,a3]⟩:=lk (l:=[a0,a1,a2,a3]) gJ ⟨h0,h1,h2,h3,trivial⟩
theorem e5 {a0 a1 a2 a3 a4}(h0:zB prog a0)(h1:zB prog a1)(h2:zB prog a2)(h3:zB prog a3)(h4:zB prog a4):jZ ⟨prog,fun _=>false,eO [a0,a1,a2,a3,a4]⟩:=lk (l:=[a0,a1,a2,a3,a4]) gJ ⟨h0,h1,h2,h3,h4,trivial⟩
theorem e6 {a0 a1 a2 a3 a4 a5}(h0:zB prog a0)(h1:zB prog a1)(h2:zB prog a2)(h3:zB prog a3)(h4:zB prog a4)(h5:zB prog a5):jZ ⟨prog,fun _=>false,eO [a0,a1,a2,a3,a4,a5]⟩:=lk (l:=[a0,a1,a2,a3,a4,a5]) gJ ⟨h0,h1,h2,h3,h4,h5,trivial⟩
theorem e8 {a0 a1 a2 a3 a4 a5 a6 a7}(h0:zB prog a0)(h1:zB prog a1)(h2:zB prog a2)(h3:zB prog a3)(h4:zB prog a4)(h5:zB prog a5)(h6:zB prog a6)(h7:zB prog a7):jZ ⟨prog,fun _=>false,eO [a0,a1,a2,a3,a4,a5,a6,a7]⟩:=lk (l:=[a0,a1,a2,a3,a4,a5,a6,a7]) gJ ⟨h0,h1,h2,h3,h4,h5,h6,h7,trivial⟩
theorem e9 {a0 a1 a2 a3 a4 a5 a6 a7 a8}(h0:zB prog a0)(h1:zB prog a1)(h2:zB prog a2)(h3:zB prog a3)(h4:zB prog a4)(h5:zB prog a5)(h6:zB prog a6)(h7:zB prog a7)(h8:zB prog a8):jZ ⟨prog,fun _=>false,eO [a0,a1,a2,a3,a4,a5,a6,a7,a8]⟩:=lk (l:=[a0,a1,a2,a3,a4,a5,a6,a7,a8]) gJ ⟨h0,h1,h2,h3,h4,h5,h6,h7,h8,trivial⟩
theorem Kr {a0 a1 a2 a3 a4 a5 a6 a7 a8 a9}(h0:zB prog a0)(h1:zB prog a1)(h2:zB prog a2)(h3:zB prog a3)(h4:zB prog a4)(h5:zB prog a5)(h6:zB prog a6)(h7:zB prog a7)(h8:zB prog a8)(h9:zB prog a9):jZ ⟨prog,fun _=>false,eO [a0,a1,a2,a3,a4,a5,a6,a7,a8,a9]⟩:=lk (l:=[a0,a1,a2,a3,a4,a5,a6,a7,a8,a9]) gJ ⟨h0,h1,h2,h3,h4,h5,h6,h7,h8,h9,trivial⟩
theorem e13 {a0 a1 a2 a3 a4 a5 a6 a7 a8 a9 Eb Ec QN}(h0:zB prog a0)(h1:zB prog a1)(h2:zB prog a2)(h3:zB prog a3)(h4:zB prog a4)(h5:zB prog a5)(h6:zB prog a6)(h7:zB prog a7)(h8:zB prog a8)(h9:zB prog a9)(EF:zB prog Eb)(EG:zB prog Ec)(ON:zB prog QN):jZ ⟨prog,fun _=>false,eO [a0,a1,a2,a3,a4,a5,a6,a7,a8,a9,Eb,Ec,QN]⟩:=lk (l:=[a0,a1,a2,a3,a4,a5,a6,a7,a8,a9,Eb,Ec,QN]) gJ ⟨h0,h1,h2,h3,h4,h5,h6,h7,h8,h9,EF,EG,ON,trivial⟩
def yHz:zG:=⟨[(0,.c (.dat false nY)),(3,.c .i),(4,.c .i)],[],[]⟩
def yA6:zG:=⟨[(0,.c (.dat false nY)),(3,.c .i)],[],[]⟩
def yIv (f:QO)(d:yHz.den):=f d.1.1.1 d.1.2.1.1 d.1.2.2.1.1
def QP:qE:=⟨[yHz],[(.exit 0,yA6)],QQ,fun k d=>yIv (Cd k k) d,fun b x _ K=>K (.exit 0) (zQ b yA6 (((x.1,()),(x.2,()),()),()))⟩
def A0q:qF:=⟨[],[(3,QP)],[],true⟩
theorem yZm:qC prog 1000 0 30 (zY (qA f4) 0) QP:=lp (A:=A0q) QP (fun d=>(d.1.1.1,d.1.2.1.1)) yIv Cd Ce e0 zE
def R0q:=zM 4 [.c (.dat false nY)] (.c .bool) (fun k d=>Km k d.1) (fun x=>(x,()))
theorem F0q:zB prog R0q:=fA (rs:=.c .bool) f4 A0q (fun d=>d.1) e0 (qN yZm)
def R1q:=zM 6 [.c .i] (.agg [.i,.own jF,.i,.i,.i]) (fun k d=>Gf k d.1) (fun x=>(ek x ()))
theorem F1q:zB prog R1q:=fA (rs:=.agg [.i,.own jF,.i,.i,.i]) f6 n0 (fun d=>(vS d)) e0 zE
def R2q:=H0 10 [.c (.p .i)] (.c (.link 0)) [vI] 1 (.c (.nilp)) [] 0 (fun k d=>Ke k d.1) (fun x=>((),(eZ x ()))) (fun x=>((),()))
theorem F2q:zB prog R2q:=fN (rs:=.c (.link 0)) (os:=[vI]) (ns:=1) (rs2:=.c (.nilp)) (os2:=[]) (ns2:=0) f10 n0 0 (fun d=>(Cl d)) (fun d=>()) e0 zE
def R3q:=zM 48 [.c .i,.c .i,.c .i] (.c .bool) (fun k d=>nZ k d.1 d.2.1 d.2.2.1) (fun x=>(x,()))
theorem F3q:zB prog R3q:=fA (rs:=.c .bool) f48 n0 (fun d=>d.1) e0 zE
def R4q:=zM 47 [.agg [.i,.i]] (.c .bool) (fun k d=>qY6 k (d.1,d.2.1)) (fun x=>(x,()))
theorem F4q:zB prog R4q:=fA (rs:=.c .bool) f47 n0 (fun d=>d.1) (e1 F3q) zE
def yAe:zG:=⟨[(0,.c (.dat false jF)),(1,.c (.lit (.fn 47 []))),(7,.c .i),(8,.c .i)],[],[]⟩
def yEp:zG:=⟨[],[],[]⟩
def qZo:zG:=⟨[(4,.c .i)],[],[]⟩
def yB5 (f:QR)(d:yAe.den):=f d.1.1.1 d.1.2.2.1.1 d.1.2.2.2.1.1
def QS:qE:=⟨[yAe],[(.exit 0,yEp),(.ret,qZo)],(Unit⊕Int),fun k d=>yB5 (QT k k) d,fun b x _ K=>match x with|.inl x=>K (.exit 0) (zQ b yEp ((),()))|.inr x=>K .ret (zQ b qZo (((x,()),()),()))⟩
def A5q:qF:=⟨[],[(2,QS)],[],true⟩
theorem vCa:qC prog 1000 0 19 (zY (qA f79) 0) QS:=lp (A:=A5q) QS (fun d=>match d with|.inl d=>.inl ()|.inr d=>.inr d.1.1.1) yB5 QT qZ3 (e1 F4q) zE
def R5q:=zM 79 [.c (.dat false jF),.c (.fn 47)] (.c .i) (fun k d=>yJz k d.1) (fun x=>(x,()))
theorem F5q:zB prog R5q:=fA (rs:=.c .i) f79 A5q (fun d=>d.1) (e1 F4q) (qN vCa)
def R6q:=zM 49 [.c (.dat false jF),.c (.fn 47)] (.c .bool) (fun k d=>qY8 k d.1) (fun x=>(x,()))
theorem F6q:zB prog R6q:=fA (rs:=.c .bool) f49 n0 (fun d=>d.1) (e1 F5q) zE
def R7q:=zM 25 [.agg lL] (.c .bool) (fun k d=>lK k (vS d)) (fun x=>(x,()))
theorem Ks:zB prog R7q:=fA (rs:=.c .bool) f25 n0 (fun d=>d.1) (e2 F3q F6q) zE
def R8q:=zM 126 [.c .i] (.c .bool) (fun k d=>Kt k d.1) (fun x=>(x,()))
theorem QU:zB prog R8q:=fA (rs:=.c .bool) f126 n0 (fun d=>d.1) e0 zE
def R9q:=rS 127 false (.int .u8) (.own (.int .u8)) v7
theorem F9q:zB prog R9q:=fC f127 n0 e0 zE
def vI6:=zM 81 [.ptr Gk,.c .i] (.c (.own (.int .u8))) (fun k d=>Qv k (jV d) d.2.2.2.2.2.2.2.2.2.2.1) (fun x=>(x,()))
theorem vLb:zB prog vI6:=fA (rs:=.c (.own (.int .u8))) f81 n0 (fun d=>d.1) (e2 QU F9q) zE
def yNb:zG:=⟨[(0,.c (.dat false (.int .u8))),(2,.c (.lit (.osl 1001000 none)))],[.arr true (.sl (.int .u8))],[(2,none,(.sl (.int .u8)),false)]⟩
def yCl:zG:=⟨[(0,.c (.dat false (.int .u8))),(2,.c (.lit (.osl 1001000 none)))],[.arr true (.sl (.int .u8))],[]⟩
def yA9 (f:QV)(d:yNb.den):=f d.1.1.1 d.2.1
def QW:qE:=⟨[yNb],[(.exit 0,yCl)],QX,fun k d=>yA9 (zi k k) d,fun b x _ K=>K (.exit 0) (zQ b yCl (((x.1,()),(),()),(x.2,())))⟩
def yDe:qF:=⟨[],[(1,QW)],[],true⟩
theorem vLq:qC prog 1000 0 43 (zY (qA f80) 0) QW:=lp (A:=yDe) QW (fun d=>(d.1.1.1,d.2.1)) yA9 zi zj e0 zE
def vHu:=zM 80 [.c (.dat false (.int .u8))] (.tup [(false,[.own (.sl (.int .u8))]),(false,qP)]) (fun k d=>Ep k d.1) (fun x=>(x.1,x.2,()))
theorem yAj:zB prog vHu:=fA (rs:=.tup [(false,[.own (.sl (.int .u8))]),(false,qP)]) f80 yDe (fun d=>(d.1,d.2.1)) e0 (qN vLq)
def qRs:zG:=⟨[(0,.c (.dat false (.int .u8))),(4,.c (.lit (.osl 1001000 none))),(5,.c (.int .u64)),(16,.c (.dat false (.int .u8))),(17,.c .i),(18,.c .i)],[.arr true .i],[]⟩
def yK5:zG:=⟨[(0,.c (.dat false (.int .u8))),(4,.c (.lit (.osl 1001000 none))),(5,.c (.int .u64))],[.arr true .i],[]⟩
def yJo (f:QY)(d:qRs.den):=f d.1.1.1 d.1.2.2.1.1 d.1.2.2.2.1.1 d.1.2.2.2.2.1.1 d.1.2.2.2.2.2.1.1 d.2.1
def QZ:qE:=⟨[qRs],[(.exit 2,yK5)],Q0,fun k d=>yJo (yv k k) d,fun b x _ K=>K (.exit 2) (zQ b yK5 (((x.1,()),(),(x.2.1,()),()),(x.2.2,())))⟩
def yHr:zG:=⟨[(0,.c (.dat false (.int .u8))),(4,.c (.lit (.osl 1001000 none)))],[.arr true .i],[(4,none,.i,false)]⟩
def yE3:zG:=⟨[(4,.c (.lit (.osl 1001000 none)))],[.arr true .i],[]⟩
def yKb (f:AC→AC→Option AC)(d:yHr.den):=f d.1.1.1 d.2.1
def Q1:qE:=⟨[yHr],[(.exit 0,yE3)],AC,fun k d=>yKb (yw k k) d,fun b x _ K=>K (.exit 0) (zQ b yE3 (((),()),(x,())))⟩
def Q2:qF:=⟨[],[(7,QZ),(4,Q1)],[],true⟩
theorem yTu:qC prog 1000 0 36 (zY (zY (qA f39) 0) 0) QZ:=lp (A:=Q2) QZ (fun d=>(d.1.1.1,d.1.2.2.1.1,d.2.1)) yJo yv Ih e0 zE
theorem yUx:qC prog 1000 0 36 (zY (qA f39) 0) Q1:=lp (A:=Q2) Q1 (fun d=>d.2.1) yKb yw yx e0 (qN yTu)
def yNi:=zM 39 [.c (.dat false (.int .u8))] (.tup [(false,n9),(false,qP)]) (fun k d=>mn k d.1) (fun x=>(x.1,x.2,()))
theorem Gl:zB prog yNi:=fA (rs:=.tup [(false,n9),(false,qP)]) f39 Q2 (fun d=>(d.1,d.2.1)) e0 (qN yUx)
def yUv:=zM 50 [.ptr Gk,.c .i] (.tup [(false,qP),(false,lM),(false,oc)]) (fun k d=>sL k (jV d) d.2.2.2.2.2.2.2.2.2.2.1) (fun x=>(x.1,x.2.1,x.2.2,()))
theorem yUq:zB prog yUv:=fA (rs:=.tup [(false,qP),(false,lM),(false,oc)]) f50 n0 (fun d=>(d.1,d.2.1,d.2.2.1)) (e3 vLb yAj Gl) zE
def vKo:=zM 26 [.ptr Gk] (.tup [(false,qP),(false,qP),(false,lM),(false,oc),(false,[.bool])]) (fun k d=>F5 k (jV d)) (fun x=>(ek x ()))
theorem Q3:zB prog vKo:=fA (rs:=.tup [(false,qP),(false,qP),(false,lM),(false,oc),(false,[.bool])]) f26 ⟨[],[],[(2,3)],true⟩ (fun d=>(d.1,d.2.1,d.2.2.1,d.2.2.2.1,d.2.2.2.2.1)) (e1 yUq) (yc (n:=1) (by kernel_rfl) fun i hi=>match i,hi with|0,_=>.inr ⟨by kernel_rfl,zE⟩|i+1,hi=>absurd hi (by omega))
def yVg:=zM 88 [.c .i] (.c .bool) (fun k d=>ER k d.1) (fun x=>(x,()))
theorem Ku:zB prog yVg:=fA (rs:=.c .bool) f88 ⟨[],[],[],false⟩ (fun d=>d.1) e0 zE
def yDz:zG:=⟨[(1,.c .i),(5,.c (.lit (.osl 1001000 none))),(13,.c .i),(14,.c .i)],[.arr true .i],[]⟩
def yMa:zG:=⟨[(5,.c (.lit (.osl 1001000 none)))],[.arr true .i],[]⟩
def qXc (f:Q4)(d:yDz.den):=f d.1.1.1 d.1.2.2.1.1 d.1.2.2.2.1.1 d.2.1
def Q5:qE:=⟨[yDz],[(.exit 0,yMa)],AC,fun k d=>qXc (ES k k) d,fun b x _ K=>K (.exit 0) (zQ b yMa (((),()),(x,())))⟩
def yLq:qF:=⟨[],[(5,Q5)],[],false⟩
theorem yOd:qC prog 1000 0 23 (zY (qA f55) 0) Q5:=lp (A:=yLq) Q5 (fun d=>d.2.1) qXc ES Aw (e1 Ku) zE
def vBj:=zM 55 [.c .i,.c .i] (.c (.own .i)) (fun k d=>uN k d.1 d.2.1) (fun x=>(x,()))
theorem wi:zB prog vBj:=fA (rs:=.c (.own .i)) f55 yLq (fun d=>d.1) (e1 Ku) (qN yOd)
def qSh:zG:=⟨[(0,.c .i),(1,.c .i),(5,.c (.lit (.osl 1001000 none))),(13,.c .i),(14,.c .i)],[.mat],[]⟩
def yL3:zG:=⟨[(5,.c (.lit (.osl 1001000 none)))],[.mat],[]⟩
def yAo (f:Q6)(d:qSh.den):=f d.1.1.1 d.1.2.1.1 d.1.2.2.2.1.1 d.1.2.2.2.2.1.1 d.2.1
def Q7:qE:=⟨[qSh],[(.exit 0,yL3)],EQ,fun k d=>yAo (ET k k) d,fun b x _ K=>K (.exit 0) (zQ b yL3 (((),()),(x,())))⟩
def qTl:qF:=⟨[11],[(5,Q7)],[],false⟩
theorem yPx:qC prog 1000 0 25 (zY (qA f54) 0) Q7:=lp (A:=qTl) Q7 (fun d=>d.2.1) yAo ET Ay (e2 Ku wi) zE
def yVf:=zM 54 [.c .i,.c .i] (.c (.mat)) (fun k d=>Ax k d.1 d.2.1) (fun x=>(x,()))
theorem Gm:zB prog yVf:=fA (rs:=.c (.mat)) f54 qTl (fun d=>d.1) (e2 Ku wi) (qN yPx)
def yLf:zG:=⟨[(1,.c (.lit (.ptr 1001000 0))),(2,.c (.lit (.ptr 1001001 0))),(3,.c .i),(4,.c (.lit (.ptr 1001002 0))),(20,.c (.dat false jF)),(21,.c .i),(22,.c .i)],[.box true sS,.box true ki,.box true yIt,.arr true qZ,.mat,.arr true .i,.mat,.arr true .i],[(4,some 5,.i,false)]⟩
def qZr:zG:=⟨[(1,.c (.lit (.ptr 1001000 0))),(2,.c (.lit (.ptr 1001001 0))),(3,.c .i),(4,.c (.lit (.ptr 1001002 0)))],[.box true sS,.box true ki,.box true yIt,.arr true qZ,.mat,.arr true .i,.mat,.arr true .i],[]⟩
def yBm (f:Q8)(d:yLf.den):=f d.1.2.2.1.1 d.1.2.2.2.2.1.1 d.1.2.2.2.2.2.1.1 d.1.2.2.2.2.2.2.1.1 (vS d.2.1) (d.2.2.1.1,d.2.2.1.2.1,d.2.2.1.2.2.1) (d.2.2.2.1.1,d.2.2.2.1.2.1,d.2.2.2.1.2.2.1) d.2.2.2.2.1 d.2.2.2.2.2.1 d.2.2.2.2.2.2.1 d.2.2.2.2.2.2.2.1 d.2.2.2.2.2.2.2.2.1
def Kv:qE:=⟨[yLf],[(.exit 0,qZr)],Q9,fun k d=>yBm (Ra k k) d,fun b x _ K=>K (.exit 0) (zQ b qZr (((),(),(x.1,()),(),()),((ek x.2.1 ()),(x.2.2.1.1,x.2.2.1.2.1,x.2.2.1.2.2,()),(x.2.2.2.1.1,x.2.2.2.1.2.1,x.2.2.2.1.2.2,()),x.2.2.2.2.1,x.2.2.2.2.2.1,x.2.2.2.2.2.2.1,x.2.2.2.2.2.2.2.1,x.2.2.2.2.2.2.2.2,())))⟩
def yLh:zG:=⟨[(1,.c (.lit (.ptr 1001000 0))),(2,.c (.lit (.ptr 1001001 0))),(4,.c (.lit (.ptr 1001002 0))),(34,.c .i),(35,.c .i)],[.box true sS,.box true ki,.box true [.i,.lit (.osl 1001003 none),.lit (.osl 1001004 none),.lit (.osl 1001005 none),.lit (.osl 1001006 none),.lit (.osl 1001007 none),.lit (.osl 1001008 none),.lit .nsl,.lit .nsl,.i,.bool],.arr true qZ,.mat,.arr true .i,.mat,.arr true .i,.mat],[(4,some 6,(.sl .i),true)]⟩
def yIo:zG:=⟨[(2,.c (.lit (.ptr 1001000 0))),(4,.c (.lit (.ptr 1001001 0)))],[.box true ki,.box true [.i,.lit (.osl 1001002 none),.lit (.osl 1001003 none),.lit (.osl 1001004 none),.lit (.osl 1001005 none),.lit (.osl 1001006 none),.lit (.osl 1001007 none),.lit .nsl,.lit .nsl,.i,.bool],.arr true qZ,.mat,.arr true .i,.mat,.arr true .i,.mat],[]⟩
def yF1 (f:Rb)(d:yLh.den):=f d.1.2.2.2.1.1 d.1.2.2.2.2.1.1 (vS d.2.1) (d.2.2.1.1,d.2.2.1.2.1,d.2.2.1.2.2.1) (d.2.2.2.1.1,d.2.2.2.1.2.1,d.2.2.2.1.2.2.1) d.2.2.2.2.1 d.2.2.2.2.2.1 d.2.2.2.2.2.2.1 d.2.2.2.2.2.2.2.1 d.2.2.2.2.2.2.2.2.1 d.2.2.2.2.2.2.2.2.2.1
def Kw:qE:=⟨[yLh],[(.exit 2,yIo)],Rc,fun k d=>yF1 (Re k k) d,fun b x _ K=>K (.exit 2) (zQ b yIo (((),(),()),((x.1.1,x.1.2.1,x.1.2.2,()),(x.2.1.1,x.2.1.2.1,x.2.1.2.2,()),x.2.2.1,x.2.2.2.1,x.2.2.2.2.1,x.2.2.2.2.2.1,x.2.2.2.2.2.2.1,x.2.2.2.2.2.2.2,())))⟩
def qOp:qF:=⟨[43,44],[(4,Kv),(9,Kw)],[],true⟩
theorem yPd:qC prog 1000 0 48 (zY (qA f29) 0) Kv:=lp (A:=qOp) Kv (fun d=>(d.1.2.2.1.1,(vS d.2.1),(d.2.2.1.1,d.2.2.1.2.1,d.2.2.1.2.2.1),(d.2.2.2.1.1,d.2.2.2.1.2.1,d.2.2.2.1.2.2.1),d.2.2.2.2.1,d.2.2.2.2.2.1,d.2.2.2.2.2.2.1,d.2.2.2.2.2.2.2.1,d.2.2.2.2.2.2.2.2.1)) yBm Ra qU1 (e2 Gm wi) zE
theorem ySw:qC prog 1000 0 48 (zY (qA f29) 1) Kw:=lp (A:=qOp) Kw (fun d=>((d.2.1.1,d.2.1.2.1,d.2.1.2.2.1),(d.2.2.1.1,d.2.2.1.2.1,d.2.2.1.2.2.1),d.2.2.2.1,d.2.2.2.2.1,d.2.2.2.2.2.1,d.2.2.2.2.2.2.1,d.2.2.2.2.2.2.2.1,d.2.2.2.2.2.2.2.2.1)) yF1 Re yIe (e2 Gm wi) zE
def yNg:=zM 29 [.agg lL] (.agg Kx) (fun k d=>iV k (vS d)) (fun x=>(vK x ()))
theorem Ky:zB prog yNg:=fA (rs:=.agg Kx) f29 qOp (fun d=>(wB d)) (e2 Gm wi) (loopsOK_of (n:=2) (by kernel_rfl) fun i hi=>match i,hi with|0,_=>⟨Kv,by kernel_rfl,yPd⟩|1,_=>⟨Kw,by kernel_rfl,ySw⟩|i+2,hi=>absurd hi (by omega))
def vCg:=zM 52 [.c .bool] (.c .i) (fun k d=>Ip k d.1) (fun x=>(x,()))
theorem Rf:zB prog vCg:=fA (rs:=.c .i) f52 n0 (fun d=>d.1) e0 zE
def yE8:zG:=⟨[(3,.c (.lit (.osl 1001000 none))),(5,.c .i),(6,.c .i),(11,.c (.dat false .i)),(12,.c .i),(13,.c .i)],[.arr true (.int .u8)],[]⟩
def qR4:zG:=⟨[(3,.c (.lit (.osl 1001000 none))),(11,.c (.dat false .i)),(12,.c .i),(13,.c .i)],[.arr true (.int .u8)],[]⟩
def qRc (f:Rg)(d:yE8.den):=f d.1.2.1.1 d.1.2.2.1.1 d.1.2.2.2.1.1 d.1.2.2.2.2.1.1 d.1.2.2.2.2.2.1.1 d.2.1
def Rh:qE:=⟨[yE8],[(.exit 2,qR4)],Ri,fun k d=>qRc (se k k) d,fun b x _ K=>K (.exit 2) (zQ b qR4 (((),(x.1,()),(x.2.1,()),(x.2.2.1,()),()),(x.2.2.2,())))⟩
def qS5:zG:=⟨[(3,.c (.lit (.osl 1001000 none))),(11,.c (.dat false .i)),(12,.c .i),(13,.c .i)],[.arr true (.int .u8)],[]⟩
def yCh:zG:=⟨[(3,.c (.lit (.osl 1001000 none)))],[.arr true (.int .u8)],[]⟩
def yNf (f:Rj)(d:qS5.den):=f d.1.2.1.1 d.1.2.2.1.1 d.1.2.2.2.1.1 d.2.1
def Rk:qE:=⟨[qS5],[(.exit 0,yCh)],AC,fun k d=>yNf (uH k k) d,fun b x _ K=>K (.exit 0) (zQ b yCh (((),()),(x,())))⟩
def Rl:qF:=⟨[],[(6,Rh),(3,Rk)],[],true⟩
theorem ySk:qC prog 1000 0 31 (zY (zY (qA f74) 0) 0) Rh:=lp (A:=Rl) Rh (fun d=>(d.1.2.1.1,d.1.2.2.1.1,d.1.2.2.2.1.1,d.2.1)) qRc se Il e0 zE
theorem vDl:qC prog 1000 0 31 (zY (qA f74) 0) Rk:=lp (A:=Rl) Rk (fun d=>d.2.1) yNf uH zb e0 (qN ySk)
def vJ8:=zM 74 [.c (.dat false .i)] (.c (.own (.int .u8))) (fun k d=>sf k d.1) (fun x=>(x,()))
theorem Kz:zB prog vJ8:=fA (rs:=.c (.own (.int .u8))) f74 Rl (fun d=>d.1) e0 (qN vDl)
def yPj:=zM 87 [.c (.dat false .i)] (.c (.own (.int .u8))) (fun k d=>Im k d.1) (fun x=>(x,()))
theorem qXj:zB prog yPj:=fA (rs:=.c (.own (.int .u8))) f87 n0 (fun d=>d.1) (e1 Kz) zE
def qUh:zG:=⟨[(3,.c (.lit (.osl 1001000 none))),(6,.c (.dat false (.sl .i))),(7,.c .i),(8,.c .i)],[.arr true (.int .u8)],[(3,none,(.int .u8),false)]⟩
def yBc:zG:=⟨[(3,.c (.lit (.osl 1001000 none)))],[.arr true (.int .u8)],[]⟩
def yFv (f:Rm)(d:qUh.den):=f d.1.2.1.1 d.1.2.2.1.1 d.1.2.2.2.1.1 d.2.1
def Rn:qE:=⟨[qUh],[(.exit 0,yBc)],AC,fun k d=>yFv (zc k k) d,fun b x _ K=>K (.exit 0) (zQ b yBc (((),()),(x,())))⟩
def yE9:qF:=⟨[],[(3,Rn)],[],true⟩
theorem vId:qC prog 1000 0 18 (zY (qA f53) 0) Rn:=lp (A:=yE9) Rn (fun d=>d.2.1) yFv zc zd (e1 qXj) zE
def vFf:=zM 53 [.c (.dat false (.sl .i))] (.c (.own (.int .u8))) (fun k d=>Eo k d.1) (fun x=>(x,()))
theorem Ro:zB prog vFf:=fA (rs:=.c (.own (.int .u8))) f53 yE9 (fun d=>d.1) (e1 qXj) (qN vId)
def yMr:zG:=⟨[(1,.c (.lit (.ptr 1001000 0))),(3,.c (.lit (.ptr 1001001 0))),(4,.c (.lit (.osl 1001002 none))),(39,.c (.dat true qZ)),(40,.c .i),(41,.c .i)],[.box true kj,.box true fa,.arr true (.sl .i)],[]⟩
def yF6:zG:=⟨[(1,.c (.lit (.ptr 1001000 0))),(3,.c (.lit (.ptr 1001001 0))),(4,.c (.lit (.osl 1001002 none)))],[.box true kj,.box true fa,.arr true (.sl .i)],[]⟩
def yJc (f:Rp)(d:yMr.den):=f d.1.2.2.2.1.1 d.1.2.2.2.2.1.1 d.1.2.2.2.2.2.1.1 (wB d.2.1) (jK d.2.2.1) d.2.2.2.1
def KA:qE:=⟨[yMr],[(.exit 0,yF6)],Rq,fun k d=>yJc (uI k k) d,fun b x _ K=>K (.exit 0) (zQ b yF6 (((),(),(),()),((vK x.1 ()),(dy x.2.1 ()),x.2.2,())))⟩
def qSe:zG:=⟨[(1,.c (.lit (.ptr 1001000 0))),(4,.c (.lit (.osl 1001001 none))),(79,.c (.dat true zJ)),(80,.c .i),(81,.c .i)],[.box true kj,.arr true (.sl .i)],[]⟩
def qTe:zG:=⟨[(1,.c (.lit (.ptr 1001000 0))),(4,.c (.lit (.osl 1001001 none)))],[.box true kj,.arr true (.sl .i)],[]⟩
def yMe (f:Rr)(d:qSe.den):=f d.1.2.2.1.1 d.1.2.2.2.1.1 d.1.2.2.2.2.1.1 (wB d.2.1) d.2.2.1
def KB:qE:=⟨[qSe],[(.exit 2,qTe)],Rs,fun k d=>yMe (uJ k k) d,fun b x _ K=>K (.exit 2) (zQ b qTe (((),(),()),((vK x.1 ()),x.2,())))⟩
def Rt:qF:=⟨[],[(4,KA),(14,KB)],[],true⟩
theorem yU9:qC prog 1000 0 110 (zY (qA f28) 0) KA:=lp (A:=Rt) KA (fun d=>((wB d.2.1),(jK d.2.2.1),d.2.2.2.1)) yJc uI ze (e2 Rf Ro) zE
theorem vAk:qC prog 1000 0 110 (zY (qA f28) 1) KB:=lp (A:=Rt) KB (fun d=>((wB d.2.1),d.2.2.1)) yMe uJ zg (e2 Rf Ro) zE
def yYw:=zM 28 [.agg Gn] (.c (.own (.int .u8))) (fun k d=>fq k (wB d)) (fun x=>(x,()))
theorem pS:zB prog yYw:=fA (rs:=.c (.own (.int .u8))) f28 Rt (fun d=>d.1) (e2 Rf Ro) (loopsOK_of (n:=2) (by kernel_rfl) fun i hi=>match i,hi with|0,_=>⟨KA,by kernel_rfl,yU9⟩|1,_=>⟨KB,by kernel_rfl,vAk⟩|i+2,hi=>absurd hi (by omega))
def yPy:=zM 82 [.c (.dat false (.int .u8))] (.tup [(false,[.own (.int .u8)]),(false,[.bool])]) (fun k d=>En k d.1) (fun x=>(x.1,x.2,()))
theorem qQ2:zB prog yPy:=fA (rs:=.tup [(false,[.own (.int .u8)]),(false,[.bool])]) f82 n0 (fun d=>(d.1,d.2.1)) e0 zE
def yUt:=zM 83 [.ptr Gk] (.c .i) (fun k d=>Qt k (jV d)) (fun x=>(x,()))
theorem vLj:zB prog yUt:=fA (rs:=.c .i) f83 n0 (fun d=>d.1) e0 zE
def vD3:=zM 128 [.ptr Gk] (.c .bool) (fun k d=>KC k (jV d)) (fun x=>(x,()))
theorem Ru:zB prog vD3:=fA (rs:=.c .bool) f128 n0 (fun d=>d.1) e0 zE
def yTz:=yW 129 [.ptr true ie] (.c .bool) [vI] 0 (fun k d=>gI k (jV d)) (fun x=>(x.1,(eZ x.2 ())))
theorem Rv:zB prog yTz:=fX (rs:=.c .bool) (os:=[vI]) (ns:=0) f129 ⟨[],[],[(6,3)],true⟩ 1 (fun d=>(d.1,(Cl d))) e0 (yc (n:=1) (by kernel_rfl) fun i hi=>match i,hi with|0,_=>.inr ⟨by kernel_rfl,zE⟩|i+1,hi=>absurd hi (by omega))
def vAe:=yW 84 [.ptr true ie,.c (.p .i)] (.c .i) [vI] 0 (fun k d=>J2 k (jV d) d.2.2.2.2.2.2.2.2.2.2.1) (fun x=>(x.1,(eZ x.2 ())))
theorem yS3:zB prog vAe:=fX (rs:=.c .i) (os:=[vI]) (ns:=0) f84 n0 1 (fun d=>(d.1,(Cl d))) (e3 Ru QU Rv) zE
def yU6:=yW 85 [.ptr true ie,.c (.p .i),.c (.p (.dat false (.int .u8)))] (.c .i) [vI] 0 (fun k d=>sK k (jV d) d.2.2.2.2.2.2.2.2.2.2.1 d.2.2.2.2.2.2.2.2.2.2.2.1) (fun x=>(x.1,(eZ x.2 ())))
theorem qYf:zB prog yU6:=fX (rs:=.c .i) (os:=[vI]) (ns:=0) f85 n0 1 (fun d=>(d.1,(Cl d))) (e3 Ru QU Rv) zE
def yOr:=yW 86 [.ptr true ie] (.c .i) [vI] 0 (fun k d=>pO k (jV d)) (fun x=>(x.1,(eZ x.2 ())))
theorem yAr:zB prog yOr:=fX (rs:=.c .i) (os:=[vI]) (ns:=0) f86 ⟨[],[],[(4,3)],true⟩ 1 (fun d=>(d.1,(Cl d))) (e2 Ru Rv) (yc (n:=1) (by kernel_rfl) fun i hi=>match i,hi with|0,_=>.inr ⟨by kernel_rfl,zE⟩|i+1,hi=>absurd hi (by omega))
def vGf:=yW 51 [.ptr true ie,.c (.p .i),.c (.p .i),.c (.p (.dat false (.int .u8)))] (.c .i) [vI] 0 (fun k d=>F1 k (jV d) d.2.2.2.2.2.2.2.2.2.2.1 d.2.2.2.2.2.2.2.2.2.2.2.1 d.2.2.2.2.2.2.2.2.2.2.2.2.1) (fun x=>(x.1,(eZ x.2 ())))
theorem yB4:zB prog vGf:=fX (rs:=.c .i) (os:=[vI]) (ns:=0) f51 n0 1 (fun d=>(d.1,(Cl d))) (e6 Kz qQ2 vLj yS3 qYf yAr) zE
def yWy:=H0 27 [.ptr true ie,.c (.p (.dat false (.int .u8)))] (.tup [(false,[.link 1]),(false,lM),(false,oc),(false,qP)]) [vI,KD] 1 (.tup [(false,[.nilp]),(false,[.own (.int .u8)]),(false,[.own (.sl (.int .u8))]),(false,qP)]) [vI] 0 (fun k d=>J3 k (jV d) d.2.2.2.2.2.2.2.2.2.2.1) (fun x=>((),x.1,x.2.1,x.2.2.1,(eZ x.2.2.2.1 ((),(dy x.2.2.2.2 ()))))) (fun x=>((),x.1,x.2.1,x.2.2.1,(eZ x.2.2.2 ())))
theorem yIx:zB prog yWy:=fN (rs:=.tup [(false,[.link 1]),(false,lM),(false,oc),(false,qP)]) (os:=[vI,KD]) (ns:=1) (rs2:=.tup [(false,[.nilp]),(false,[.own (.int .u8)]),(false,[.own (.sl (.int .u8))]),(false,qP)]) (os2:=[vI]) (ns2:=0) f27 n0 1 (fun d=>(d.2.1,d.2.2.1,d.2.2.2.1,(yA8 d),(vJ7 d))) (fun d=>(d.2.1,d.2.2.1,d.2.2.2.1,(yA8 d))) (e2 Q3 yB4) zE
def vAm:=zM 89 [.c (.dat true (.int .u8))] (.tup [(false,n9),(false,lM),(false,[.bool])]) (fun k d=>Iq k d.1) (fun x=>(x.1,x.2.1,x.2.2,()))
theorem yYi:zB prog vAm:=fA (rs:=.tup [(false,n9),(false,lM),(false,[.bool])]) f89 n0 (fun d=>(d.1,d.2.1,d.2.2.1)) (e1 Gl) zE
def ySu:=yW 58 [.ptr true [.p (.dat true (.int .u8)),.p .bool]] (.c (.own .i)) [[.fro (.int .u8),.bool]] 0 (fun k d=>sM k (d.1,d.2.1)) (fun x=>(x.1,x.2.1,x.2.2,()))
theorem Cm:zB prog ySu:=fX (rs:=.c (.own .i)) (os:=[[.fro (.int .u8),.bool]]) (ns:=0) f58 n0 1 (fun d=>(d.1,(d.2.1,d.2.2.1))) (e1 yYi) zE
def vKd:=yW 56 [.ptr true [.p (.dat true (.int .u8)),.p .bool],.c (.p .i)] (.c (.own .i)) [[.fro (.int .u8),.bool]] 0 (fun k d=>B2 k (d.1,d.2.1) d.2.2.1) (fun x=>(x.1,x.2.1,x.2.2,()))
theorem Rw:zB prog vKd:=fX (rs:=.c (.own .i)) (os:=[[.fro (.int .u8),.bool]]) (ns:=0) f56 n0 1 (fun d=>(d.1,(d.2.1,d.2.2.1))) (e1 Cm) zE
def qSl:zG:=⟨[(0,.c (.lit (.ptr 1001000 0))),(1,.c .i),(5,.c (.lit (.osl 1001001 none)))],[.box true Cn,.arr true (.sl .i)],[(5,none,(.sl .i),false)]⟩
def qQ4:zG:=⟨[(0,.c (.lit (.ptr 1001000 0))),(5,.c (.lit (.osl 1001001 none)))],[.box true Cn,.arr true (.sl .i)],[]⟩
def qV4 (f:Rx)(d:qSl.den):=f d.1.2.1.1 (d.2.1.1,d.2.1.2.1) d.2.2.1
def Ry:qE:=⟨[qSl],[(.exit 0,qQ4)],Rz,fun k d=>qV4 (F7 k k) d,fun b x _ K=>K (.exit 0) (zQ b qQ4 (((),(),()),((x.1.1,x.1.2,()),x.2,())))⟩
def qUd:qF:=⟨[],[(2,Ry)],[],true⟩
theorem yYj:qC prog 1000 1 23 (zY (qA f57) 0) Ry:=lp (A:=qUd) Ry (fun d=>((d.2.1.1,d.2.1.2.1),d.2.2.1)) qV4 F7 J4 (e1 Cm) zE
def yQv:=yW 57 [.ptr true [.p (.dat true (.int .u8)),.p .bool],.c (.p .i)] (.c (.own (.sl .i))) [[.fro (.int .u8),.bool]] 0 (fun k d=>B3 k (d.1,d.2.1) d.2.2.1) (fun x=>(x.1,x.2.1,x.2.2,()))
theorem RA:zB prog yQv:=fX (rs:=.c (.own (.sl .i))) (os:=[[.fro (.int .u8),.bool]]) (ns:=0) f57 qUd 1 (fun d=>(d.1,(d.2.1,d.2.2.1))) (e1 Cm) (qN yYj)
def vH4:=zM 59 [.c (.dat false (.int .u8)),.c (.dat false (.int .u8))] (.c .bool) (fun k d=>Qy k d.1 d.2.1) (fun x=>(x,()))
theorem RB:zB prog vH4:=fA (rs:=.c .bool) f59 n0 (fun d=>d.1) e0 zE
def yB0:zG:=⟨[(0,.c (.dat true (.int .u8))),(2,.c (.lit (.ptr 1001000 0))),(4,.c (.lit (.ptr 1001001 0))),(5,.c (.lit (.osl 1001002 none))),(6,.c (.lit (.ptr 1001003 0))),(7,.c .i)],[.box true ki,.box true Cn,.arr true .i,.box true yI0,.arr true qZ],[(6,some 1,qZ,false)]⟩
def yDv:zG:=⟨[(0,.c (.dat true (.int .u8))),(2,.c (.lit (.ptr 1001000 0))),(4,.c (.lit (.ptr 1001001 0))),(5,.c (.lit (.osl 1001002 none))),(6,.c (.lit (.ptr 1001003 0)))],[.box true ki,.box true Cn,.arr true .i,.box true yI0,.arr true qZ],[]⟩
def yGn (f:RD)(d:yB0.den):=f d.1.1.1 d.1.2.2.2.2.2.1.1 (d.2.1.1,d.2.1.2.1,d.2.1.2.2.1) (d.2.2.1.1,d.2.2.1.2.1) d.2.2.2.1 (d.2.2.2.2.1.1,d.2.2.2.2.1.2.1,d.2.2.2.2.1.2.2.1) d.2.2.2.2.2.1
def KE:qE:=⟨[yB0],[(.exit 0,yDv)],RE,fun k d=>yGn (B4 k k) d,fun b x _ K=>K (.exit 0) (zQ b yDv (((x.1,()),(),(),(),(),()),((x.2.1.1,x.2.1.2.1,x.2.1.2.2,()),(x.2.2.1.1,x.2.2.1.2,()),x.2.2.2.1,(x.2.2.2.2.1.1,x.2.2.2.2.1.2.1,x.2.2.2.2.1.2.2,()),x.2.2.2.2.2,())))⟩
def yA3:zG:=⟨[(0,.c (.dat true (.int .u8))),(2,.c (.lit (.ptr 1001000 0))),(4,.c (.lit (.ptr 1001001 0))),(6,.c (.lit (.ptr 1001002 0))),(9,.c .i)],[.box true ki,.box true Cn,.box true yCj,.arr true qZ,.arr true (.sl .i),.arr true .i,.arr true (.sl .i),.arr true .i,.arr true (.sl .i),.arr true zJ],[(6,some 7,zJ,false)]⟩
def yFz:zG:=⟨[(0,.c (.dat true (.int .u8))),(2,.c (.lit (.ptr 1001000 0))),(4,.c (.lit (.ptr 1001001 0))),(6,.c (.lit (.ptr 1001002 0)))],[.box true ki,.box true Cn,.box true yCj,.arr true qZ,.arr true (.sl .i),.arr true .i,.arr true (.sl .i),.arr true .i,.arr true (.sl .i),.arr true zJ],[]⟩
def yGr (f:RF)(d:yA3.den):=f d.1.1.1 d.1.2.2.2.2.1.1 (d.2.1.1,d.2.1.2.1,d.2.1.2.2.1) (d.2.2.1.1,d.2.2.1.2.1) (d.2.2.2.1.1,d.2.2.2.1.2.1,d.2.2.2.1.2.2.1) d.2.2.2.2.1 d.2.2.2.2.2.1 d.2.2.2.2.2.2.1 d.2.2.2.2.2.2.2.1 d.2.2.2.2.2.2.2.2.1 d.2.2.2.2.2.2.2.2.2.1 d.2.2.2.2.2.2.2.2.2.2.1
def KF:qE:=⟨[yA3],[(.exit 2,yFz)],RG,fun k d=>yGr (B5 k k) d,fun b x _ K=>K (.exit 2) (zQ b yFz (((x.1,()),(),(),(),()),((x.2.1.1,x.2.1.2.1,x.2.1.2.2,()),(x.2.2.1.1,x.2.2.1.2,()),(x.2.2.2.1.1,x.2.2.2.1.2.1,x.2.2.2.1.2.2,()),x.2.2.2.2.1,x.2.2.2.2.2.1,x.2.2.2.2.2.2.1,x.2.2.2.2.2.2.2.1,x.2.2.2.2.2.2.2.2.1,x.2.2.2.2.2.2.2.2.2.1,x.2.2.2.2.2.2.2.2.2.2,())))⟩
def RH:qF:=⟨[],[(5,KE),(15,KF)],[],true⟩
theorem vEi:qC prog 1000 0 146 (zY (qA f30) 0) KE:=lp (A:=RH) KE (fun d=>(d.1.1.1,(d.2.1.1,d.2.1.2.1,d.2.1.2.2.1),(d.2.2.1.1,d.2.2.1.2.1),d.2.2.2.1,(d.2.2.2.2.1.1,d.2.2.2.2.1.2.1,d.2.2.2.2.1.2.2.1),d.2.2.2.2.2.1)) yGn B4 J5 (e5 Rw RA Cm pS RB) zE
theorem vIv:qC prog 1000 0 146 (zY (qA f30) 1) KF:=lp (A:=RH) KF (fun d=>(d.1.1.1,(d.2.1.1,d.2.1.2.1,d.2.1.2.2.1),(d.2.2.1.1,d.2.2.1.2.1),(d.2.2.2.1.1,d.2.2.2.1.2.1,d.2.2.2.1.2.2.1),d.2.2.2.2.1,d.2.2.2.2.2.1,d.2.2.2.2.2.2.1,d.2.2.2.2.2.2.2.1,d.2.2.2.2.2.2.2.2.1,d.2.2.2.2.2.2.2.2.2.1,d.2.2.2.2.2.2.2.2.2.2.1)) yGr B5 J6 (e5 Rw RA Cm pS RB) zE
def yUd:=zM 30 [.c (.dat true (.int .u8))] (.tup [(true,od),(false,[.bool])]) (fun k d=>B6 k d.1) (fun x=>(vK x.1 (x.2,())))
theorem KG:zB prog yUd:=fA (rs:=.tup [(true,od),(false,[.bool])]) f30 RH (fun d=>((wB d),d.2.2.2.2.2.2.2.2.2.2.2.1)) (e5 Rw RA Cm pS RB) (loopsOK_of (n:=2) (by kernel_rfl) fun i hi=>match i,hi with|0,_=>⟨KE,by kernel_rfl,vEi⟩|1,_=>⟨KF,by kernel_rfl,vIv⟩|i+2,hi=>absurd hi (by omega))
def yVu:=zM 40 [.c .i] (.c .i) (fun k d=>sb k d.1) (fun x=>(x,()))
theorem KH:zB prog yVu:=fA (rs:=.c .i) f40 n0 (fun d=>d.1) e0 zE
def vHw:=zM 13 [.c (.dat false (.int .u8))] (.tup [(true,lN),(false,qP)]) (fun k d=>lr k d.1) (fun x=>(j5 x.1 (x.2,())))
theorem Gp:zB prog vHw:=fA (rs:=.tup [(true,lN),(false,qP)]) f13 n0 (fun d=>((dO d),d.2.2.2.2.2.2.2.1)) (e2 Gl KH) zE
def yXh:=zM 32 [.c (.dat false (.int .u8))] (.tup [(true,Co),(false,qP)]) (fun k d=>pL k d.1) (fun x=>(Cp x.1 (x.2,())))
theorem KI:zB prog yXh:=fA (rs:=.tup [(true,Co),(false,qP)]) f32 n0 (fun d=>((kO d),d.2.2.2.2.2.2.2.2.1)) (e2 Gl Gp) zE
def yXx:=zM 108 [.c .i] (.c .bool) (fun k d=>JK k d.1) (fun x=>(x,()))
theorem vJ2:zB prog yXx:=fA (rs:=.c .bool) f108 n0 (fun d=>d.1) e0 zE
def vI4:=zM 109 [.c .i] (.c .bool) (fun k d=>FD k d.1) (fun x=>(x,()))
theorem vLk:zB prog vI4:=fA (rs:=.c .bool) f109 n0 (fun d=>d.1) e0 zE
def qSc:zG:=⟨[(13,.c (.dat true .i)),(14,.c .i),(15,.c .i)],[],[]⟩
def qYj:zG:=⟨[],[],[]⟩
def qXn:zG:=⟨[(2,.c .bool)],[],[]⟩
def yBp (f:RI)(d:qSc.den):=f d.1.1.1 d.1.2.1.1 d.1.2.2.1.1
def RJ:qE:=⟨[qSc],[(.exit 0,qYj),(.ret,qXn)],(Unit⊕Bool),fun k d=>yBp (mF k k) d,fun b x _ K=>match x with|.inl x=>K (.exit 0) (zQ b qYj ((),()))|.inr x=>K .ret (zQ b qXn (((x,()),()),()))⟩
def qVd:qF:=⟨[],[(5,RJ)],[],true⟩
theorem vHn:qC prog 1000 0 22 (zY (qA f110) 0) RJ:=lp (A:=qVd) RJ (fun d=>match d with|.inl d=>.inl ()|.inr d=>.inr d.1.1.1) yBp mF lI (e1 KH) zE
def vE0:=zM 110 [.agg wH] (.c .bool) (fun k d=>kN k (dO d)) (fun x=>(x,()))
theorem qS9:zB prog vE0:=fA (rs:=.c .bool) f110 qVd (fun d=>d.1) (e1 KH) (qN vHn)
def yXw:=zM 65 [.agg lL,.agg sU,.agg Gq] (.c .i) (fun k d=>BH k (vS d) (pQ d) (yJa d)) (fun x=>(x,()))
theorem vGj:zB prog yXw:=fA (rs:=.c .i) f65 n0 (fun d=>d.1) (e3 vJ2 vLk qS9) zE
def vLh:=zM 138 [.agg wH,.ptr [.i]] (.c .bool) (fun k d=>(oe (P0 k) d)) (fun x=>(x,()))
theorem qQ1:zB prog vLh:=fA (rs:=.c .bool) f138 ⟨[],[],[],false⟩ (fun d=>d.1) e0 zE
def yAt:zG:=⟨[(1,.c (.lit (.fn 138 [1001000]))),(5,.c (.lit (.osl 1001001 none))),(8,.c (.dat false zJ)),(9,.c .i),(10,.c .i)],[.robox [.i],.arr true zJ],[(5,none,zJ,false)]⟩
def qVg:zG:=⟨[(5,.c (.lit (.osl 1001000 none)))],[.arr true zJ],[]⟩
def yF8 (f:RK)(d:yAt.den):=f d.1.2.2.1.1 d.1.2.2.2.1.1 d.1.2.2.2.2.1.1 d.2.1.1 d.2.2.1
def RM:qE:=⟨[yAt],[(.exit 0,qVg)],RN,fun k d=>yF8 (Ft k k) d,fun b x _ K=>K (.exit 0) (zQ b qVg (((),()),(x,())))⟩
def qZi:qF:=⟨[],[(3,RM)],[],false⟩
theorem yQs:qC prog 1000 0 23 (zY (qA f137) 0) RM:=lp (A:=qZi) RM (fun d=>d.2.1) yF8 Ft Bm (e1 qQ1) zE
def yYk:=zM 137 [.c (.dat false zJ),.fn 138 [[.i]]] (.c (.own zJ)) (fun k d=>PZ k d.1 d.2.1) (fun x=>(x,()))
theorem vJ1:zB prog yYk:=fA (rs:=.c (.own zJ)) f137 qZi (fun d=>d.1) (e1 qQ1) (qN yQs)
def yR5:=zM 111 [.c (.dat false zJ),.c .i] (.c (.own zJ)) (fun k d=>Fs k d.1 d.2.1) (fun x=>(x,()))
theorem Gr:zB prog yR5:=fA (rs:=.c (.own zJ)) f111 ⟨[],[],[],false⟩ (fun d=>d.1) (e1 vJ1) zE
def vDt:=yW 67 [.ptr true [.p .i,.p (.nil),.p .i,.p .i,.p .i,.p .i,.p (.nil),.p (.nil),.p (.nil),.p (.nil),.p (.nil),.p (.nil),.p (.nil),.p (.nil),.p .i,.p .bool,.p .i,.p (.nil)],.c (.p .i),.c (.p (.dat false .i))] (.tup []) [yH2] 0 (fun k d=>yFy k (d.1,(RO d (d.2.2.2.2.2.2.2.2.2.2.2.2.2.2.1,d.2.2.2.2.2.2.2.2.2.2.2.2.2.2.2.1,d.2.2.2.2.2.2.2.2.2.2.2.2.2.2.2.2.1))) d.2.2.2.2.2.2.2.2.2.2.2.2.2.2.2.2.2.2.1 d.2.2.2.2.2.2.2.2.2.2.2.2.2.2.2.2.2.2.2.1) (fun x=>(wZ x ()))
theorem ySp:zB prog vDt:=fX (rs:=.tup []) (os:=[yH2]) (ns:=0) f67 n0 1 (fun d=>(dz d)) e0 zE
def yX8:=zM 66 [.agg sU,.c .i] (.c (.own qQ)) (fun k d=>FO k (wB d) d.2.2.2.2.2.2.2.2.2.2.2.1) (fun x=>(x,()))
theorem yPv:zB prog yX8:=fA (rs:=.c (.own qQ)) f66 n0 (fun d=>d.1) (e2 Gr ySp) zE
def yWo:=yW 67 [.ptr true sV,.c (.p .i),.c (.p (.dat false .i))] (.tup []) [wE] 0 (fun k d=>JU k (ig d) d.2.2.2.2.2.2.2.2.2.2.2.2.2.2.2.2.2.2.1 d.2.2.2.2.2.2.2.2.2.2.2.2.2.2.2.2.2.2.2.1) (fun x=>(wZ x ()))
theorem qSb:zB prog yWo:=fX (rs:=.tup []) (os:=[wE]) (ns:=0) f67 n0 1 (fun d=>(dz d)) e0 zE
def yV7:=zM 60 [.c .i,.c .i,.c .i] (.c .bool) (fun k d=>yS k d.1 d.2.1 d.2.2.1) (fun x=>(x,()))
theorem fb:zB prog yV7:=fA (rs:=.c .bool) f60 n0 (fun d=>d.1) e0 zE
def vJt:=zM 184 [.agg lL,.c .i] (.c .bool) (fun k d=>FA k (vS d) d.2.2.2.2.2.1) (fun x=>(x,()))
theorem vKg:zB prog vJt:=fA (rs:=.c .bool) f184 n0 (fun d=>d.1) e0 zE
def yZw:=zM 165 [.agg lL,.c .i,.agg wH] (.c .bool) (fun k d=>JG k (vS d) d.2.2.2.2.2.1 (qZk d)) (fun x=>(x,()))
theorem yQh:zB prog yZw:=fA (rs:=.c .bool) f165 n0 (fun d=>d.1) (e1 vKg) zE
def vIe:=zM 144 [.agg lL,.c .i,.c .i] (.c .i) (fun k d=>vm k (vS d) d.2.2.2.2.2.1 d.2.2.2.2.2.2.1) (fun x=>(x,()))
theorem RP:zB prog vIe:=fA (rs:=.c .i) f144 n0 (fun d=>d.1) e0 zE
def yTd:=zM 139 [.agg lL,.c .i,.agg wH] (.c .i) (fun k d=>BE k (vS d) d.2.2.2.2.2.1 (qZk d)) (fun x=>(x,()))
theorem yHb:zB prog yTd:=fA (rs:=.c .i) f139 n0 (fun d=>d.1) (e2 yQh RP) zE
def vIu:=zM 182 [.c .i] (.c .bool) (fun k d=>Jf k d.1) (fun x=>(x,()))
theorem yUy:zB prog vIu:=fA (rs:=.c .bool) f182 n0 (fun d=>d.1) e0 zE
def vEd:=zM 161 [.c .i,.c .i] (.c .bool) (fun k d=>Je k d.1 d.2.1) (fun x=>(x,()))
theorem yMc:zB prog vEd:=fA (rs:=.c .bool) f161 n0 (fun d=>d.1) (e1 yUy) zE
def yTo:=zM 162 [.c .i] (.c .bool) (fun k d=>Jh k d.1) (fun x=>(x,()))
theorem qVz:zB prog yTo:=fA (rs:=.c .bool) f162 n0 (fun d=>d.1) e0 zE
def yCu:zG:=⟨[(0,.c (.dat false .i)),(1,.c .i),(6,.c .i),(7,.c .i),(8,.c .i)],[],[]⟩
def yAu:zG:=⟨[(0,.c (.dat false .i)),(1,.c .i),(6,.c .i),(7,.c .i)],[],[]⟩
def qVa (f:RQ)(d:yCu.den):=f d.1.1.1 d.1.2.1.1 d.1.2.2.1.1 d.1.2.2.2.1.1 d.1.2.2.2.2.1.1
def RR:qE:=⟨[yCu],[(.exit 0,yAu)],RT,fun k d=>qVa (Fe k k) d,fun b x _ K=>K (.exit 0) (zQ b yAu (((x.1,()),(x.2.1,()),(x.2.2.1,()),(x.2.2.2,()),()),()))⟩
def yH5:qF:=⟨[],[(3,RR)],[],true⟩
theorem vFp:qC prog 1000 0 54 (zY (qA f134) 0) RR:=lp (A:=yH5) RR (fun d=>(d.1.1.1,d.1.2.1.1,d.1.2.2.1.1,d.1.2.2.2.1.1)) qVa Fe Jg (e2 yMc qVz) zE
def yTv:=zM 134 [.c (.dat false .i),.c .i] (.tup [(false,qP),(false,[.bool])]) (fun k d=>A5 k d.1 d.2.1) (fun x=>(x.1,x.2,()))
theorem qY2:zB prog yTv:=fA (rs:=.tup [(false,qP),(false,[.bool])]) f134 yH5 (fun d=>(d.1,d.2.1)) (e2 yMc qVz) (qN vFp)
def yZ0:=rS 167 false .i (.own .i) mr
theorem Gs:zB prog yZ0:=fC f167 ⟨[],[],[],false⟩ e0 zE
theorem yUb (A X:Option Addr)(n c vc:Nat)(w w':World)(rv:Value)(hr:(Builtin.append_ #[28,28] 28 #[.slice A n c,.slice X 1 vc]).run prog w=.ok rv w'):
    Calls prog 166 #[.slice A n c,.int .i64 n,.slice X 1 vc] w fun e ll=>e=.returned rv∧ll=w':=by
  have t0:prog.underlying 28=some (.slice 2):=by kernel_rfl
  have t3:prog.underlying 3=some (.int .i64):=by kernel_rfl
  have z0:∀w,(Go.sizeOf 2).run prog w=.ok 1 w:=fun w=>by kernel_rfl
  have u0:=run_underlying t0;have u3:=run_underlying t3
  go_enter Proofs.Tryz.func166,Proofs.Tryz.ntmps166
  go_wp2_with (at_builtin;refine Lib.wpList_append_run _ rfl _ _ _ _ rfl _ _ rfl rfl _ _ hr ?_)
  all_goals (go_ret;exact⟨rfl,rfl⟩)
theorem vBp:H2 prog 166 28 3 1 where
  ends:=yUb
  grow B off n c i X vo vc N G w w1 w2 w3 hi hnc az RU hG hz hA hB:=by
    simp only[Nat.mul_one] at hA hB
    have t0:prog.underlying 28=some (.slice 2):=by kernel_rfl
    have t3:prog.underlying 3=some (.int .i64):=by kernel_rfl
    have z0:∀w,(Go.sizeOf 2).run prog w=.ok 1 w:=fun w=>by kernel_rfl
    have u0:=run_underlying t0;have u3:=run_underlying t3
    have mixed:prog.follows .mixedOrders=true:=gJ
    have RV:¬((i:Int)=(n:Int)):=by omega
    have DP:IntKind.i64.wrap ((i:Int)+1)=(i:Int)+1:=by rw[IntKind.wrap_i64];omega
    have eN:(0:Int)≤(i:Int)+1:=by omega
    have eK:i≤n:=by omega
    have ef:((i:Int)+1).toNat=i+1:=by omega
    have RW:¬(c=i):=by omega
    have hz3:(c:Int)<(n:Int)+1:=by omega
    have RX:(i:Int)≤(n:Int):=by omega
    have hGi:¬(G=i):=by omega
    have RY:¬(G=i+1):=by omega
    go_enter Proofs.Tryz.func166,Proofs.Tryz.ntmps166
    go_wp2_with (first
      |(at_builtin;refine Lib.wpList_append_run _ rfl _ _ _ _ rfl _ _ rfl rfl _ _ hz ?_)
      |(at_builtin;refine H6 _ rfl _ _ 28 28 rfl _ _ rfl rfl (hA _) ?_))
    go_region_law_o (refine H7 rfl _ _ 28 28 rfl (.slice (some ⟨N,(i+1),none⟩) (n+1-(i+1)) (G-(i+1))) (.slice (some ⟨B,off+i,none⟩) (n-i) (c-i)) (by simp[Act.eval,Act.put]) (by simp[Act.eval,Act.put]) (hB (G-(i+1)) (c-i)) ?_)
    go_wp2
    go_ret
    exact⟨rfl,rfl⟩
  shift B off n c i X vo vc w w1 w2 hi az RU nz hA hB:=by
    simp only[Nat.mul_one] at hA hB
    have t0:prog.underlying 28=some (.slice 2):=by kernel_rfl
    have t3:prog.underlying 3=some (.int .i64):=by kernel_rfl
    have z0:∀w,(Go.sizeOf 2).run prog w=.ok 1 w:=fun w=>by kernel_rfl
    have u0:=run_underlying t0;have u3:=run_underlying t3
    have mixed:prog.follows .mixedOrders=true:=gJ
    have RV:¬((i:Int)=(n:Int)):=by omega
    have DP:IntKind.i64.wrap ((i:Int)+1)=(i:Int)+1:=by rw[IntKind.wrap_i64];omega
    have eN:(0:Int)≤(i:Int)+1:=by omega
    have eK:i≤n:=by omega
    have ef:((i:Int)+1).toNat=i+1:=by omega
    have RW:¬(c=i):=by omega
    have FP:=fun lb cb=>ZS (P:=prog) (fo:=185) (tb:=4) (e:=2) (size:=1) Proofs.Tryz.func185 (by kernel_rfl) (by kernel_rfl) (by kernel_rfl) (by kernel_rfl) t0 z0 nz vo (off+(i+1)) vc lb cb
    have Kl:¬(c=i+1):=by omega
    have RX:(i:Int)≤(n:Int)+1:=by omega
    go_enter Proofs.Tryz.func166,Proofs.Tryz.ntmps166
    go_wp2_with (simp only[FP])
    go_region_law_o (refine H7 rfl _ _ 28 28 rfl (.slice (some ⟨B,off+(i+1),none⟩) (n-i) (c-(i+1))) (.slice (some ⟨B,off+i,none⟩) (n+1-i) (c-i)) (by simp[Act.eval,Act.put]) (by simp[Act.eval,Act.put]) (hA _ _) ?_)
    go_wp2_with (at_builtin;refine H6 _ rfl _ _ 28 28 rfl _ _ rfl rfl (hB _) ?_)
    go_ret
    exact⟨rfl,rfl⟩
def vJ3:Nat×kF:=(166,Ob .i 8)
theorem vB8:zB prog vJ3:=Z1 (e:=2) (fn:=f166) vBp
def yTl:=zM 140 [.c (.dat true .i),.c .i] (.tup [(false,[.fro .i]),(false,qP)]) (fun k d=>A6 k d.1 d.2.1) (fun x=>(x.1,x.2,()))
theorem yEh:zB prog yTl:=fA (rs:=.tup [(false,[.fro .i]),(false,qP)]) f140 n0 (fun d=>(d.1,d.2.1)) (e3 qY2 Gs vB8) zE
def vBo:=zM 125 [.agg wH,.ptr [.i]] (.c .bool) (fun k d=>(oe (Ps k) d)) (fun x=>(x,()))
theorem yH8:zB prog vBo:=fA (rs:=.c .bool) f125 ⟨[],[],[],false⟩ (fun d=>d.1) e0 zE
def yA4:zG:=⟨[(0,.c (.dat false zJ)),(1,.c (.lit (.fn 125 [1001000]))),(7,.c .i),(8,.c .i)],[.robox [.i]],[]⟩
def qVw:zG:=⟨[],[],[]⟩
def qWe:zG:=⟨[(4,.c .i)],[],[]⟩
def yEo (f:RZ)(d:yA4.den):=f d.1.1.1 d.1.2.2.1.1 d.1.2.2.2.1.1 d.2.1.1
def R0:qE:=⟨[yA4],[(.exit 0,qVw),(.ret,qWe)],(Unit⊕Int),fun k d=>yEo (AR k k) d,fun b x _ K=>match x with|.inl x=>K (.exit 0) (zQ b qVw ((),()))|.inr x=>K .ret (zQ b qWe (((x,()),()),()))⟩
def yBb:qF:=⟨[],[(2,R0)],[],false⟩
theorem yW4:qC prog 1000 0 19 (zY (qA f124) 0) R0:=lp (A:=yBb) R0 (fun d=>match d with|.inl d=>.inl ()|.inr d=>.inr d.1.1.1) yEo AR AT (e1 yH8) zE
def vCd:=zM 124 [.c (.dat false zJ),.fn 125 [[.i]]] (.c .i) (fun k d=>Pt k d.1 d.2.1) (fun x=>(x,()))
theorem yTc:zB prog vCd:=fA (rs:=.c .i) f124 yBb (fun d=>d.1) (e1 yH8) (qN yW4)
def yX7:=zM 71 [.c (.dat false zJ),.c .i] (.c .i) (fun k d=>lC k d.1 d.2.1) (fun x=>(x,()))
theorem sW:zB prog yX7:=fA (rs:=.c .i) f71 ⟨[],[],[],false⟩ (fun d=>d.1) (e1 yTc) zE
def vJz:=zM 183 [.c .i] (.c .bool) (fun k d=>Ja k d.1) (fun x=>(x,()))
theorem yQi:zB prog vJz:=fA (rs:=.c .bool) f183 ⟨[],[],[],false⟩ (fun d=>d.1) e0 zE
def yZr:=zM 164 [.c .i,.c .i] (.c .i) (fun k d=>E7 k d.1 d.2.1) (fun x=>(x,()))
theorem vBh:zB prog yZr:=fA (rs:=.c .i) f164 ⟨[],[],[],false⟩ (fun d=>d.1) (e1 yQi) zE
def qWx:zG:=⟨[(3,.c .i),(6,.c (.dat false .i)),(7,.c .i),(8,.c .i)],[],[]⟩
def qQx:zG:=⟨[(3,.c .i)],[],[]⟩
def yE7:zG:=⟨[(2,.c .i)],[],[]⟩
def qTw (f:R1)(d:qWx.den):=f d.1.1.1 d.1.2.1.1 d.1.2.2.1.1 d.1.2.2.2.1.1
def R2:qE:=⟨[qWx],[(.exit 0,qQx),(.ret,yE7)],(Int⊕Int),fun k d=>qTw (AU k k) d,fun b x _ K=>match x with|.inl x=>K (.exit 0) (zQ b qQx (((x,()),()),()))|.inr x=>K .ret (zQ b yE7 (((x,()),()),()))⟩
def yLr:qF:=⟨[],[(3,R2)],[],false⟩
theorem vBy:qC prog 1000 0 18 (zY (qA f163) 0) R2:=lp (A:=yLr) R2 (fun d=>match d with|.inl d=>.inl d.1.1.1|.inr d=>.inr d.1.1.1) qTw AU qWh e0 zE
def vK4:=zM 163 [.c (.dat false .i)] (.c .i) (fun k d=>I9 k d.1) (fun x=>(x,()))
theorem yOj:zB prog vK4:=fA (rs:=.c .i) f163 yLr (fun d=>d.1) e0 (qN vBy)
def yOu:=zM 136 [.agg wH,.agg wH] (.c .i) (fun k d=>(Gt (AV k) d)) (fun x=>(x,()))
theorem Cq:zB prog yOu:=fA (rs:=.c .i) f136 ⟨[],[],[],false⟩ (fun d=>d.1) (e2 vBh yOj) zE
def yQf:=rS 169 false zJ (.own zJ) sr
theorem KJ:zB prog yQf:=fC f169 ⟨[],[],[],false⟩ e0 zE
theorem ySj (A X:Option Addr)(n c vc:Nat)(w w':World)(rv:Value)(hr:(Builtin.append_ #[31,31] 31 #[.slice A n c,.slice X 1 vc]).run prog w=.ok rv w'):
    Calls prog 168 #[.slice A n c,.int .i64 n,.slice X 1 vc] w fun e ll=>e=.returned rv∧ll=w':=by
  have t0:prog.underlying 31=some (.slice 133):=by kernel_rfl
  have t3:prog.underlying 3=some (.int .i64):=by kernel_rfl
  have z0:∀w,(Go.sizeOf 133).run prog w=.ok 7 w:=fun w=>by kernel_rfl
  have u0:=run_underlying t0;have u3:=run_underlying t3
  go_enter Proofs.Tryz.func168,Proofs.Tryz.ntmps168
  go_wp2_with (at_builtin;refine Lib.wpList_append_run _ rfl _ _ _ _ rfl _ _ rfl rfl _ _ hr ?_)
  all_goals (go_ret;exact⟨rfl,rfl⟩)
theorem vH0:H2 prog 168 31 3 7 where
  ends:=ySj
  grow B off n c i X vo vc N G w w1 w2 w3 hi hnc az RU hG hz hA hB:=by
    have t0:prog.underlying 31=some (.slice 133):=by kernel_rfl
    have t3:prog.underlying 3=some (.int .i64):=by kernel_rfl
    have z0:∀w,(Go.sizeOf 133).run prog w=.ok 7 w:=fun w=>by kernel_rfl
    have u0:=run_underlying t0;have u3:=run_underlying t3
    have mixed:prog.follows .mixedOrders=true:=gJ
    have RV:¬((i:Int)=(n:Int)):=by omega
    have DP:IntKind.i64.wrap ((i:Int)+1)=(i:Int)+1:=by rw[IntKind.wrap_i64];omega
    have eN:(0:Int)≤(i:Int)+1:=by omega
    have eK:i≤n:=by omega
    have ef:((i:Int)+1).toNat=i+1:=by omega
    have RW:¬(c=i):=by omega
    have hz3:(c:Int)<(n:Int)+1:=by omega
    have RX:(i:Int)≤(n:Int):=by omega
    have hGi:¬(G=i):=by omega
    have RY:¬(G=i+1):=by omega
    go_enter Proofs.Tryz.func168,Proofs.Tryz.ntmps168
    go_wp2_with (first
      |(at_builtin;refine Lib.wpList_append_run _ rfl _ _ _ _ rfl _ _ rfl rfl _ _ hz ?_)
      |(at_builtin;refine H6 _ rfl _ _ 31 31 rfl _ _ rfl rfl (hA _) ?_))
    go_region_law_o (refine H7 rfl _ _ 31 31 rfl (.slice (some ⟨N,(i+1)*7,none⟩) (n+1-(i+1)) (G-(i+1))) (.slice (some ⟨B,off+i*7,none⟩) (n-i) (c-i)) (by simp[Act.eval,Act.put]) (by simp[Act.eval,Act.put]) (hB (G-(i+1)) (c-i)) ?_)
    go_wp2
    go_ret
    exact⟨rfl,rfl⟩
  shift B off n c i X vo vc w w1 w2 hi az RU nz hA hB:=by
    have t0:prog.underlying 31=some (.slice 133):=by kernel_rfl
    have t3:prog.underlying 3=some (.int .i64):=by kernel_rfl
    have z0:∀w,(Go.sizeOf 133).run prog w=.ok 7 w:=fun w=>by kernel_rfl
    have u0:=run_underlying t0;have u3:=run_underlying t3
    have mixed:prog.follows .mixedOrders=true:=gJ
    have RV:¬((i:Int)=(n:Int)):=by omega
    have DP:IntKind.i64.wrap ((i:Int)+1)=(i:Int)+1:=by rw[IntKind.wrap_i64];omega
    have eN:(0:Int)≤(i:Int)+1:=by omega
    have eK:i≤n:=by omega
    have ef:((i:Int)+1).toNat=i+1:=by omega
    have RW:¬(c=i):=by omega
    have FP:=fun lb cb=>ZS (P:=prog) (fo:=187) (tb:=4) (e:=133) (size:=7) Proofs.Tryz.func187 (by kernel_rfl) (by kernel_rfl) (by kernel_rfl) (by kernel_rfl) t0 z0 nz vo (off+(i+1)*7) vc lb cb
    have Kl:¬(c=i+1):=by omega
    have RX:(i:Int)≤(n:Int)+1:=by omega
    go_enter Proofs.Tryz.func168,Proofs.Tryz.ntmps168
    go_wp2_with (simp only[FP])
    go_region_law_o (refine H7 rfl _ _ 31 31 rfl (.slice (some ⟨B,off+(i+1)*7,none⟩) (n-i) (c-(i+1))) (.slice (some ⟨B,off+i*7,none⟩) (n+1-i) (c-i)) (by simp[Act.eval,Act.put]) (by simp[Act.eval,Act.put]) (hA _ _) ?_)
    go_wp2_with (at_builtin;refine H6 _ rfl _ _ 31 31 rfl _ _ rfl rfl (hB _) ?_)
    go_ret
    exact⟨rfl,rfl⟩
def vB7:Nat×kF:=(168,Ob zJ 56)
theorem KK:zB prog vB7:=Z1 (e:=133) (fn:=f168) vH0
def qT5:zG:=⟨[(0,.c (.dat true zJ)),(3,.c (.lit (.ptr 1001000 0))),(6,.c .i)],[.box true iW],[]⟩
def yHt:zG:=⟨[(0,.c (.dat true zJ)),(3,.c (.lit (.ptr 1001000 0))),(6,.c .i)],[.box true iW],[]⟩
def yJr (f:R3)(d:qT5.den):=f d.1.1.1 d.1.2.2.1.1 (dO d.2.1)
def R4:qE:=⟨[qT5],[(.exit 1,yHt)],R5,fun k d=>yJr (AW k k) d,fun b x _ K=>K (.exit 1) (zQ b yHt (((x.1,()),(),(x.2.1,()),()),((j5 x.2.2 ()),())))⟩
def yId:qF:=⟨[],[(6,R4)],[],true⟩
theorem vCc:qC prog 1000 0 40 (zY (qA f141) 0) R4:=lp (A:=yId) R4 (fun d=>(d.1.1.1,d.1.2.2.1.1,(dO d.2.1))) yJr AW AY (e4 sW Cq KJ KK) zE
def vE3:=zM 141 [.c (.dat true zJ),.agg wH] (.tup [(false,[.fro zJ]),(false,qP)]) (fun k d=>ss k d.1 (Fc d)) (fun x=>(x.1,x.2,()))
theorem KL:zB prog vE3:=fA (rs:=.tup [(false,[.fro zJ]),(false,qP)]) f141 yId (fun d=>(d.1,d.2.1)) (e4 sW Cq KJ KK) (qN vCc)
def yNw:=yW 112 [.ptr true sX,.agg [.i,.i,.i,.i,.i,.i]] (.c .i) [wE] 0 (fun k d=>JH k (dz d) (qZ4 d)) (fun x=>(x.1,(wZ x.2 ())))
theorem vBu:zB prog yNw:=fX (rs:=.c .i) (os:=[wE]) (ns:=0) f112 n0 1 (fun d=>(d.1,(fW d))) (e4 fb yHb yEh KL) zE
def yRn:=zM 142 [.ptr R6,.c .i] (.tup [(true,lN),(false,qP)]) (fun k d=>R7 k (dz d) d.2.2.2.2.2.2.2.2.2.2.2.2.2.2.2.2.2.2.1) (fun x=>(j5 x.1 (x.2,())))
theorem yGd:zB prog yRn:=fA (rs:=.tup [(true,lN),(false,qP)]) f142 n0 (fun d=>((dO d),d.2.2.2.2.2.2.2.1)) (e1 sW) zE
def vDo:=yW 170 [.c (.own zJ),.c (.p .i),.c (.p .i)] (.c (.own zJ)) [] 0 (fun k d=>E6 k d.1 d.2.1 d.2.2.1) (fun x=>(x,()))
theorem yJk:zB prog vDo:=fX (rs:=.c (.own zJ)) (os:=[]) (ns:=0) f170 ⟨[],[],[],false⟩ 0 (fun d=>d.1) e0 zE
def vCq:=zM 143 [.c (.dat true zJ),.c .i] (.tup [(false,[.fro zJ]),(true,lN),(false,qP)]) (fun k d=>mA k d.1 d.2.1) (fun x=>(R8 x ()))
theorem mJ:zB prog vCq:=fA (rs:=.tup [(false,[.fro zJ]),(true,lN),(false,qP)]) f143 ⟨[],[],[],false⟩ (fun d=>(R9 d)) (e3 sW KJ yJk) zE
def yRi:=yW 67 [.ptr true sX,.c (.p .i),.c (.p (.dat false .i))] (.tup []) [wE] 0 (fun k d=>sH k (dz d) d.2.2.2.2.2.2.2.2.2.2.2.2.2.2.2.2.2.2.1 d.2.2.2.2.2.2.2.2.2.2.2.2.2.2.2.2.2.2.2.1) (fun x=>(wZ x ()))
theorem qUe:zB prog yRi:=fX (rs:=.tup []) (os:=[wE]) (ns:=0) f67 n0 1 (fun d=>(dz d)) e0 zE
def vDu:=zM 145 [.c (.dat true zJ),.c .i,.c .i] (.tup [(false,[.fro zJ]),(false,qP)]) (fun k d=>AZ k d.1 d.2.1 d.2.2.1) (fun x=>(x.1,x.2,()))
theorem qWa:zB prog vDu:=fA (rs:=.tup [(false,[.fro zJ]),(false,qP)]) f145 n0 (fun d=>(d.1,d.2.1)) (e2 mJ KL) zE
def yS4:=zM 143 [.c (.dat false zJ),.c .i] (.tup [(false,[.own zJ]),(true,lN),(false,qP)]) (fun k d=>PB k d.1 d.2.1) (fun x=>(R8 x ()))
theorem yIz:zB prog yS4:=fA (rs:=.tup [(false,[.own zJ]),(true,lN),(false,qP)]) f143 ⟨[],[],[],false⟩ (fun d=>(R9 d)) (e3 sW KJ yJk) zE
def yFo:zG:=⟨[(6,.c (.lit (.osl 1001000 none))),(7,.c (.lit (.ptr 1001001 0))),(9,.c .i)],[.arr true zJ,.box true iW],[]⟩
def yBo:zG:=⟨[(6,.c (.lit (.osl 1001000 none))),(7,.c (.lit (.ptr 1001001 0))),(9,.c .i)],[.arr true zJ,.box true iW],[]⟩
def qRo (f:Sa)(d:yFo.den):=f d.1.2.2.1.1 d.2.1 (dO d.2.2.1)
def Sb:qE:=⟨[yFo],[(.exit 0,yBo)],Sc,fun k d=>qRo (A2 k k) d,fun b x _ K=>K (.exit 0) (zQ b yBo (((),(),(x.1,()),()),(x.2.1,(j5 x.2.2 ()),())))⟩
def yHl:qF:=⟨[],[(5,Sb)],[],true⟩
theorem vF7:qC prog 1000 0 41 (zY (qA f146) 0) Sb:=lp (A:=yHl) Sb (fun d=>(d.1.2.2.1.1,d.2.1,(dO d.2.2.1))) qRo A2 A3 (e3 yIz Cq KK) zE
def ySi:=zM 146 [.c (.dat true zJ),.c .i] (.tup [(false,[.fro zJ]),(false,qP)]) (fun k d=>A4 k d.1 d.2.1) (fun x=>(x.1,x.2,()))
theorem qU4:zB prog ySi:=fA (rs:=.tup [(false,[.fro zJ]),(false,qP)]) f146 yHl (fun d=>(d.1,d.2.1)) (e3 yIz Cq KK) (qN vF7)
def vK5:=zM 147 [.c (.dat true zJ),.c .i] (.tup [(false,[.fro zJ]),(false,qP)]) (fun k d=>A0 k d.1 d.2.1) (fun x=>(x.1,x.2,()))
theorem yKx:zB prog vK5:=fA (rs:=.tup [(false,[.fro zJ]),(false,qP)]) f147 n0 (fun d=>(d.1,d.2.1)) (e2 mJ KL) zE
def yTi:=yW 113 [.ptr true sX,.agg wH] (.c .i) [wE] 0 (fun k d=>vn k (dz d) (Cr d)) (fun x=>(x.1,(wZ x.2 ())))
theorem vA0:zB prog yTi:=fX (rs:=.c .i) (os:=[wE]) (ns:=0) f113 n0 1 (fun d=>(d.1,(fW d))) (e8 yGd mJ qUe fb RP qWa qU4 yKx) zE
def vA8:=rS 171 false qZ (.own qZ) OP
theorem yP0:zB prog vA8:=fC f171 ⟨[],[],[],false⟩ e0 zE
def vC9:=rS 151 true (.sl .i) (.jun) OM
theorem qRi:zB prog vC9:=fC f151 ⟨[],[],[],false⟩ e0 zE
def yBw:zG:=⟨[(3,.c (.lit (.osl 1001000 none))),(8,.c (.dat true (.sl .i))),(9,.c .i),(10,.c .i)],[.pmat],[]⟩
def qTi:zG:=⟨[(3,.c (.lit (.osl 1001000 none)))],[.pmat],[]⟩
def yBd (f:Sd)(d:yBw.den):=f d.1.2.1.1 d.1.2.2.1.1 d.1.2.2.2.1.1 d.2.1.1 d.2.1.2
def Se:qE:=⟨[yBw],[(.exit 0,qTi)],(EQ×Nat),fun k d=>yBd (ED k k) d,fun b x _ K=>K (.exit 0) (zQ b qTi (((),()),((x.1,x.2),())))⟩
def qYn:qF:=⟨[],[(3,Se)],[],false⟩
theorem yZp:qC prog 1000 0 22 (zY (qA f172) 0) Se:=lp (A:=qYn) Se (fun d=>d.2.1) yBd ED zt (e2 qRi Gs) zE
def yWf:=zM 172 [.c (.dat true (.sl .i))] (.c (.mat)) (fun k d=>EE k d.1) (fun x=>(x,()))
theorem yVa:zB prog yWf:=fA (rs:=.c (.mat)) f172 qYn (fun d=>d.1) (e2 qRi Gs) (qN yZp)
def vEf:=zM 148 [.agg [.dat false qZ,.dat true (.sl .i),.dat false .i,.dat true (.sl .i)]] (.agg [.own qZ,.mat,.own .i,.mat]) (fun k d=>(jP (dM k) d)) (fun x=>(dy x ()))
theorem lO:zB prog vEf:=fA (rs:=.agg [.own qZ,.mat,.own .i,.mat]) f148 ⟨[],[],[],false⟩ (fun d=>(jK d)) (e3 yP0 yVa Gs) zE
def yRw:=zM 149 [.ptr R6,.c .i] (.c .bool) (fun k d=>Sf k (dz d) d.2.2.2.2.2.2.2.2.2.2.2.2.2.2.2.2.2.2.1) (fun x=>(x,()))
theorem yM8:zB prog yRw:=fA (rs:=.c .bool) f149 n0 (fun d=>d.1) (e1 fb) zE
def yN1:=yW 114 [.ptr true sX,.agg wH] (.c .i) [wE] 0 (fun k d=>vp k (dz d) (Cr d)) (fun x=>(x.1,(wZ x.2 ())))
theorem vDi:zB prog yN1:=fX (rs:=.c .i) (os:=[wE]) (ns:=0) f114 n0 1 (fun d=>(d.1,(fW d))) (e3 lO yM8 fb) zE
def vGv:=zM 150 [.ptr R6,.c .i] (.c .bool) (fun k d=>Gu k (dz d) d.2.2.2.2.2.2.2.2.2.2.2.2.2.2.2.2.2.2.1) (fun x=>(x,()))
theorem Ct:zB prog vGv:=fA (rs:=.c .bool) f150 n0 (fun d=>d.1) (e1 fb) zE
def vLp:=rS 151 true (.sl .i) (.own (.sl .i)) BG
theorem qZc:zB prog vLp:=fC f151 ⟨[],[],[],false⟩ e0 zE
def vKh:=zM 152 [.c (.dat false .i),.c .i,.c .i] (.c (.own .i)) (fun k d=>mC k d.1 d.2.1 d.2.2.1) (fun x=>(x,()))
theorem Cu:zB prog vKh:=fA (rs:=.c (.own .i)) f152 n0 (fun d=>d.1) (e1 Gs) zE
def vE4:=zM 158 [.c .i] (.c .bool) (fun k d=>PF k d.1) (fun x=>(x,()))
theorem vA6:zB prog vE4:=fA (rs:=.c .bool) f158 n0 (fun d=>d.1) e0 zE
def yTj:=zM 159 [.c (.int .u64),.c (.int .u64)] (.tup [(false,[.int .u64]),(false,[.int .u64])]) (fun k d=>Ff k d.1 d.2.1) (fun x=>(x.1,x.2,()))
theorem yZa:zB prog yTj:=fA (rs:=.tup [(false,[.int .u64]),(false,[.int .u64])]) f159 n0 (fun d=>(d.1,d.2.1)) e0 zE
def vEm:=zM 198 [.c (.int .u64)] (.c .i) (fun k d=>qU9 k d.1) (fun x=>(x,()))
theorem vLa:zB prog vEm:=fA (rs:=.c .i) f198 n0 (fun d=>d.1) e0 zE
def vKl:=zM 181 [.c (.int .u64)] (.c .i) (fun k d=>qZp k d.1) (fun x=>(x,()))
theorem Sg:zB prog vKl:=fA (rs:=.c .i) f181 n0 (fun d=>d.1) (e1 vLa) zE
def qTq:zG:=⟨[(2,.c (.int .u64)),(8,.c (.int .u64)),(9,.c (.int .u64)),(10,.c (.int .u64)),(11,.c (.int .u64)),(13,.c (.int .u64)),(14,.c (.int .u64)),(15,.c (.int .u64)),(16,.c (.int .u64))],[],[]⟩
def yD3:zG:=⟨[(2,.c (.int .u64)),(8,.c (.int .u64)),(9,.c (.int .u64)),(10,.c (.int .u64)),(11,.c (.int .u64)),(13,.c (.int .u64)),(14,.c (.int .u64)),(15,.c (.int .u64))],[],[]⟩
def yJ5 (f:Sh)(d:qTq.den):=f d.1.1.1 d.1.2.1.1 d.1.2.2.1.1 d.1.2.2.2.1.1 d.1.2.2.2.2.1.1 d.1.2.2.2.2.2.1.1 d.1.2.2.2.2.2.2.1.1 d.1.2.2.2.2.2.2.2.1.1 d.1.2.2.2.2.2.2.2.2.1.1
def KM:qE:=⟨[qTq],[(.exit 0,yD3)],Si,fun k d=>yJ5 (Sj k k) d,fun b x _ K=>K (.exit 0) (zQ b yD3 (((x.1,()),(x.2.1,()),(x.2.2.1,()),(x.2.2.2.1,()),(x.2.2.2.2.1,()),(x.2.2.2.2.2.1,()),(x.2.2.2.2.2.2.1,()),(x.2.2.2.2.2.2.2,()),()),()))⟩
def qWu:zG:=⟨[(2,.c (.int .u64)),(8,.c (.int .u64)),(9,.c (.int .u64)),(10,.c (.int .u64)),(14,.c (.int .u64)),(15,.c (.int .u64)),(16,.c (.int .u64)),(17,.c (.int .u64)),(18,.c (.int .u64))],[],[]⟩
def qYv:zG:=⟨[(2,.c (.int .u64)),(8,.c (.int .u64)),(14,.c (.int .u64)),(15,.c (.int .u64)),(17,.c (.int .u64)),(18,.c (.int .u64))],[],[]⟩
def qZu (f:Sk)(d:qWu.den):=f d.1.1.1 d.1.2.1.1 d.1.2.2.1.1 d.1.2.2.2.1.1 d.1.2.2.2.2.1.1 d.1.2.2.2.2.2.1.1 d.1.2.2.2.2.2.2.1.1 d.1.2.2.2.2.2.2.2.1.1 d.1.2.2.2.2.2.2.2.2.1.1
def KN:qE:=⟨[qWu],[(.exit 2,qYv)],Sl,fun k d=>qZu (Sm k k) d,fun b x _ K=>K (.exit 2) (zQ b qYv (((x.1,()),(x.2.1,()),(x.2.2.1,()),(x.2.2.2.1,()),(x.2.2.2.2.1,()),(x.2.2.2.2.2,()),()),()))⟩
def Sn:qF:=⟨[],[(17,KM),(24,KN)],[],true⟩
theorem yOh:qC prog 1000 0 135 (zY (qA f160) 0) KM:=lp (A:=Sn) KM (fun d=>(d.1.1.1,d.1.2.1.1,d.1.2.2.1.1,d.1.2.2.2.1.1,d.1.2.2.2.2.1.1,d.1.2.2.2.2.2.1.1,d.1.2.2.2.2.2.2.1.1,d.1.2.2.2.2.2.2.2.1.1)) yJ5 Sj yKl (e1 Sg) zE
theorem yUh:qC prog 1000 0 135 (zY (qA f160) 1) KN:=lp (A:=Sn) KN (fun d=>(d.1.1.1,d.1.2.1.1,d.1.2.2.1.1,d.1.2.2.2.1.1,d.1.2.2.2.2.1.1,d.1.2.2.2.2.2.1.1)) qZu Sm qR6 (e1 Sg) zE
def yOc:=zM 160 [.c (.int .u64),.c (.int .u64),.c (.int .u64)] (.tup [(false,[.int .u64]),(false,[.int .u64])]) (fun k d=>Jj k d.1 d.2.1 d.2.2.1) (fun x=>(x.1,x.2,()))
theorem vHi:zB prog yOc:=fA (rs:=.tup [(false,[.int .u64]),(false,[.int .u64])]) f160 Sn (fun d=>(d.1,d.2.1)) (e1 Sg) (loopsOK_of (n:=2) (by kernel_rfl) fun i hi=>match i,hi with|0,_=>⟨KM,by kernel_rfl,yOh⟩|1,_=>⟨KN,by kernel_rfl,yUh⟩|i+2,hi=>absurd hi (by omega))
def vJ4:=(44,HZ)
theorem So:zB prog vJ4:=vDr (fn:=f44)
def yVs:=zM 133 [.c .i,.c .i,.c .i] (.tup [(false,qP),(false,[.bool])]) (fun k d=>Jk k d.1 d.2.1 d.2.2.1) (fun x=>(x.1,x.2,()))
theorem yEn:zB prog yVs:=fA (rs:=.tup [(false,qP),(false,[.bool])]) f133 n0 (fun d=>(d.1,d.2.1)) (e4 vA6 yZa vHi So) zE
def yIs:zG:=⟨[(4,.c .i),(5,.c (.int .u64)),(9,.c (.dat false .i)),(10,.c .i),(11,.c .i)],[],[]⟩
def qX1:zG:=⟨[(4,.c .i),(5,.c (.int .u64))],[],[]⟩
def qZq (f:Sp)(d:yIs.den):=f d.1.1.1 d.1.2.1.1 d.1.2.2.1.1 d.1.2.2.2.1.1 d.1.2.2.2.2.1.1
def Sq:qE:=⟨[yIs],[(.exit 0,qX1)],wL,fun k d=>qZq (yn k k) d,fun b x _ K=>K (.exit 0) (zQ b qX1 (((x.1,()),(x.2,()),()),()))⟩
def qXl:qF:=⟨[],[(4,Sq)],[],false⟩
theorem yWi:qC prog 1000 0 37 (zY (qA f22) 0) Sq:=lp (A:=qXl) Sq (fun d=>(d.1.1.1,d.1.2.1.1)) qZq yn yo (e1 So) zE
def vD1:=zM 22 [.c (.dat false .i)] (.tup [(false,qP),(false,[.bool])]) (fun k d=>uE k d.1) (fun x=>(x.1,x.2,()))
theorem wj:zB prog vD1:=fA (rs:=.tup [(false,qP),(false,[.bool])]) f22 qXl (fun d=>(d.1,d.2.1)) (e1 So) (qN yWi)
def yHn:zG:=⟨[(1,.c (.dat false .i)),(2,.c (.dat false .i)),(8,.c (.lit (.osl 1001000 none))),(25,.c (.dat false jF)),(26,.c .i),(27,.c .i)],[.arr true .i],[(8,none,.i,false)]⟩
def yIq:zG:=⟨[(8,.c (.lit (.osl 1001000 none)))],[.arr true .i],[]⟩
def yI7:zG:=⟨[(6,.c .i),(7,.c .bool)],[],[]⟩
def yCm (f:Sr)(d:yHn.den):=f d.1.1.1 d.1.2.1.1 d.1.2.2.2.1.1 d.1.2.2.2.2.1.1 d.1.2.2.2.2.2.1.1 d.2.1
def Ss:qE:=⟨[yHn],[(.exit 0,yIq),(.ret,yI7)],(AC⊕(Int×Bool)),fun k d=>yCm (A9 k k) d,fun b x _ K=>match x with|.inl x=>K (.exit 0) (zQ b yIq (((),()),(x,())))|.inr x=>K .ret (zQ b yI7 (((x.1,()),(x.2,()),()),()))⟩
def yAb:qF:=⟨[],[(5,Ss)],[],true⟩
theorem yYs:qC prog 1000 0 57 (zY (qA f100) 0) Ss:=lp (A:=yAb) Ss (fun d=>match d with|.inl d=>.inl d.2.1|.inr d=>.inr (d.1.1.1,d.1.2.1.1)) yCm A9 Ba (e2 yEn wj) zE
def vF2:=zM 100 [.c (.dat false jF),.c (.dat false .i),.c (.dat false .i)] (.tup [(false,qP),(false,[.bool])]) (fun k d=>nQ k d.1 d.2.1 d.2.2.1) (fun x=>(x.1,x.2,()))
theorem sY:zB prog vF2:=fA (rs:=.tup [(false,qP),(false,[.bool])]) f100 yAb (fun d=>(d.1,d.2.1)) (e2 yEn wj) (qN yYs)
def vA4:=yW 115 [.ptr true sX,.c (.p .i),.c (.p .i)] (.c .i) [wE] 0 (fun k d=>JI k (dz d) d.2.2.2.2.2.2.2.2.2.2.2.2.2.2.2.2.2.2.1 d.2.2.2.2.2.2.2.2.2.2.2.2.2.2.2.2.2.2.2.1) (fun x=>(x.1,(wZ x.2 ())))
theorem ySq:zB prog vA4:=fX (rs:=.c .i) (os:=[wE]) (ns:=0) f115 n0 1 (fun d=>(d.1,(fW d))) (e6 Ct fb qZc Cu sY lO) zE
def yO5:=zM 189 [.c .i,.c .i] (.tup [(false,qP),(false,[.bool])]) (fun k d=>JJ k d.1 d.2.1) (fun x=>(x.1,x.2,()))
theorem yUi:zB prog yO5:=fA (rs:=.tup [(false,qP),(false,[.bool])]) f189 ⟨[],[],[],false⟩ (fun d=>(d.1,d.2.1)) e0 zE
def vEw:=zM 91 [.agg og] (.c .bool) (fun k d=>Ir k d.1 d.2.1 d.2.2.1) (fun x=>(x,()))
theorem qXo:zB prog vEw:=fA (rs:=.c .bool) f91 ⟨[],[],[],false⟩ (fun d=>d.1) e0 zE
def vGt:=zM 173 [.agg og,.c .i] (.tup [(true,Cv),(false,qP)]) (fun k d=>FC k (d.1,d.2.1,d.2.2.1) d.2.2.2.1) (fun x=>(x.1.1,x.1.2.1,x.1.2.2,x.2,()))
theorem yGt:zB prog vGt:=fA (rs:=.tup [(true,Cv),(false,qP)]) f173 n0 (fun d=>((d.1,d.2.1,d.2.2.1),d.2.2.2.1)) (e2 yUi qXo) zE
def vH3:=zM 153 [.agg og,.c .i] (.tup [(true,Cv),(false,qP)]) (fun k d=>BJ k (d.1,d.2.1,d.2.2.1) d.2.2.2.1) (fun x=>(x.1.1,x.1.2.1,x.1.2.2,x.2,()))
theorem yNd:zB prog vH3:=fA (rs:=.tup [(true,Cv),(false,qP)]) f153 n0 (fun d=>((d.1,d.2.1,d.2.2.1),d.2.2.2.1)) (e1 yGt) zE
def vJq:=zM 174 [.agg og,.c .i] (.c .i) (fun k d=>(jP (sj k) d)) (fun x=>(x,()))
theorem KO:zB prog vJq:=fA (rs:=.c .i) f174 ⟨[],[],[],false⟩ (fun d=>d.1) e0 zE
def ySf:=zM 154 [.agg og,.c .i,.c .i] (.tup [(true,Cv),(false,qP)]) (fun k d=>BK k (d.1,d.2.1,d.2.2.1) d.2.2.2.1 d.2.2.2.2.1) (fun x=>(x.1.1,x.1.2.1,x.1.2.2,x.2,()))
theorem qSj:zB prog ySf:=fA (rs:=.tup [(true,Cv),(false,qP)]) f154 n0 (fun d=>((d.1,d.2.1,d.2.2.1),d.2.2.2.1)) (e2 yGt KO) zE
def vJi:=zM 155 [.agg og,.c .i] (.c .i) (fun k d=>BL k (d.1,d.2.1,d.2.2.1) d.2.2.2.1) (fun x=>(x,()))
theorem yEx:zB prog vJi:=fA (rs:=.c .i) f155 n0 (fun d=>d.1) e0 zE
def yOn:=yW 116 [.ptr true sX,.c (.p .i),.c (.p .i),.c (.p .i)] (.c .i) [wE] 0 (fun k d=>Su k (dz d) d.2.2.2.2.2.2.2.2.2.2.2.2.2.2.2.2.2.2.1 d.2.2.2.2.2.2.2.2.2.2.2.2.2.2.2.2.2.2.2.1 d.2.2.2.2.2.2.2.2.2.2.2.2.2.2.2.2.2.2.2.2.1) (fun x=>(x.1,(wZ x.2 ())))
theorem vGb:zB prog yOn:=fX (rs:=.c .i) (os:=[wE]) (ns:=0) f116 n0 1 (fun d=>(d.1,(fW d))) (e5 fb yNd qSj yEx lO) zE
def qUq:zG:=⟨[(0,.c (.lit (.ptr 1001000 0))),(7,.c (.lit (.osl 1001002 none))),(8,.c (.lit (.ptr 1001003 0))),(40,.c (.dat true (.sl .i))),(41,.c .i),(42,.c .i)],[.box true Sv,.arr true qQ,.arr true .i,.box true yEf,.arr true qZ,.mat,.arr true .i,.mat],[]⟩
def qWv:zG:=⟨[(0,.c (.lit (.ptr 1001000 0))),(7,.c (.lit (.osl 1001002 none))),(8,.c (.lit (.ptr 1001003 0)))],[.box true Sv,.arr true qQ,.arr true .i,.box true yEf,.arr true qZ,.mat,.arr true .i,.mat],[]⟩
def qV5:zG:=⟨[(0,.c (.lit (.ptr 1001000 0))),(6,.c .i)],[.box true Sv,.arr true qQ],[]⟩
def yL5 (f:Sw)(d:qUq.den):=f d.1.2.2.2.1.1 d.1.2.2.2.2.1.1 d.1.2.2.2.2.2.1.1 (ig d.2.1) d.2.2.1 d.2.2.2.1 d.2.2.2.2.2.1 d.2.2.2.2.2.2.1 d.2.2.2.2.2.2.2.1 d.2.2.2.2.2.2.2.2.1
def Sx:qE:=⟨[qUq],[(.exit 0,qWv),(.ret,qV5)],Sy,fun k d=>yL5 (Sz k k) d,fun b x _ K=>match x with|.inl x=>K (.exit 0) (zQ b qWv (((),(),(),()),((vB x.1 ()),x.2.1,x.2.2.1,(),x.2.2.2.1,x.2.2.2.2.1,x.2.2.2.2.2.1,x.2.2.2.2.2.2,())))|.inr x=>K .ret (zQ b qV5 (((),(x.1,()),()),((vB x.2.1 ()),x.2.2,())))⟩
def yJ6:qF:=⟨[],[(6,Sx)],[],true⟩
theorem vCm:qC prog 1000 1 81 (zY (qA f117) 0) Sx:=lp (A:=yJ6) Sx (fun d=>match d with|.inl d=>.inl ((ig d.2.1),d.2.2.1,d.2.2.2.1,d.2.2.2.2.2.1,d.2.2.2.2.2.2.1,d.2.2.2.2.2.2.2.1,d.2.2.2.2.2.2.2.2.1)|.inr d=>.inr (d.1.2.1.1,(ig d.2.1),d.2.2.1)) yL5 Sz qXa (e5 Ct fb Cu lO sY) zE
def vDq:=yW 117 [.ptr true sX,.c (.p .i),.c (.p .i)] (.c .i) [wE] 0 (fun k d=>yMu k (dz d) d.2.2.2.2.2.2.2.2.2.2.2.2.2.2.2.2.2.2.1 d.2.2.2.2.2.2.2.2.2.2.2.2.2.2.2.2.2.2.2.1) (fun x=>(x.1,(wZ x.2 ())))
theorem yXa:zB prog vDq:=fX (rs:=.c .i) (os:=[wE]) (ns:=0) f117 yJ6 1 (fun d=>(d.1,(fW d))) (e5 Ct fb Cu lO sY) (qN vCm)
def yZb:=yW 68 [.ptr true sX,.agg wH] (.c .i) [wE] 0 (fun k d=>JR k (dz d) (Cr d)) (fun x=>(x.1,(wZ x.2 ())))
theorem yUz:zB prog yZb:=fX (rs:=.c .i) (os:=[wE]) (ns:=0) f68 n0 1 (fun d=>(d.1,(fW d))) (e6 vBu vA0 vDi ySq vGb yXa) zE
def vIy:=zM 64 [.agg lL,.c .i] (.c .bool) (fun k d=>(oh (BC k) d)) (fun x=>(x,()))
theorem KP:zB prog vIy:=fA (rs:=.c .bool) f64 ⟨[],[],[],false⟩ (fun d=>d.1) e0 zE
def yU0:=zM 120 [.c .i,.c .i,.c (.dat false .i)] (.agg Co) (fun k d=>mD k d.1 d.2.1 d.2.2.1) (fun x=>(Cp x ()))
theorem sZ:zB prog yU0:=fA (rs:=.agg Co) f120 ⟨[],[],[],false⟩ (fun d=>(kO d)) e0 zE
def qVe:zG:=⟨[(1,.c (.lit (.ptr 1001000 0))),(2,.c (.lit (.ptr 1001001 0))),(4,.c (.lit (.osl 1001002 none))),(10,.c (.dat true zJ)),(11,.c .i),(12,.c .i)],[.box true kj,.box true ki,.arr true qQ],[(4,none,qQ,false)]⟩
def qVn:zG:=⟨[(1,.c (.lit (.ptr 1001000 0))),(2,.c (.lit (.ptr 1001001 0))),(4,.c (.lit (.osl 1001002 none)))],[.box true kj,.box true ki,.arr true qQ],[]⟩
def yG5 (f:SA)(d:qVe.den):=(pT (f d.1.2.2.2.1.1 d.1.2.2.2.2.1.1 d.1.2.2.2.2.2.1.1) d.2.1) d.2.2.1.1 d.2.2.1.2.1 d.2.2.1.2.2.1 d.2.2.2.1
def KQ:qE:=⟨[qVe],[(.exit 0,qVn)],SB,fun k d=>yG5 (Bw k k) d,fun b x _ K=>K (.exit 0) (zQ b qVn (((),(),(),()),((ta x ()),(x.2.2.2.2.2.2.2.2.2.2.2.1,x.2.2.2.2.2.2.2.2.2.2.2.2.1,x.2.2.2.2.2.2.2.2.2.2.2.2.2.1,()),x.2.2.2.2.2.2.2.2.2.2.2.2.2.2,())))⟩
def yEd:zG:=⟨[(1,.c (.lit (.ptr 1001000 0))),(2,.c (.lit (.ptr 1001001 0))),(4,.c (.lit (.osl 1001002 none))),(28,.c (.dat true qZ)),(29,.c .i),(30,.c .i)],[.box true kj,.box true ki,.arr true qQ],[]⟩
def yFg:zG:=⟨[(1,.c (.lit (.ptr 1001000 0))),(2,.c (.lit (.ptr 1001001 0))),(4,.c (.lit (.osl 1001002 none)))],[.box true kj,.box true ki,.arr true qQ],[]⟩
def yLs (f:SC)(d:yEd.den):=(pT (f d.1.2.2.2.1.1 d.1.2.2.2.2.1.1 d.1.2.2.2.2.2.1.1) d.2.1) d.2.2.1.1 d.2.2.1.2.1 d.2.2.1.2.2.1 d.2.2.2.1
def KR:qE:=⟨[yEd],[(.exit 2,yFg)],SD,fun k d=>yLs (By k k) d,fun b x _ K=>K (.exit 2) (zQ b yFg (((),(),(),()),((ta x ()),(x.2.2.2.2.2.2.2.2.2.2.2.1,x.2.2.2.2.2.2.2.2.2.2.2.2.1,x.2.2.2.2.2.2.2.2.2.2.2.2.2.1,()),x.2.2.2.2.2.2.2.2.2.2.2.2.2.2,())))⟩
def SE:qF:=⟨[],[(3,KQ),(8,KR)],[],false⟩
theorem yZ1:qC prog 1000 0 48 (zY (qA f118) 0) KQ:=lp (A:=SE) KQ (fun d=>(ta d.2.1 (d.2.2.1.1,d.2.2.1.2.1,d.2.2.1.2.2.1,d.2.2.2.1))) yG5 Bw Bx (e1 sZ) zE
theorem vH6:qC prog 1000 0 48 (zY (qA f118) 1) KR:=lp (A:=SE) KR (fun d=>(ta d.2.1 (d.2.2.1.1,d.2.2.1.2.1,d.2.2.1.2.2.1,d.2.2.2.1))) yLs By Bz (e1 sZ) zE
def yRv:=zM 118 [.agg Gn] (.tup [(true,qSt),(false,[.own qQ])]) (fun k d=>(pT (JE k) d)) (fun x=>(tc x ()))
theorem qZn:zB prog yRv:=fA (rs:=.tup [(true,qSt),(false,[.own qQ])]) f118 SE (fun d=>(mK d)) (e1 sZ) (loopsOK_of (n:=2) (by kernel_rfl) fun i hi=>match i,hi with|0,_=>⟨KQ,by kernel_rfl,yZ1⟩|1,_=>⟨KR,by kernel_rfl,vH6⟩|i+2,hi=>absurd hi (by omega))
def yPz:=zM 119 [.agg wH,.c .i] (.c .bool) (fun k d=>(oe (P2 k) d)) (fun x=>(x,()))
theorem yHx:zB prog yPz:=fA (rs:=.c .bool) f119 ⟨[],[],[],false⟩ (fun d=>d.1) e0 zE
def yOx:=zM 121 [.agg lL,.c .i] (.c .bool) (fun k d=>(oh (JF k) d)) (fun x=>(x,()))
theorem yKi:zB prog yOx:=fA (rs:=.c .bool) f121 ⟨[],[],[],false⟩ (fun d=>d.1) e0 zE
def yO9:=zM 196 [.agg wH,.c .i] (.c .bool) (fun k d=>(oe (Pl k) d)) (fun x=>(x,()))
theorem vG1:zB prog yO9:=fA (rs:=.c .bool) f196 ⟨[],[],[],false⟩ (fun d=>d.1) e0 zE
def vKc:=zM 195 [.agg wH,.ptr [.i]] (.c .bool) (fun k d=>(oe (Pk k) d)) (fun x=>(x,()))
theorem yH6:zB prog vKc:=fA (rs:=.c .bool) f195 ⟨[],[],[],false⟩ (fun d=>d.1) (e1 vG1) zE
def yGo:zG:=⟨[(1,.c (.lit (.fn 195 [1001000]))),(5,.c (.lit (.osl 1001001 none))),(8,.c (.dat false zJ)),(9,.c .i),(10,.c .i)],[.robox [.i],.arr true zJ],[(5,none,zJ,false)]⟩
def qRf:zG:=⟨[(5,.c (.lit (.osl 1001000 none)))],[.arr true zJ],[]⟩
def qUa (f:SF)(d:yGo.den):=f d.1.2.2.1.1 d.1.2.2.2.1.1 d.1.2.2.2.2.1.1 d.2.1.1 d.2.2.1
def SG:qE:=⟨[yGo],[(.exit 0,qRf)],SH,fun k d=>qUa (E3 k k) d,fun b x _ K=>K (.exit 0) (zQ b qRf (((),()),(x,())))⟩
def qV2:qF:=⟨[],[(3,SG)],[],false⟩
theorem yTq:qC prog 1000 0 23 (zY (qA f137) 0) SG:=lp (A:=qV2) SG (fun d=>d.2.1) qUa E3 AL (e1 yH6) zE
def vJ9:=zM 137 [.c (.dat false zJ),.fn 195 [[.i]]] (.c (.own zJ)) (fun k d=>Pj k d.1 d.2.1) (fun x=>(x,()))
theorem yP4:zB prog vJ9:=fA (rs:=.c (.own zJ)) f137 qV2 (fun d=>d.1) (e1 yH6) (qN yTq)
def yYf:=zM 179 [.c (.dat false zJ),.c .i] (.c (.own zJ)) (fun k d=>AK k d.1 d.2.1) (fun x=>(x,()))
theorem wk:zB prog yYf:=fA (rs:=.c (.own zJ)) f179 ⟨[],[],[],false⟩ (fun d=>d.1) (e1 yP4) zE
def vGc:=zM 209 [.agg wH,.ptr wH] (.c .bool) (fun k d=>(Gt (Po k) d)) (fun x=>(x,()))
theorem yE5:zB prog vGc:=fA (rs:=.c .bool) f209 ⟨[],[],[],false⟩ (fun d=>d.1) e0 zE
def yMs:zG:=⟨[(0,.c (.dat false zJ)),(1,.c (.lit (.fn 209 [1001000]))),(7,.c .i),(8,.c .i)],[.robox iW],[]⟩
def yGz:zG:=⟨[],[],[]⟩
def yMz:zG:=⟨[(4,.c .i)],[],[]⟩
def yJp (f:SI)(d:yMs.den):=(td (f d.1.1.1 d.1.2.2.1.1 d.1.2.2.2.1.1) d.2.1)
def SJ:qE:=⟨[yMs],[(.exit 0,yGz),(.ret,yMz)],(Unit⊕Int),fun k d=>yJp (AM k k) d,fun b x _ K=>match x with|.inl x=>K (.exit 0) (zQ b yGz ((),()))|.inr x=>K .ret (zQ b yMz (((x,()),()),()))⟩
def yFd:qF:=⟨[],[(2,SJ)],[],false⟩
theorem yYn:qC prog 1000 0 19 (zY (qA f124) 0) SJ:=lp (A:=yFd) SJ (fun d=>match d with|.inl d=>.inl ()|.inr d=>.inr d.1.1.1) yJp AM AN (e1 yE5) zE
def vJg:=zM 124 [.c (.dat false zJ),.fn 209 [wH]] (.c .i) (fun k d=>(oe (Pp k) d)) (fun x=>(x,()))
theorem yTy:zB prog vJg:=fA (rs:=.c .i) f124 yFd (fun d=>d.1) (e1 yE5) (qN yYn)
def vEx:=zM 107 [.c (.dat false zJ),.fn 209 [wH]] (.c .bool) (fun k d=>(oe (I7 k) d)) (fun x=>(x,()))
theorem yZj:zB prog vEx:=fA (rs:=.c .bool) f107 ⟨[],[],[],false⟩ (fun d=>d.1) (e1 yTy) zE
def yUf:=yW 208 [.agg wH,.ptr true [.map],.ptr false [.p (.dat false zJ)]] (.c .bool) [[.map]] 0 (fun k d=>(SK (Pr k) d)) (fun x=>(x.1,x.2,()))
theorem yMf:zB prog yUf:=fX (rs:=.c .bool) (os:=[[.map]]) (ns:=0) f208 ⟨[],[],[],false⟩ 3 (fun d=>(d.1,d.2.1)) (e1 yZj) zE
def qYc:zG:=⟨[(1,.c (.lit (.fn 208 [1001000,1001002]))),(5,.c (.lit (.osl 1001003 none))),(8,.c (.dat false zJ)),(9,.c .i),(10,.c .i)],[.box true [.lit (.map 1001001)],.imap,.robox [.dat false zJ],.arr true zJ],[(5,none,zJ,false)]⟩
def qRw:zG:=⟨[(1,.c (.lit (.fn 208 [1001000,1001002]))),(5,.c (.lit (.osl 1001003 none)))],[.box true [.lit (.map 1001001)],.imap,.robox [.dat false zJ],.arr true zJ],[]⟩
def qU5 (f:SM)(d:qYc.den):=f d.1.2.2.1.1 d.1.2.2.2.1.1 d.1.2.2.2.2.1.1 d.2.2.1 d.2.2.2.1.1 d.2.2.2.2.1
def SN:qE:=⟨[qYc],[(.exit 0,qRw)],SO,fun k d=>qU5 (AO k k) d,fun b x _ K=>K (.exit 0) (zQ b qRw (((),(),()),((),x.1,(x.2.1,()),x.2.2,())))⟩
def qZb:qF:=⟨[],[(3,SN)],[],false⟩
theorem yV3:qC prog 1000 2 23 (zY (qA f137) 0) SN:=lp (A:=qZb) SN (fun d=>(d.2.2.1,d.2.2.2.1.1,d.2.2.2.2.1)) qU5 AO AP (e1 yMf) zE
def yQ1:=yW 137 [.c (.p (.dat false zJ)),.fn 208 [(true,[.map]),(false,[.p (.dat false zJ)])]] (.c (.own zJ)) [[.map]] 0 (fun k d=>Pq k d.1 d.2.1 d.2.2.1) (fun x=>(x.1,x.2,()))
theorem vH7:zB prog yQ1:=fX (rs:=.c (.own zJ)) (os:=[[.map]]) (ns:=0) f137 qZb 2 (fun d=>(d.1,d.2.1)) (e1 yMf) (qN yV3)
def vC1:=zM 201 [.c (.dat false zJ),.c .i] (.c (.own zJ)) (fun k d=>E5 k d.1 d.2.1) (fun x=>(x,()))
theorem Gv:zB prog vC1:=fA (rs:=.c (.own zJ)) f201 ⟨[],[],[],false⟩ (fun d=>d.1) (e2 wk vH7) zE
def vHx:=zM 103 [.agg fc,.agg wH] (.c .bool) (fun k d=>(pT (zu k) d)) (fun x=>(x,()))
theorem SP:zB prog vHx:=fA (rs:=.c .bool) f103 ⟨[],[],[],false⟩ (fun d=>d.1) e0 zE
def vCt:=zM 210 [.agg wH,.ptr fc] (.c .bool) (fun k d=>(pT (Pf k) d)) (fun x=>(x,()))
theorem yCs:zB prog vCt:=fA (rs:=.c .bool) f210 ⟨[],[],[],false⟩ (fun d=>d.1) (e1 SP) zE
def yJm:zG:=⟨[(0,.c (.dat false zJ)),(1,.c (.lit (.fn 210 [1001000]))),(7,.c .i),(8,.c .i)],[.robox iX],[]⟩
def qV0:zG:=⟨[],[],[]⟩
def qZm:zG:=⟨[(4,.c .i)],[],[]⟩
def qTr (f:SQ)(d:yJm.den):=(jP (f d.1.1.1 d.1.2.2.1.1 d.1.2.2.2.1.1) d.2.1)
def SR:qE:=⟨[yJm],[(.exit 0,qV0),(.ret,qZm)],(Unit⊕Int),fun k d=>qTr (E1 k k) d,fun b x _ K=>match x with|.inl x=>K (.exit 0) (zQ b qV0 ((),()))|.inr x=>K .ret (zQ b qZm (((x,()),()),()))⟩
def qSk:qF:=⟨[],[(2,SR)],[],false⟩
theorem yYu:qC prog 1000 0 19 (zY (qA f124) 0) SR:=lp (A:=qSk) SR (fun d=>match d with|.inl d=>.inl ()|.inr d=>.inr d.1.1.1) qTr E1 AJ (e1 yCs) zE
def yXr:=zM 124 [.c (.dat false zJ),.fn 210 [fc]] (.c .i) (fun k d=>(kP (Pg k) d)) (fun x=>(x,()))
theorem vBr:zB prog yXr:=fA (rs:=.c .i) f124 qSk (fun d=>d.1) (e1 yCs) (qN yYu)
def vFb:=zM 107 [.c (.dat false zJ),.fn 210 [fc]] (.c .bool) (fun k d=>(kP (I6 k) d)) (fun x=>(x,()))
theorem vIl:zB prog vFb:=fA (rs:=.c .bool) f107 ⟨[],[],[],false⟩ (fun d=>d.1) (e1 vBr) zE
def yBs:zG:=⟨[(4,.c (.lit (.ptr 1001000 0))),(5,.c (.lit (.ptr 1001001 0))),(15,.c (.dat false zJ)),(16,.c .i),(17,.c .i)],[.box true [.lit .nsl,.lit .nsl,.lit .nsl],.box true SS,.arr true .i,.arr true .i,.mat],[]⟩
def yE4:zG:=⟨[(4,.c (.lit (.ptr 1001000 0))),(5,.c (.lit (.ptr 1001001 0)))],[.box true [.lit .nsl,.lit .nsl,.lit .nsl],.box true SS,.arr true .i,.arr true .i,.mat],[]⟩
def qSg (f:SU)(d:yBs.den):=f d.1.2.2.1.1 d.1.2.2.2.1.1 d.1.2.2.2.2.1.1 d.2.2.2.1 d.2.2.2.2.1 d.2.2.2.2.2.1
def SW:qE:=⟨[yBs],[(.exit 0,yE4)],SX,fun k d=>qSg (EW k k) d,fun b x _ K=>K (.exit 0) (zQ b yE4 (((),(),()),((),(),x.1,x.2.1,x.2.2,())))⟩
def yMl:qF:=⟨[],[(3,SW)],[],false⟩
theorem vCf:qC prog 1000 0 84 (zY (qA f203) 0) SW:=lp (A:=yMl) SW (fun d=>(d.2.2.2.1,d.2.2.2.2.1,d.2.2.2.2.2.1)) qSg EW Az (e2 wi Gm) zE
def yN6:=zM 203 [.c .i,.c (.dat false zJ)] (.agg [.own .i,.own .i,.mat]) (fun k d=>I1 k d.1 d.2.1) (fun x=>(x.1,x.2.1,x.2.2,()))
theorem qR0:zB prog yN6:=fA (rs:=.agg [.own .i,.own .i,.mat]) f203 yMl (fun d=>(d.1,d.2.1,d.2.2.1)) (e2 wi Gm) (qN vCf)
def yT4:=zM 204 [.agg wH,.ptr [.i]] (.c .bool) (fun k d=>(oe (O8 k) d)) (fun x=>(x,()))
theorem qU0:zB prog yT4:=fA (rs:=.c .bool) f204 ⟨[],[],[],false⟩ (fun d=>d.1) e0 zE
def qT2:zG:=⟨[(0,.c (.dat false zJ)),(1,.c (.lit (.fn 204 [1001000]))),(7,.c .i),(8,.c .i)],[.robox [.i]],[]⟩
def qQt:zG:=⟨[],[],[]⟩
def yBy:zG:=⟨[(4,.c .i)],[],[]⟩
def yH7 (f:SY)(d:qT2.den):=f d.1.1.1 d.1.2.2.1.1 d.1.2.2.2.1.1 d.2.1.1
def SZ:qE:=⟨[qT2],[(.exit 0,qQt),(.ret,yBy)],(Unit⊕Int),fun k d=>yH7 (EX k k) d,fun b x _ K=>match x with|.inl x=>K (.exit 0) (zQ b qQt ((),()))|.inr x=>K .ret (zQ b yBy (((x,()),()),()))⟩
def qYw:qF:=⟨[],[(2,SZ)],[],false⟩
theorem vIo:qC prog 1000 0 19 (zY (qA f124) 0) SZ:=lp (A:=qYw) SZ (fun d=>match d with|.inl d=>.inl ()|.inr d=>.inr d.1.1.1) yH7 EX AA (e1 qU0) zE
def vIg:=zM 124 [.c (.dat false zJ),.fn 204 [[.i]]] (.c .i) (fun k d=>O9 k d.1 d.2.1) (fun x=>(x,()))
theorem yS8:zB prog vIg:=fA (rs:=.c .i) f124 qYw (fun d=>d.1) (e1 qU0) (qN vIo)
def yY7:=zM 107 [.c (.dat false zJ),.fn 204 [[.i]]] (.c .bool) (fun k d=>I2 k d.1 d.2.1) (fun x=>(x,()))
theorem yK2:zB prog yY7:=fA (rs:=.c .bool) f107 ⟨[],[],[],false⟩ (fun d=>d.1) (e1 yS8) zE
def yEq:zG:=⟨[(5,.c .i),(12,.c (.dat false .i)),(13,.c .i),(14,.c .i)],[],[]⟩
def qW7:zG:=⟨[(5,.c .i)],[],[]⟩
def qY5 (f:Int→AC→Int→Int→Option Int)(d:yEq.den):=f d.1.1.1 d.1.2.1.1 d.1.2.2.1.1 d.1.2.2.2.1.1
def S0:qE:=⟨[yEq],[(.exit 0,qW7)],Int,fun k d=>qY5 (Au k k) d,fun b x _ K=>K (.exit 0) (zQ b qW7 (((x,()),()),()))⟩
def qSm:qF:=⟨[],[(3,S0)],[],false⟩
theorem vGd:qC prog 1000 0 23 (zY (qA f211) 0) S0:=lp (A:=qSm) S0 (fun d=>d.1.1.1) qY5 Au Av e0 zE
def vHf:=zM 211 [.agg fc,.c .i] (.c .i) (fun k d=>(kP (IX k) d)) (fun x=>(x,()))
theorem yLv:zB prog vHf:=fA (rs:=.c .i) f211 qSm (fun d=>d.1) e0 (qN vGd)
def yOp:=zM 212 [.c .i,.c .i] (.c .bool) (fun k d=>AE k d.1 d.2.1) (fun x=>(x,()))
theorem S1:zB prog yOp:=fA (rs:=.c .bool) f212 ⟨[],[],[],false⟩ (fun d=>d.1) e0 zE
def yO0:=zM 213 [.agg wH,.ptr [.i],.ptr og,.ptr KS,.ptr [.i],.ptr fc] (.c .bool) (fun k d=>(vK1 (Pb k) d)) (fun x=>(x,()))
theorem yFu:zB prog yO0:=fA (rs:=.c .bool) f213 ⟨[],[],[],false⟩ (fun d=>d.1) (e2 KO S1) zE
def yAa:zG:=⟨[(0,.c (.dat false zJ)),(1,.c (.lit (.fn 213 [1001000,1001001,1001002,1001003,1001004]))),(7,.c .i),(8,.c .i)],[.robox [.i],.robox [.i,.i,.i],.robox S2,.robox [.i],.robox iX],[]⟩
def yHi:zG:=⟨[],[],[]⟩
def yA2:zG:=⟨[(4,.c .i)],[],[]⟩
def yF7 (f:S3)(d:yAa.den):=(jP (f d.1.1.1 d.1.2.2.1.1 d.1.2.2.2.1.1 d.2.1.1 d.2.2.1.1 d.2.2.1.2.1 d.2.2.1.2.2.1 d.2.2.2.1.1 d.2.2.2.1.2.1 d.2.2.2.1.2.2.1 d.2.2.2.2.1.1) d.2.2.2.2.2.1)
def S4:qE:=⟨[yAa],[(.exit 0,yHi),(.ret,yA2)],(Unit⊕Int),fun k d=>yF7 (EZ k k) d,fun b x _ K=>match x with|.inl x=>K (.exit 0) (zQ b yHi ((),()))|.inr x=>K .ret (zQ b yA2 (((x,()),()),()))⟩
def yAz:qF:=⟨[],[(2,S4)],[],false⟩
theorem yOy:qC prog 1000 0 19 (zY (qA f124) 0) S4:=lp (A:=yAz) S4 (fun d=>match d with|.inl d=>.inl ()|.inr d=>.inr d.1.1.1) yF7 EZ AF (e1 yFu) zE
def yTm:=zM 124 [.c (.dat false zJ),.fn 213 [[.i],og,KS,[.i],fc]] (.c .i) (fun k d=>(S5 (Pc k) d)) (fun x=>(x,()))
theorem ySx:zB prog yTm:=fA (rs:=.c .i) f124 yAz (fun d=>d.1) (e1 yFu) (qN yOy)
def yRo:=zM 107 [.c (.dat false zJ),.fn 213 [[.i],og,KS,[.i],fc]] (.c .bool) (fun k d=>(S5 (I3 k) d)) (fun x=>(x,()))
theorem qWo:zB prog yRo:=fA (rs:=.c .bool) f107 ⟨[],[],[],false⟩ (fun d=>d.1) (e1 ySx) zE
def yKg:zG:=⟨[(3,.c (.dat false zJ)),(4,.c (.lit (.ptr 1001000 0))),(5,.c (.lit (.ptr 1001001 0))),(6,.c (.lit (.ptr 1001002 0))),(9,.c (.lit (.ptr 1001003 0))),(10,.c (.lit (.ptr 1001004 0))),(11,.c .i),(39,.c (.dat false .i)),(40,.c .i),(41,.c .i)],[.box true S2,.box true iX,.box true [.i],.box true [.i,.i,.i],.box true [.i]],[]⟩
def yJ9:zG:=⟨[(3,.c (.dat false zJ)),(4,.c (.lit (.ptr 1001000 0))),(5,.c (.lit (.ptr 1001001 0))),(6,.c (.lit (.ptr 1001002 0))),(9,.c (.lit (.ptr 1001003 0))),(10,.c (.lit (.ptr 1001004 0))),(11,.c .i)],[.box true S2,.box true iX,.box true [.i],.box true [.i,.i,.i],.box true [.i]],[]⟩
def qVo (f:S6)(d:yKg.den):=(jP (f d.1.1.1 d.1.2.2.2.2.2.2.1.1 d.1.2.2.2.2.2.2.2.1.1 d.1.2.2.2.2.2.2.2.2.1.1 d.1.2.2.2.2.2.2.2.2.2.1.1 d.2.1.1 d.2.1.2.1 d.2.1.2.2.1) d.2.2.1) d.2.2.2.1.1 d.2.2.2.2.1.1 d.2.2.2.2.1.2.1 d.2.2.2.2.1.2.2.1 d.2.2.2.2.2.1.1
def S7:qE:=⟨[yKg],[(.exit 0,yJ9)],S8,fun k d=>qVo (uQ k k) d,fun b x _ K=>K (.exit 0) (zQ b yJ9 (((x.1,()),(),(),(),(),(),(x.2.1,()),()),((x.2.2.1,x.2.2.2.1,x.2.2.2.2.1,()),(vDm x ()),(x.2.2.2.2.2.2.2.2.2.1,()),(x.2.2.2.2.2.2.2.2.2.2.1,x.2.2.2.2.2.2.2.2.2.2.2.1,x.2.2.2.2.2.2.2.2.2.2.2.2.1,()),(x.2.2.2.2.2.2.2.2.2.2.2.2.2,()),())))⟩
def yDs:qF:=⟨[],[(7,S7)],[],false⟩
theorem yNq:qC prog 1000 0 59 (zY (qA f205) 0) S7:=lp (A:=yDs) S7 (fun d=>(d.1.1.1,d.1.2.2.2.2.2.2.1.1,d.2.1.1,d.2.1.2.1,d.2.1.2.2.1,(jN d.2.2.1 (d.2.2.2.1.1,d.2.2.2.2.1.1,d.2.2.2.2.1.2.1,d.2.2.2.2.1.2.2.1,d.2.2.2.2.2.1.1)))) qVo uQ AG (e3 yLv S1 qWo) zE
def vC6:=zM 205 [.agg KS,.agg fc,.c .i,.c (.dat false zJ)] (.c .bool) (fun k d=>(SK (I5 k) d)) (fun x=>(x,()))
theorem qQw:zB prog vC6:=fA (rs:=.c .bool) f205 yDs (fun d=>d.1) (e3 yLv S1 qWo) (qN yNq)
def qVx:zG:=⟨[(1,.c (.dat false zJ)),(2,.c (.lit (.ptr 1001000 0))),(5,.c (.lit (.ptr 1001001 0))),(6,.c (.lit (.osl 1001005 none))),(16,.c .i),(17,.c .i)],[.box true iX,.box true SS,.arr true .i,.arr true .i,.mat,.arr true .i],[(6,none,.i,false)]⟩
def qYe:zG:=⟨[(6,.c (.lit (.osl 1001000 none)))],[.arr true .i],[]⟩
def qSi (f:S9)(d:qVx.den):=(jP (f d.1.1.1 d.1.2.2.2.2.1.1 d.1.2.2.2.2.2.1.1) d.2.1) d.2.2.2.1 d.2.2.2.2.1 d.2.2.2.2.2.1 d.2.2.2.2.2.2.1
def Ta:qE:=⟨[qVx],[(.exit 0,qYe)],AC,fun k d=>qSi (AH k k) d,fun b x _ K=>K (.exit 0) (zQ b qYe (((),()),(x,())))⟩
def qRv:qF:=⟨[],[(4,Ta)],[],false⟩
theorem vKk:qC prog 1000 0 37 (zY (qA f192) 0) Ta:=lp (A:=qRv) Ta (fun d=>d.2.1) qSi AH AI (e3 qR0 yK2 qQw) zE
def vKj:=zM 192 [.agg fc,.c (.dat false zJ)] (.c (.own .i)) (fun k d=>(kP (uR k) d)) (fun x=>(x,()))
theorem Gw:zB prog vKj:=fA (rs:=.c (.own .i)) f192 qRv (fun d=>d.1) (e3 qR0 yK2 qQw) (qN vKk)
def vJp:=zM 202 [.agg fc,.c (.dat false zJ)] (.c .bool) (fun k d=>(kP (uS k) d)) (fun x=>(x,()))
theorem Gx:zB prog vJp:=fA (rs:=.c .bool) f202 ⟨[],[],[],false⟩ (fun d=>d.1) (e2 vIl Gw) zE
def yX9:=zM 197 [.agg wH,.ptr fc] (.c .bool) (fun k d=>(pT (OR k) d)) (fun x=>(x,()))
theorem yCa:zB prog yX9:=fA (rs:=.c .bool) f197 ⟨[],[],[],false⟩ (fun d=>d.1) (e1 SP) zE
def qUn:zG:=⟨[(0,.c (.dat false zJ)),(1,.c (.lit (.fn 197 [1001000]))),(7,.c .i),(8,.c .i)],[.robox iX],[]⟩
def qT4:zG:=⟨[],[],[]⟩
def qV8:zG:=⟨[(4,.c .i)],[],[]⟩
def yCr (f:Tb)(d:qUn.den):=(jP (f d.1.1.1 d.1.2.2.1.1 d.1.2.2.2.1.1) d.2.1)
def Tc:qE:=⟨[qUn],[(.exit 0,qT4),(.ret,qV8)],(Unit⊕Int),fun k d=>yCr (EI k k) d,fun b x _ K=>match x with|.inl x=>K (.exit 0) (zQ b qT4 ((),()))|.inr x=>K .ret (zQ b qV8 (((x,()),()),()))⟩
def yDn:qF:=⟨[],[(2,Tc)],[],false⟩
theorem yOm:qC prog 1000 0 19 (zY (qA f124) 0) Tc:=lp (A:=yDn) Tc (fun d=>match d with|.inl d=>.inl ()|.inr d=>.inr d.1.1.1) yCr EI zw (e1 yCa) zE
def yXi:=zM 124 [.c (.dat false zJ),.fn 197 [fc]] (.c .i) (fun k d=>(kP (OT k) d)) (fun x=>(x,()))
theorem yNy:zB prog yXi:=fA (rs:=.c .i) f124 yDn (fun d=>d.1) (e1 yCa) (qN yOm)
def yNz:=zM 107 [.c (.dat false zJ),.fn 197 [fc]] (.c .bool) (fun k d=>(kP (II k) d)) (fun x=>(x,()))
theorem yAn:zB prog yNz:=fA (rs:=.c .bool) f107 ⟨[],[],[],false⟩ (fun d=>d.1) (e1 yNy) zE
def yV6:=zM 90 [.agg og] (.c .bool) (fun k d=>OE k d.1 d.2.1 d.2.2.1) (fun x=>(x,()))
theorem yBr:zB prog yV6:=fA (rs:=.c .bool) f90 ⟨[],[],[],false⟩ (fun d=>d.1) (e1 qXo) zE
def yGs:zG:=⟨[(0,.c (.dat false qZ)),(1,.c (.lit (.fn 90 []))),(7,.c .i),(8,.c .i)],[],[]⟩
def qSn:zG:=⟨[],[],[]⟩
def qS7:zG:=⟨[(4,.c .i)],[],[]⟩
def yLl (f:Td)(d:yGs.den):=f d.1.1.1 d.1.2.2.1.1 d.1.2.2.2.1.1
def Te:qE:=⟨[yGs],[(.exit 0,qSn),(.ret,qS7)],(Unit⊕Int),fun k d=>yLl (Eu k k) d,fun b x _ K=>match x with|.inl x=>K (.exit 0) (zQ b qSn ((),()))|.inr x=>K .ret (zQ b qS7 (((x,()),()),()))⟩
def qYa:qF:=⟨[],[(2,Te)],[],false⟩
theorem vLu:qC prog 1000 0 19 (zY (qA f130) 0) Te:=lp (A:=qYa) Te (fun d=>match d with|.inl d=>.inl ()|.inr d=>.inr d.1.1.1) yLl Eu zk (e1 yBr) zE
def yU4:=zM 130 [.c (.dat false qZ),.c (.fn 90)] (.c .i) (fun k d=>OF k d.1) (fun x=>(x,()))
theorem yTx:zB prog yU4:=fA (rs:=.c .i) f130 qYa (fun d=>d.1) (e1 yBr) (qN vLu)
def yW6:=zM 92 [.c (.dat false qZ),.c (.fn 90)] (.c .bool) (fun k d=>Iy k d.1) (fun x=>(x,()))
theorem vDp:zB prog yW6:=fA (rs:=.c .bool) f92 ⟨[],[],[],false⟩ (fun d=>d.1) (e1 yTx) zE
def vHg:=zM 94 [.c .i] (.c .bool) (fun k d=>OA k d.1) (fun x=>(x,()))
theorem yU2:zB prog vHg:=fA (rs:=.c .bool) f94 ⟨[],[],[],false⟩ (fun d=>d.1) e0 zE
def yXs:=zM 131 [.c .i,.ptr [.fn 94]] (.c .bool) (fun k d=>OG k d.1) (fun x=>(x,()))
theorem qR7:zB prog yXs:=fA (rs:=.c .bool) f131 ⟨[],[],[],false⟩ (fun d=>d.1) (e1 yU2) zE
def qQ0:zG:=⟨[(0,.c (.dat false .i)),(1,.c (.lit (.fn 131 [1001000]))),(7,.c .i),(8,.c .i)],[.robox [.lit (.fn 94 [])]],[]⟩
def qXm:zG:=⟨[],[],[]⟩
def yLd:zG:=⟨[(4,.c .i)],[],[]⟩
def yF5 (f:Tf)(d:qQ0.den):=f d.1.1.1 d.1.2.2.1.1 d.1.2.2.2.1.1
def Tg:qE:=⟨[qQ0],[(.exit 0,qXm),(.ret,yLd)],(Unit⊕Int),fun k d=>yF5 (Ev k k) d,fun b x _ K=>match x with|.inl x=>K (.exit 0) (zQ b qXm ((),()))|.inr x=>K .ret (zQ b yLd (((x,()),()),()))⟩
def yHe:qF:=⟨[],[(2,Tg)],[],false⟩
theorem yPc:qC prog 1000 0 19 (zY (qA f132) 0) Tg:=lp (A:=yHe) Tg (fun d=>match d with|.inl d=>.inl ()|.inr d=>.inr d.1.1.1) yF5 Ev zl (e1 qR7) zE
def vLm:=zM 132 [.c (.dat false .i),.fn 131 [[.fn 94]]] (.c .i) (fun k d=>OH k d.1) (fun x=>(x,()))
theorem yVn:zB prog vLm:=fA (rs:=.c .i) f132 yHe (fun d=>d.1) (e1 qR7) (qN yPc)
def vD4:=zM 98 [.c (.dat false .i),.fn 131 [[.fn 94]]] (.c .bool) (fun k d=>Iz k d.1) (fun x=>(x,()))
theorem vBq:zB prog vD4:=fA (rs:=.c .bool) f98 ⟨[],[],[],false⟩ (fun d=>d.1) (e1 yVn) zE
def vEv:=zM 95 [.c (.dat false .i),.c .i,.c (.fn 94)] (.c .bool) (fun k d=>Ey k d.1 d.2.1) (fun x=>(x,()))
theorem Th:zB prog vEv:=fA (rs:=.c .bool) f95 ⟨[],[],[],false⟩ (fun d=>d.1) (e1 vBq) zE
def qX5:zG:=⟨[(1,.c .i),(2,.c (.lit (.fn 94 []))),(13,.c (.dat false (.sl .i))),(14,.c .i),(15,.c .i)],[],[]⟩
def qTo:zG:=⟨[],[],[]⟩
def qSs:zG:=⟨[(6,.c .bool)],[],[]⟩
def yBi (f:Ti)(d:qX5.den):=f d.1.1.1 d.1.2.2.1.1 d.1.2.2.2.1.1 d.1.2.2.2.2.1.1
def Tj:qE:=⟨[qX5],[(.exit 0,qTo),(.ret,qSs)],(Unit⊕Bool),fun k d=>yBi (Ez k k) d,fun b x _ K=>match x with|.inl x=>K (.exit 0) (zQ b qTo ((),()))|.inr x=>K .ret (zQ b qSs (((x,()),()),()))⟩
def yH0:qF:=⟨[],[(4,Tj)],[],false⟩
theorem yT7:qC prog 1000 0 25 (zY (qA f93) 0) Tj:=lp (A:=yH0) Tj (fun d=>match d with|.inl d=>.inl ()|.inr d=>.inr d.1.1.1) yBi Ez zn (e1 Th) zE
def vIh:=zM 93 [.c (.dat false (.sl .i)),.c .i,.c (.fn 94)] (.c .bool) (fun k d=>IC k d.1 d.2.1) (fun x=>(x,()))
theorem yOl:zB prog vIh:=fA (rs:=.c .bool) f93 yH0 (fun d=>d.1) (e1 Th) (qN yT7)
def vAc:=zM 96 [.c .i] (.c .bool) (fun k d=>Iu k d.1) (fun x=>(x,()))
theorem yXo:zB prog vAc:=fA (rs:=.c .bool) f96 ⟨[],[],[],false⟩ (fun d=>d.1) e0 zE
def vDn:=zM 131 [.c .i,.ptr [.fn 96]] (.c .bool) (fun k d=>OI k d.1) (fun x=>(x,()))
theorem qXz:zB prog vDn:=fA (rs:=.c .bool) f131 ⟨[],[],[],false⟩ (fun d=>d.1) (e1 yXo) zE
def yIy:zG:=⟨[(0,.c (.dat false .i)),(1,.c (.lit (.fn 131 [1001000]))),(7,.c .i),(8,.c .i)],[.robox [.lit (.fn 96 [])]],[]⟩
def yG3:zG:=⟨[],[],[]⟩
def yEu:zG:=⟨[(4,.c .i)],[],[]⟩
def yCk (f:Tl)(d:yIy.den):=f d.1.1.1 d.1.2.2.1.1 d.1.2.2.2.1.1
def Tm:qE:=⟨[yIy],[(.exit 0,yG3),(.ret,yEu)],(Unit⊕Int),fun k d=>yCk (Ew k k) d,fun b x _ K=>match x with|.inl x=>K (.exit 0) (zQ b yG3 ((),()))|.inr x=>K .ret (zQ b yEu (((x,()),()),()))⟩
def yI2:qF:=⟨[],[(2,Tm)],[],false⟩
theorem yOb:qC prog 1000 0 19 (zY (qA f132) 0) Tm:=lp (A:=yI2) Tm (fun d=>match d with|.inl d=>.inl ()|.inr d=>.inr d.1.1.1) yCk Ew zm (e1 qXz) zE
def yO1:=zM 132 [.c (.dat false .i),.fn 131 [[.fn 96]]] (.c .i) (fun k d=>OJ k d.1) (fun x=>(x,()))
theorem vIr:zB prog yO1:=fA (rs:=.c .i) f132 yI2 (fun d=>d.1) (e1 qXz) (qN yOb)
def yXc:=zM 98 [.c (.dat false .i),.fn 131 [[.fn 96]]] (.c .bool) (fun k d=>IA k d.1) (fun x=>(x,()))
theorem vAo:zB prog yXc:=fA (rs:=.c .bool) f98 ⟨[],[],[],false⟩ (fun d=>d.1) (e1 vIr) zE
def yOw:=zM 95 [.c (.dat false .i),.c .i,.c (.fn 96)] (.c .bool) (fun k d=>IB k d.1 d.2.1) (fun x=>(x,()))
theorem qX3:zB prog yOw:=fA (rs:=.c .bool) f95 ⟨[],[],[],false⟩ (fun d=>d.1) (e1 vAo) zE
def qV3:zG:=⟨[(1,.c .i),(2,.c (.lit (.fn 96 []))),(13,.c (.dat false (.sl .i))),(14,.c .i),(15,.c .i)],[],[]⟩
def yBh:zG:=⟨[],[],[]⟩
def yHu:zG:=⟨[(6,.c .bool)],[],[]⟩
def yKz (f:Tn)(d:qV3.den):=f d.1.1.1 d.1.2.2.1.1 d.1.2.2.2.1.1 d.1.2.2.2.2.1.1
def To:qE:=⟨[qV3],[(.exit 0,yBh),(.ret,yHu)],(Unit⊕Bool),fun k d=>yKz (EA k k) d,fun b x _ K=>match x with|.inl x=>K (.exit 0) (zQ b yBh ((),()))|.inr x=>K .ret (zQ b yHu (((x,()),()),()))⟩
def yCq:qF:=⟨[],[(4,To)],[],false⟩
theorem yP6:qC prog 1000 0 25 (zY (qA f93) 0) To:=lp (A:=yCq) To (fun d=>match d with|.inl d=>.inl ()|.inr d=>.inr d.1.1.1) yKz EA zo (e1 qX3) zE
def yN0:=zM 93 [.c (.dat false (.sl .i)),.c .i,.c (.fn 96)] (.c .bool) (fun k d=>ID k d.1 d.2.1) (fun x=>(x,()))
theorem vHs:zB prog yN0:=fA (rs:=.c .bool) f93 yCq (fun d=>d.1) (e1 qX3) (qN yP6)
def yHv:zG:=⟨[(0,.c (.dat false (.sl .i))),(3,.c .i),(7,.c (.dat false (.sl .i))),(8,.c .i),(9,.c .i),(14,.c (.dat false .i)),(15,.c .i),(16,.c .i)],[],[]⟩
def qVf:zG:=⟨[(0,.c (.dat false (.sl .i))),(7,.c (.dat false (.sl .i))),(8,.c .i),(9,.c .i)],[],[]⟩
def yGm:zG:=⟨[(2,.c .bool)],[],[]⟩
def yLo (f:Tp)(d:yHv.den):=f d.1.1.1 d.1.2.1.1 d.1.2.2.1.1 d.1.2.2.2.1.1 d.1.2.2.2.2.1.1 d.1.2.2.2.2.2.1.1 d.1.2.2.2.2.2.2.1.1 d.1.2.2.2.2.2.2.2.1.1
def Tq:qE:=⟨[yHv],[(.exit 2,qVf),(.ret,yGm)],Ts,fun k d=>yLo (zp k k) d,fun b x _ K=>match x with|.inl x=>K (.exit 2) (zQ b qVf (((x.1,()),(x.2.1,()),(x.2.2.1,()),(x.2.2.2,()),()),()))|.inr x=>K .ret (zQ b yGm (((x,()),()),()))⟩
def yIa:zG:=⟨[(0,.c (.dat false (.sl .i))),(7,.c (.dat false (.sl .i))),(8,.c .i),(9,.c .i)],[],[]⟩
def yBz:zG:=⟨[],[],[]⟩
def yM1:zG:=⟨[(2,.c .bool)],[],[]⟩
def qU6 (f:Tt)(d:yIa.den):=f d.1.1.1 d.1.2.1.1 d.1.2.2.1.1 d.1.2.2.2.1.1
def Tu:qE:=⟨[yIa],[(.exit 0,yBz),(.ret,yM1)],(Unit⊕Bool),fun k d=>qU6 (EB k k) d,fun b x _ K=>match x with|.inl x=>K (.exit 0) (zQ b yBz ((),()))|.inr x=>K .ret (zQ b yM1 (((x,()),()),()))⟩
def Tv:qF:=⟨[],[(5,Tq),(2,Tu)],[],false⟩
theorem vBe:qC prog 1000 0 33 (zY (zY (qA f97) 0) 0) Tq:=lp (A:=Tv) Tq (fun d=>match d with|.inl d=>.inl (d.1.1.1,d.1.2.1.1,d.1.2.2.1.1,d.1.2.2.2.1.1)|.inr d=>.inr d.1.1.1) yLo zp zq e0 zE
theorem yXq:qC prog 1000 0 33 (zY (qA f97) 0) Tu:=lp (A:=Tv) Tu (fun d=>match d with|.inl d=>.inl ()|.inr d=>.inr d.1.1.1) qU6 EB zr e0 (qN vBe)
def vF6:=zM 97 [.c (.dat false (.sl .i))] (.c .bool) (fun k d=>IE k d.1) (fun x=>(x,()))
theorem vE1:zB prog vF6:=fA (rs:=.c .bool) f97 Tv (fun d=>d.1) e0 (qN yXq)
def vIp:=zM 61 [.agg fc] (.c .bool) (fun k d=>(jP (uM k) d)) (fun x=>(x,()))
theorem KT:zB prog vIp:=fA (rs:=.c .bool) f61 ⟨[],[],[],false⟩ (fun d=>d.1) (e5 vDp yOl Th vHs vE1) zE
def yIi:zG:=⟨[(2,.c (.lit (.ptr 1001000 0))),(4,.c (.lit (.ptr 1001001 0))),(7,.c (.lit (.ptr 1001002 0))),(24,.c (.dat false zJ)),(25,.c .i),(26,.c .i)],[.box true fa,.box true KU,.box true KV,.arr true qZ,.mat,.arr true .i,.mat],[]⟩
def yMi:zG:=⟨[(2,.c (.lit (.ptr 1001000 0))),(4,.c (.lit (.ptr 1001001 0))),(7,.c (.lit (.ptr 1001002 0)))],[.box true fa,.box true KU,.box true KV,.arr true qZ,.mat,.arr true .i,.mat],[]⟩
def yDl (f:Tw)(d:yIi.den):=(jP (f d.1.2.2.2.1.1 d.1.2.2.2.2.1.1 d.1.2.2.2.2.2.1.1) d.2.1) d.2.2.2.2.1 d.2.2.2.2.2.1 d.2.2.2.2.2.2.1 d.2.2.2.2.2.2.2.1
def Tx:qE:=⟨[yIi],[(.exit 0,yMi)],Tz,fun k d=>yDl (zz k k) d,fun b x _ K=>K (.exit 0) (zQ b yMi (((),(),(),()),((jN x ()),(),(),x.2.2.2.2.1,x.2.2.2.2.2.1,x.2.2.2.2.2.2.1,x.2.2.2.2.2.2.2,())))⟩
def qRb:qF:=⟨[],[(6,Tx)],[],false⟩
theorem yT9:qC prog 1000 0 104 (zY (qA f180) 0) Tx:=lp (A:=qRb) Tx (fun d=>(jN d.2.1 (d.2.2.2.2.1,d.2.2.2.2.2.1,d.2.2.2.2.2.2.1,d.2.2.2.2.2.2.2.1))) yDl zz z8 (e4 yAn lO KO KT) zE
def yP3:=zM 180 [.agg tf,.c (.dat false zJ)] (.tup [(true,kk),(false,qP)]) (fun k d=>(kP (mw k) d)) (fun x=>(ek x ()))
theorem wm:zB prog yP3:=fA (rs:=.tup [(true,kk),(false,qP)]) f180 qRb (fun d=>(vS d)) (e4 yAn lO KO KT) (qN yT9)
def yFx:zG:=⟨[(3,.c (.lit (.ptr 1001000 0))),(6,.c (.lit (.ptr 1001001 0))),(7,.c (.lit (.ptr 1001002 0))),(15,.c (.lit (.osl 1001003 none))),(16,.c .i),(17,.c .i)],[.box true fa,.box true iW,.box true KU,.arr true zJ],[]⟩
def yCb:zG:=⟨[(3,.c (.lit (.ptr 1001000 0))),(6,.c (.lit (.ptr 1001001 0))),(7,.c (.lit (.ptr 1001002 0)))],[.box true fa,.box true iW,.box true KU],[]⟩
def qT9:zG:=⟨[(6,.c (.lit (.ptr 1001000 0))),(7,.c (.lit (.ptr 1001001 0))),(8,.c .bool)],[.box true iW,.box true fa],[]⟩
def yJn (f:TA)(d:yFx.den):=(td (jP (f d.1.2.2.2.2.1.1 d.1.2.2.2.2.2.1.1) d.2.1) d.2.2.1) d.2.2.2.2.1
def TB:qE:=⟨[yFx],[(.exit 0,yCb),(.ret,qT9)],TC,fun k d=>yJn (Fi k k) d,fun b x _ K=>match x with|.inl x=>K (.exit 0) (zQ b yCb (((),(),(),()),((jN x ()),(TD x ()),(),())))|.inr x=>K .ret (zQ b qT9 (((),(),(x.1,()),()),((vG6 x ()),(yTn x ()),())))⟩
def yKu:qF:=⟨[],[(2,TB)],[],false⟩
theorem vBz:qC prog 1000 0 40 (zY (qA f190) 0) TB:=lp (A:=yKu) TB (fun d=>match d with|.inl d=>.inl (jN d.2.1 (dO d.2.2.1))|.inr d=>.inr (d.1.2.2.1.1,(Cw d.2.1 (jK d.2.2.1)))) yJn Fi Bc (e3 Gv Gx wm) zE
def vC4:=zM 190 [.agg tf,.c (.dat true zJ),.c .i] (.tup [(true,lN),(true,kk),(false,[.bool])]) (fun k d=>(oh (Jo k) d)) (fun x=>(tc x ()))
theorem qUu:zB prog vC4:=fA (rs:=.tup [(true,lN),(true,kk),(false,[.bool])]) f190 yKu (fun d=>(mK d)) (e3 Gv Gx wm) (qN vBz)
def yGb:zG:=⟨[(2,.c .i),(6,.c (.lit (.ptr 1001000 0))),(7,.c (.dat true zJ)),(8,.c (.lit (.osl 1001001 none)))],[.box true fa,.arr true zJ],[(8,none,zJ,false)]⟩
def yJe:zG:=⟨[(6,.c (.lit (.ptr 1001000 0))),(7,.c (.dat true zJ)),(8,.c (.lit (.osl 1001001 none)))],[.box true fa,.arr true zJ],[]⟩
def qWj (f:TE)(d:yGb.den):=(jP (f d.1.1.1 d.1.2.2.1.1) d.2.1) d.2.2.1
def TF:qE:=⟨[yGb],[(.ret,yJe)],TG,fun k d=>qWj (Fj k k) d,fun b x _ K=>K .ret (zQ b yJe (((),(x.1,()),(),()),((lP x ()),x.2.2.2.2.2,())))⟩
def yE6:qF:=⟨[],[(2,TF)],[],false⟩
theorem vCx:qC prog 1000 0 40 (zY (qA f175) 0) TF:=lp (A:=yE6) TF (fun d=>(d.1.2.1.1,(jN d.2.1 d.2.2.1))) qWj Fj Bd (e2 qUu mJ) zE
def yV8:=zM 175 [.agg tf,.c (.dat true zJ),.c .i] (.tup [(true,kk),(false,[.fro zJ]),(false,[.own zJ])]) (fun k d=>(oh (Jq k) d)) (fun x=>(tg x ()))
theorem yJj:zB prog yV8:=fA (rs:=.tup [(true,kk),(false,[.fro zJ]),(false,[.own zJ])]) f175 yE6 (fun d=>(wo d)) (e2 qUu mJ) (qN vCx)
def yH9:zG:=⟨[(3,.c (.lit (.ptr 1001000 0))),(6,.c (.lit (.ptr 1001001 0))),(8,.c (.lit (.osl 1001002 none))),(10,.c (.lit (.ptr 1001003 0))),(18,.c (.lit (.osl 1001002 none))),(19,.c .i),(20,.c .i),(24,.c (.lit (.osl 1001002 none))),(25,.c .i),(26,.c .i)],[.box true fa,.box true KW,.arr true zJ,.box true iW],[]⟩
def yG6:zG:=⟨[(3,.c (.lit (.ptr 1001000 0))),(6,.c (.lit (.ptr 1001001 0))),(8,.c (.lit (.osl 1001002 none))),(18,.c (.lit (.osl 1001002 none))),(19,.c .i),(20,.c .i)],[.box true fa,.box true KW,.arr true zJ],[]⟩
def qZv:zG:=⟨[(6,.c (.lit (.ptr 1001000 0))),(7,.c .bool)],[.box true qYp],[]⟩
def yG2 (f:TH)(d:yH9.den):=(td ((Gt (jP (f d.1.2.2.2.2.2.1.1 d.1.2.2.2.2.2.2.1.1 d.1.2.2.2.2.2.2.2.2.1.1 d.1.2.2.2.2.2.2.2.2.2.1.1) d.2.1) d.2.2.1) d.2.2.2.1) d.2.2.2.2.1)
def TI:qE:=⟨[yH9],[(.exit 2,yG6),(.ret,qZv)],TJ,fun k d=>yG2 (Fm k k) d,fun b x _ K=>match x with|.inl x=>K (.exit 2) (zQ b yG6 (((),(),(),(),(x.1,()),(x.2.1,()),()),((RO x ()),(vD9 x ()),x.2.2.2.2.2.2.2.2.2.2.2.2.2.2.2.2.2.2.2.2,())))|.inr x=>K .ret (zQ b qZv (((),(x.1,()),()),((TK x ()),())))⟩
def qTx:zG:=⟨[(3,.c (.lit (.ptr 1001000 0))),(6,.c (.lit (.ptr 1001001 0))),(8,.c (.lit (.osl 1001002 none))),(18,.c (.lit (.osl 1001002 none))),(19,.c .i),(20,.c .i)],[.box true fa,.box true KW,.arr true zJ],[]⟩
def yEj:zG:=⟨[(6,.c (.lit (.ptr 1001000 0)))],[.box true KW],[]⟩
def qW8:zG:=⟨[(6,.c (.lit (.ptr 1001000 0))),(7,.c .bool)],[.box true qYp],[]⟩
def qW6 (f:TL)(d:qTx.den):=(Gt (jP (f d.1.2.2.2.2.1.1 d.1.2.2.2.2.2.1.1) d.2.1) d.2.2.1) d.2.2.2.1
def TM:qE:=⟨[qTx],[(.exit 0,yEj),(.ret,qW8)],TN,fun k d=>qW6 (Fo k k) d,fun b x _ K=>match x with|.inl x=>K (.exit 0) (zQ b yEj (((),()),((TO x ()),())))|.inr x=>K .ret (zQ b qW8 (((),(x.1,()),()),((TK x ()),())))⟩
def TP:qF:=⟨[],[(6,TI),(3,TM)],[],false⟩
theorem yS9:qC prog 1000 0 74 (zY (zY (qA f191) 0) 0) TI:=lp (A:=TP) TI (fun d=>match d with|.inl d=>.inl (d.1.2.2.2.2.1.1,d.1.2.2.2.2.2.1.1,(jN d.2.1 (TQ d.2.2.1 d.2.2.2.1)))|.inr d=>.inr (d.1.2.1.1,(dz d.2.1))) yG2 Fm Be (e3 Gv Gx wm) zE
theorem ySt:qC prog 1000 0 74 (zY (qA f191) 0) TM:=lp (A:=TP) TM (fun d=>match d with|.inl d=>.inl (TR d.2.1)|.inr d=>.inr (d.1.2.1.1,(dz d.2.1))) qW6 Fo Bf (e3 Gv Gx wm) (qN yS9)
def vKb:=zM 191 [.agg tf,.c (.dat true zJ),.c .i] (.tup [(true,yMm),(false,[.bool])]) (fun k d=>(oh (Js k) d)) (fun x=>(yXf x ()))
theorem TS:zB prog vKb:=fA (rs:=.tup [(true,yMm),(false,[.bool])]) f191 TP (fun d=>(yZg d)) (e3 Gv Gx wm) (qN ySt)
def yGp:zG:=⟨[(2,.c .i),(6,.c (.lit (.ptr 1001000 0))),(7,.c (.dat true zJ)),(8,.c (.lit (.osl 1001001 none))),(33,.c (.lit (.osl 1001002 none))),(34,.c .i),(35,.c .i)],[.box true fa,.arr true zJ,.arr true zJ],[(8,none,zJ,false)]⟩
def yKs:zG:=⟨[(2,.c .i),(6,.c (.lit (.ptr 1001000 0))),(7,.c (.dat true zJ)),(8,.c (.lit (.osl 1001001 none)))],[.box true fa,.arr true zJ],[]⟩
def yIk (f:TT)(d:yGp.den):=(jP (f d.1.1.1 d.1.2.2.1.1 d.1.2.2.2.2.2.1.1 d.1.2.2.2.2.2.2.1.1) d.2.1) d.2.2.1 d.2.2.2.1
def TU:qE:=⟨[yGp],[(.exit 2,yKs)],TV,fun k d=>yIk (sw k k) d,fun b x _ K=>K (.exit 2) (zQ b yKs (((x.1,()),(),(x.2.1,()),(),()),((RO x ()),x.2.2.2.2.2.2,())))⟩
def qR3:zG:=⟨[(2,.c .i),(6,.c (.lit (.ptr 1001000 0))),(7,.c (.dat true zJ)),(8,.c (.lit (.osl 1001001 none)))],[.box true fa,.arr true zJ],[(8,none,zJ,false)]⟩
def qTb:zG:=⟨[(6,.c (.lit (.ptr 1001000 0))),(7,.c (.dat true zJ)),(8,.c (.lit (.osl 1001001 none)))],[.box true fa,.arr true zJ],[]⟩
def qS8 (f:TW)(d:qR3.den):=(jP (f d.1.1.1 d.1.2.2.1.1) d.2.1) d.2.2.1
def TX:qE:=⟨[qR3],[(.ret,qTb)],TY,fun k d=>qS8 (Fp k k) d,fun b x _ K=>K .ret (zQ b qTb (((),(x.1,()),(),()),((lP x ()),x.2.2.2.2.2,())))⟩
def TZ:qF:=⟨[],[(7,TU),(2,TX)],[],false⟩
theorem yW0:qC prog 1000 0 52 (zY (zY (qA f176) 0) 0) TU:=lp (A:=TZ) TU (fun d=>(d.1.1.1,d.1.2.2.1.1,(jN d.2.1 d.2.2.1))) yIk sw sA (e2 TS mJ) zE
theorem vJc:qC prog 1000 0 52 (zY (qA f176) 0) TX:=lp (A:=TZ) TX (fun d=>(d.1.2.1.1,(jN d.2.1 d.2.2.1))) qS8 Fp Bg (e2 TS mJ) (qN yW0)
def vJm:=zM 176 [.agg tf,.c (.dat true zJ),.c .i] (.tup [(true,kk),(false,[.fro zJ]),(false,[.own zJ])]) (fun k d=>(oh (Jt k) d)) (fun x=>(tg x ()))
theorem yC1:zB prog vJm:=fA (rs:=.tup [(true,kk),(false,[.fro zJ]),(false,[.own zJ])]) f176 TZ (fun d=>(wo d)) (e2 TS mJ) (qN vJc)
def qSu:zG:=⟨[(2,.c .i),(6,.c (.lit (.ptr 1001000 0))),(7,.c (.dat true zJ)),(8,.c (.lit (.osl 1001001 none)))],[.box true fa,.arr true zJ],[(8,none,zJ,false)]⟩
def yKy:zG:=⟨[(6,.c (.lit (.ptr 1001000 0))),(7,.c (.dat true zJ)),(8,.c (.lit (.osl 1001001 none)))],[.box true fa,.arr true zJ],[]⟩
def qXt (f:T0)(d:qSu.den):=(jP (f d.1.1.1 d.1.2.2.1.1) d.2.1) d.2.2.1
def T1:qE:=⟨[qSu],[(.ret,yKy)],T2,fun k d=>qXt (Fv k k) d,fun b x _ K=>K .ret (zQ b yKy (((),(x.1,()),(),()),((lP x ()),x.2.2.2.2.2,())))⟩
def yM3:qF:=⟨[],[(2,T1)],[],false⟩
theorem vCo:qC prog 1000 0 40 (zY (qA f156) 0) T1:=lp (A:=yM3) T1 (fun d=>(d.1.2.1.1,(jN d.2.1 d.2.2.1))) qXt Fv Jz (e2 yJj yC1) zE
def ySy:=zM 156 [.agg tf,.c (.dat true zJ),.c .i] (.tup [(true,kk),(false,[.fro zJ]),(false,[.own zJ])]) (fun k d=>(oh (Fw k) d)) (fun x=>(tg x ()))
theorem vIi:zB prog ySy:=fA (rs:=.tup [(true,kk),(false,[.fro zJ]),(false,[.own zJ])]) f156 yM3 (fun d=>(wo d)) (e2 yJj yC1) (qN vCo)
def yTf:=rS 193 false .i (.own .i) PW
theorem vFu:zB prog yTf:=fC f193 ⟨[],[],[],false⟩ e0 zE
def vFa:=yW 194 [.agg wH,.ptr true [.own .i]] (.c .bool) [n9] 0 (fun k d=>(oe (PY k) d)) (fun x=>(x.1,x.2,()))
theorem qSd:zB prog vFa:=fX (rs:=.c .bool) (os:=[n9]) (ns:=0) f194 ⟨[],[],[],false⟩ 2 (fun d=>(d.1,d.2.1)) e0 zE
def yKa:zG:=⟨[(1,.c (.lit (.fn 194 [1001000]))),(5,.c (.lit (.osl 1001002 none))),(8,.c (.dat false zJ)),(9,.c .i),(10,.c .i)],[.box true [.lit (.osl 1001001 none)],.arr true .i,.arr true zJ],[(5,none,zJ,false)]⟩
def qXs:zG:=⟨[(1,.c (.lit (.fn 194 [1001000]))),(5,.c (.lit (.osl 1001002 none)))],[.box true [.lit (.osl 1001001 none)],.arr true .i,.arr true zJ],[]⟩
def qW3 (f:T3)(d:yKa.den):=f d.1.2.2.1.1 d.1.2.2.2.1.1 d.1.2.2.2.2.1.1 d.2.2.1 d.2.2.2.1
def T4:qE:=⟨[yKa],[(.exit 0,qXs)],T5,fun k d=>qW3 (Bk k k) d,fun b x _ K=>K (.exit 0) (zQ b qXs (((),(),()),((),x.1,x.2,())))⟩
def yDj:qF:=⟨[],[(3,T4)],[],false⟩
theorem yUj:qC prog 1000 2 23 (zY (qA f137) 0) T4:=lp (A:=yDj) T4 (fun d=>(d.2.2.1,d.2.2.2.1)) qW3 Bk Bl (e1 qSd) zE
def vFg:=yW 137 [.c (.p (.dat false zJ)),.fn 194 [(true,[.own .i])]] (.c (.own zJ)) [n9] 0 (fun k d=>PX k d.1 d.2.1) (fun x=>(x.1,x.2,()))
theorem yTe:zB prog vFg:=fX (rs:=.c (.own zJ)) (os:=[n9]) (ns:=0) f137 yDj 2 (fun d=>(d.1,d.2.1)) (e1 qSd) (qN yUj)
def yW1:=zM 178 [.c (.dat false zJ),.c (.dat false .i)] (.c (.own zJ)) (fun k d=>Bj k d.1 d.2.1) (fun x=>(x,()))
theorem Cx:zB prog yW1:=fA (rs:=.c (.own zJ)) f178 ⟨[],[],[],false⟩ (fun d=>d.1) (e2 vFu yTe) zE
def qRh:zG:=⟨[(3,.c (.lit (.ptr 1001000 0))),(6,.c (.lit (.osl 1001001 none))),(7,.c .i),(8,.c (.lit (.osl 1001002 none))),(18,.c .i),(19,.c .i)],[.box true iX,.arr true .i,.arr true zJ],[(6,none,.i,false)]⟩
def yC9:zG:=⟨[(3,.c (.lit (.ptr 1001000 0))),(6,.c (.lit (.osl 1001001 none))),(7,.c .i),(8,.c (.lit (.osl 1001002 none)))],[.box true iX,.arr true .i,.arr true zJ],[]⟩
def yIl (f:T6)(d:qRh.den):=(jP (f d.1.2.2.1.1 d.1.2.2.2.2.1.1 d.1.2.2.2.2.2.1.1) d.2.1) d.2.2.1 d.2.2.2.1
def KX:qE:=⟨[qRh],[(.exit 0,yC9)],T7,fun k d=>yIl (vd k k) d,fun b x _ K=>K (.exit 0) (zQ b yC9 (((),(),(x.1,()),(),()),((lP x ()),x.2.2.2.2.2.1,x.2.2.2.2.2.2,())))⟩
def qUk:zG:=⟨[(3,.c (.lit (.ptr 1001000 0))),(6,.c (.lit (.osl 1001001 none))),(7,.c .i),(8,.c (.lit (.osl 1001002 none))),(42,.c (.lit (.osl 1001003 none))),(43,.c .i),(44,.c .i)],[.box true iX,.arr true .i,.arr true zJ,.arr true .i],[]⟩
def yBj:zG:=⟨[(3,.c (.lit (.ptr 1001000 0))),(6,.c (.lit (.osl 1001001 none))),(7,.c .i),(8,.c (.lit (.osl 1001002 none)))],[.box true iX,.arr true .i,.arr true zJ],[]⟩
def qT0 (f:T8)(d:qUk.den):=(jP (f d.1.2.2.1.1 d.1.2.2.2.2.2.1.1 d.1.2.2.2.2.2.2.1.1) d.2.1) d.2.2.1 d.2.2.2.1 d.2.2.2.2.1
def T9:qE:=⟨[qUk],[(.exit 4,yBj)],Ua,fun k d=>qT0 (Bo k k) d,fun b x _ K=>K (.exit 4) (zQ b yBj (((),(),(x.1,()),(),()),((lP x ()),x.2.2.2.2.2.1,x.2.2.2.2.2.2,())))⟩
def yJ1:zG:=⟨[(3,.c (.lit (.ptr 1001000 0))),(6,.c (.lit (.osl 1001001 none))),(7,.c .i),(8,.c (.lit (.osl 1001002 none)))],[.box true iX,.arr true .i,.arr true zJ],[]⟩
def yAp:zG:=⟨[(6,.c (.lit (.osl 1001000 none))),(7,.c .i)],[.arr true .i],[]⟩
def yLw (f:Ub)(d:yJ1.den):=(jP (f d.1.2.2.1.1) d.2.1) d.2.2.1 d.2.2.2.1
def KY:qE:=⟨[yJ1],[(.ret,yAp)],(Int×AC),fun k d=>yLw (Fu k k) d,fun b x _ K=>K .ret (zQ b yAp (((),(x.1,()),()),(x.2,())))⟩
def KZ:qF:=⟨[],[(3,KX),(12,T9),(7,KY)],[],false⟩
theorem yOt:qC prog 1000 0 55 (zY (qA f177) 0) KX:=lp (A:=KZ) KX (fun d=>(d.1.2.2.1.1,(jN d.2.1 (d.2.2.1,d.2.2.2.1)))) yIl vd Bn (e4 wk Gr Cx Gw) zE
theorem ySg:qC prog 1000 0 55 (zY (zY (qA f177) 1) 0) T9:=lp (A:=KZ) T9 (fun d=>(d.1.2.2.1.1,(jN d.2.1 (d.2.2.1,d.2.2.2.1)))) qT0 Bo Bp (e4 wk Gr Cx Gw) zE
theorem vDw:qC prog 1000 0 55 (zY (qA f177) 1) KY:=lp (A:=KZ) KY (fun d=>(d.1.2.1.1,d.2.1)) yLw Fu Bq (e4 wk Gr Cx Gw) (qN ySg)
def vGa:=zM 177 [.agg fc,.c (.dat false zJ),.c .i] (.tup [(false,n9),(false,qP)]) (fun k d=>(oh (Jx k) d)) (fun x=>(x.1,x.2,()))
theorem qRt:zB prog vGa:=fA (rs:=.tup [(false,n9),(false,qP)]) f177 KZ (fun d=>(d.1,d.2.1)) (e4 wk Gr Cx Gw) (loopsOK_of (n:=2) (by kernel_rfl) fun i hi=>match i,hi with|0,_=>⟨KX,by kernel_rfl,yOt⟩|1,_=>⟨KY,by kernel_rfl,vDw⟩|i+2,hi=>absurd hi (by omega))
def yD1:zG:=⟨[(6,.c (.lit (.ptr 1001000 0))),(7,.c (.dat true zJ)),(11,.c (.lit (.osl 1001001 none))),(38,.c (.lit (.osl 1001001 none))),(39,.c .i),(40,.c .i)],[.box true fa,.arr true zJ],[]⟩
def qT8:zG:=⟨[(6,.c (.lit (.ptr 1001000 0))),(7,.c (.dat true zJ)),(11,.c (.lit (.osl 1001001 none)))],[.box true fa,.arr true zJ],[]⟩
def yEg (f:Uc)(d:yD1.den):=(jP (f d.1.2.1.1 d.1.2.2.2.2.1.1 d.1.2.2.2.2.2.1.1) d.2.1) d.2.2.1
def Ud:qE:=⟨[yD1],[(.exit 0,qT8)],Ue,fun k d=>yEg (vf k k) d,fun b x _ K=>K (.exit 0) (zQ b qT8 (((),(x.1,()),(),()),((lP x ()),x.2.2.2.2.2,())))⟩
def yKk:qF:=⟨[],[(8,Ud)],[],false⟩
theorem yQn:qC prog 1000 0 56 (zY (qA f157) 0) Ud:=lp (A:=yKk) Ud (fun d=>(d.1.2.1.1,(jN d.2.1 d.2.2.1))) yEg vf Br (e5 qRt wk Cx wm mJ) zE
def yRc:=zM 157 [.agg tf,.c (.dat true zJ),.c .i] (.tup [(true,kk),(false,[.fro zJ]),(false,[.own zJ])]) (fun k d=>(oh (Bt k) d)) (fun x=>(tg x ()))
theorem vC2:zB prog yRc:=fA (rs:=.tup [(true,kk),(false,[.fro zJ]),(false,[.own zJ])]) f157 yKk (fun d=>(wo d)) (e5 qRt wk Cx wm mJ) (qN yQn)
def yPu:=zM 122 [.agg tf,.c (.dat true zJ),.c .i,.c .bool] (.tup [(true,kk),(false,[.fro zJ]),(false,[.own zJ])]) (fun k d=>(td (vg k) d)) (fun x=>(tg x ()))
theorem ySd:zB prog yPu:=fA (rs:=.tup [(true,kk),(false,[.fro zJ]),(false,[.own zJ])]) f122 ⟨[],[],[],false⟩ (fun d=>(wo d)) (e2 vIi vC2) zE
def qUy:zG:=⟨[(3,.c (.lit (.osl 1001000 none))),(5,.c (.lit (.ptr 1001001 0))),(8,.c (.dat false zJ)),(9,.c .i),(10,.c .i),(18,.c (.lit (.osl 1001002 none))),(19,.c .i),(20,.c .i)],[.arr true qQ,.box true iW,.arr true .i],[(3,none,qQ,false)]⟩
def yJ3:zG:=⟨[(3,.c (.lit (.osl 1001000 none))),(8,.c (.dat false zJ)),(9,.c .i),(10,.c .i)],[.arr true qQ],[]⟩
def qXy (f:Uf)(d:qUy.den):=(td (f d.1.2.2.1.1 d.1.2.2.2.1.1 d.1.2.2.2.2.1.1 d.1.2.2.2.2.2.2.1.1 d.1.2.2.2.2.2.2.2.1.1 d.2.1) d.2.2.1) d.2.2.2.1
def Ug:qE:=⟨[qUy],[(.exit 2,yJ3)],Uh,fun k d=>qXy (sC k k) d,fun b x _ K=>K (.exit 2) (zQ b yJ3 (((),(x.1,()),(x.2.1,()),(x.2.2.1,()),()),(x.2.2.2,())))⟩
def yGe:zG:=⟨[(3,.c (.lit (.osl 1001000 none))),(8,.c (.dat false zJ)),(9,.c .i),(10,.c .i)],[.arr true qQ],[(3,none,qQ,false)]⟩
def qUj:zG:=⟨[(3,.c (.lit (.osl 1001000 none)))],[.arr true qQ],[]⟩
def yMn (f:Ui)(d:yGe.den):=f d.1.2.1.1 d.1.2.2.1.1 d.1.2.2.2.1.1 d.2.1
def Uj:qE:=⟨[yGe],[(.exit 0,qUj)],Uk,fun k d=>yMn (Fy k k) d,fun b x _ K=>K (.exit 0) (zQ b qUj (((),()),(x,())))⟩
def Ul:qF:=⟨[],[(6,Ug),(3,Uj)],[],false⟩
theorem vD7:qC prog 1000 0 41 (zY (zY (qA f123) 0) 0) Ug:=lp (A:=Ul) Ug (fun d=>(d.1.2.1.1,d.1.2.2.1.1,d.1.2.2.2.1.1,d.2.1)) qXy sC sD (e1 sZ) zE
theorem vEs:qC prog 1000 0 41 (zY (qA f123) 0) Uj:=lp (A:=Ul) Uj (fun d=>d.2.1) yMn Fy Bu (e1 sZ) (qN vD7)
def yRx:=zM 123 [.c (.dat false zJ)] (.c (.own qQ)) (fun k d=>JC k d.1) (fun x=>(x,()))
theorem yUl:zB prog yRx:=fA (rs:=.c (.own qQ)) f123 Ul (fun d=>d.1) (e1 sZ) (qN vEs)
def vAd:=zM 70 [.agg Gn,.c .bool] (.tup [(true,od),(false,[.own qQ])]) (fun k d=>(K0 (pI k) d)) (fun x=>(tc x ()))
theorem Um:zB prog vAd:=fA (rs:=.tup [(true,od),(false,[.own qQ])]) f70 ⟨[],[],[],false⟩ (fun d=>(mK d)) (e2 ySd yUl) zE
def yCn:zG:=⟨[(2,.c (.lit (.ptr 1001000 0))),(3,.c (.lit (.ptr 1001001 0))),(4,.c (.lit (.ptr 1001002 0))),(6,.c (.lit (.osl 1001003 none))),(7,.c (.lit (.osl 1001004 none))),(27,.c (.dat true zJ)),(28,.c .i),(29,.c .i)],[.box true sS,.box true kj,.box true ki,.arr true qQ,.arr true zJ],[(6,none,qQ,false),(7,none,zJ,false)]⟩
def yKd:zG:=⟨[(2,.c (.lit (.ptr 1001000 0))),(3,.c (.lit (.ptr 1001001 0))),(4,.c (.lit (.ptr 1001002 0))),(6,.c (.lit (.osl 1001003 none))),(7,.c (.lit (.osl 1001004 none)))],[.box true sS,.box true kj,.box true ki,.arr true qQ,.arr true zJ],[]⟩
def qZ0 (f:Un)(d:yCn.den):=(pT (kP (f d.1.2.2.2.2.2.1.1 d.1.2.2.2.2.2.2.1.1 d.1.2.2.2.2.2.2.2.1.1) d.2.1) d.2.2.1) d.2.2.2.1.1 d.2.2.2.1.2.1 d.2.2.2.1.2.2.1 d.2.2.2.2.1 d.2.2.2.2.2.1
def Uo:qE:=⟨[yCn],[(.exit 0,yKd)],Uq,fun k d=>qZ0 (BA k k) d,fun b x _ K=>K (.exit 0) (zQ b yKd (((),(),(),(),(),()),((pU x ()),(yZu x ()),(x.2.2.2.2.2.2.2.2.2.2.2.2.2.2.2.2.1,x.2.2.2.2.2.2.2.2.2.2.2.2.2.2.2.2.2.1,x.2.2.2.2.2.2.2.2.2.2.2.2.2.2.2.2.2.2.1,()),x.2.2.2.2.2.2.2.2.2.2.2.2.2.2.2.2.2.2.2.1,x.2.2.2.2.2.2.2.2.2.2.2.2.2.2.2.2.2.2.2.2,())))⟩
def qTg:qF:=⟨[],[(9,Uo)],[],false⟩
theorem vJy:qC prog 1000 0 66 (zY (qA f69) 0) Uo:=lp (A:=qTg) Uo (fun d=>(pU d.2.1 (ta d.2.2.1 (d.2.2.2.1.1,d.2.2.2.1.2.1,d.2.2.2.1.2.2.1,d.2.2.2.2.1,d.2.2.2.2.2.1)))) qZ0 BA BB (e6 KP qZn yHx sZ yKi Um) zE
def vEb:=zM 69 [.agg lL,.agg Gn] (.tup [(true,od),(false,[.own qQ])]) (fun k d=>(qTj (vl k) d)) (fun x=>(tc x ()))
theorem vKn:zB prog vEb:=fA (rs:=.tup [(true,od),(false,[.own qQ])]) f69 qTg (fun d=>(mK d)) (e6 KP qZn yHx sZ yKi Um) (qN vJy)
def vFr:=yW 112 [.ptr true sV,.agg [.i,.i,.i,.i,.i,.i]] (.c .i) [wE] 0 (fun k d=>qVv k (ig d) (qZ4 d)) (fun x=>(x.1,(wZ x.2 ())))
theorem yYm:zB prog vFr:=fX (rs:=.c .i) (os:=[wE]) (ns:=0) f112 n0 1 (fun d=>(d.1,(fW d))) (e4 fb yHb yEh KL) zE
def yV4:=yW 113 [.ptr true sV,.agg wH] (.c .i) [wE] 0 (fun k d=>K1 k (ig d) (Cr d)) (fun x=>(x.1,(wZ x.2 ())))
theorem vJ0:zB prog yV4:=fX (rs:=.c .i) (os:=[wE]) (ns:=0) f113 n0 1 (fun d=>(d.1,(fW d))) (e8 yGd mJ qSb fb RP qWa qU4 yKx) zE
def vK6:=yW 114 [.ptr true sV,.agg wH] (.c .i) [wE] 0 (fun k d=>K2 k (ig d) (Cr d)) (fun x=>(x.1,(wZ x.2 ())))
theorem vA9:zB prog vK6:=fX (rs:=.c .i) (os:=[wE]) (ns:=0) f114 n0 1 (fun d=>(d.1,(fW d))) (e3 lO yM8 fb) zE
def yQ6:=yW 115 [.ptr true sV,.c (.p .i),.c (.p .i)] (.c .i) [wE] 0 (fun k d=>yC8 k (ig d) d.2.2.2.2.2.2.2.2.2.2.2.2.2.2.2.2.2.2.1 d.2.2.2.2.2.2.2.2.2.2.2.2.2.2.2.2.2.2.2.1) (fun x=>(x.1,(wZ x.2 ())))
theorem yQu:zB prog yQ6:=fX (rs:=.c .i) (os:=[wE]) (ns:=0) f115 n0 1 (fun d=>(d.1,(fW d))) (e6 Ct fb qZc Cu sY lO) zE
def yZc:=yW 116 [.ptr true sV,.c (.p .i),.c (.p .i),.c (.p .i)] (.c .i) [wE] 0 (fun k d=>BI k (ig d) d.2.2.2.2.2.2.2.2.2.2.2.2.2.2.2.2.2.2.1 d.2.2.2.2.2.2.2.2.2.2.2.2.2.2.2.2.2.2.2.1 d.2.2.2.2.2.2.2.2.2.2.2.2.2.2.2.2.2.2.2.2.1) (fun x=>(x.1,(wZ x.2 ())))
theorem vC0:zB prog yZc:=fX (rs:=.c .i) (os:=[wE]) (ns:=0) f116 n0 1 (fun d=>(d.1,(fW d))) (e5 fb yNd qSj yEx lO) zE
def yI5:zG:=⟨[(0,.c (.lit (.ptr 1001000 0))),(7,.c (.lit (.osl 1001001 none))),(8,.c (.lit (.ptr 1001002 0))),(40,.c (.dat true (.sl .i))),(41,.c .i),(42,.c .i)],[.box true Ur,.arr true .i,.box true KV,.arr true qZ,.mat,.arr true .i,.mat],[]⟩
def qUs:zG:=⟨[(0,.c (.lit (.ptr 1001000 0))),(7,.c (.lit (.osl 1001001 none))),(8,.c (.lit (.ptr 1001002 0)))],[.box true Ur,.arr true .i,.box true KV,.arr true qZ,.mat,.arr true .i,.mat],[]⟩
def qWt:zG:=⟨[(0,.c (.lit (.ptr 1001000 0))),(6,.c .i)],[.box true Ur],[]⟩
def yGf (f:Us)(d:yI5.den):=f d.1.2.2.2.1.1 d.1.2.2.2.2.1.1 d.1.2.2.2.2.2.1.1 (ig d.2.1) d.2.2.1 d.2.2.2.2.1 d.2.2.2.2.2.1 d.2.2.2.2.2.2.1 d.2.2.2.2.2.2.2.1
def Ut:qE:=⟨[yI5],[(.exit 0,qUs),(.ret,qWt)],Uu,fun k d=>yGf (pM k k) d,fun b x _ K=>match x with|.inl x=>K (.exit 0) (zQ b qUs (((),(),(),()),((vB x.1 ()),x.2.1,(),x.2.2.1,x.2.2.2.1,x.2.2.2.2.1,x.2.2.2.2.2,())))|.inr x=>K .ret (zQ b qWt (((),(x.1,()),()),((vB x.2 ()),())))⟩
def yCd:qF:=⟨[],[(6,Ut)],[],true⟩
theorem vEc:qC prog 1000 1 81 (zY (qA f117) 0) Ut:=lp (A:=yCd) Ut (fun d=>match d with|.inl d=>.inl ((ig d.2.1),d.2.2.1,d.2.2.2.2.1,d.2.2.2.2.2.1,d.2.2.2.2.2.2.1,d.2.2.2.2.2.2.2.1)|.inr d=>.inr (d.1.2.1.1,(ig d.2.1))) yGf pM BN (e5 Ct fb Cu lO sY) zE
def vAi:=yW 117 [.ptr true sV,.c (.p .i),.c (.p .i)] (.c .i) [wE] 0 (fun k d=>JP k (ig d) d.2.2.2.2.2.2.2.2.2.2.2.2.2.2.2.2.2.2.1 d.2.2.2.2.2.2.2.2.2.2.2.2.2.2.2.2.2.2.2.1) (fun x=>(x.1,(wZ x.2 ())))
theorem vK7:zB prog vAi:=fX (rs:=.c .i) (os:=[wE]) (ns:=0) f117 yCd 1 (fun d=>(d.1,(fW d))) (e5 Ct fb Cu lO sY) (qN vEc)
def vGm:=yW 68 [.ptr true sV,.agg wH] (.c .i) [wE] 0 (fun k d=>JS k (ig d) (Cr d)) (fun x=>(x.1,(wZ x.2 ())))
theorem yW2:zB prog vGm:=fX (rs:=.c .i) (os:=[wE]) (ns:=0) f68 n0 1 (fun d=>(d.1,(fW d))) (e6 yYm vJ0 vA9 yQu vC0 vK7) zE
def vI9:=zM 33 [.agg K3,.agg Gn,.agg Gq] (.tup [(true,od),(false,[.own qQ]),(false,qP)]) (fun k d=>dv k (vS d) (pQ d) (yJa d)) (fun x=>(vK x.1 (x.2.1,x.2.2,())))
theorem Gy:zB prog vI9:=fA (rs:=.tup [(true,od),(false,[.own qQ]),(false,qP)]) f33 n0 (fun d=>((wB d),d.2.2.2.2.2.2.2.2.2.2.2.1,d.2.2.2.2.2.2.2.2.2.2.2.2.1)) (e9 vGj yPv qSb yUz vKn Um sW qUe yW2) zE
def vA7:=yW 34 [.chn [Uv,ie],.c (.p (.dat false (.int .u8)))] (.c .i) [Cy,vI] 0 (fun k d=>pP k (K4 d) (K5 d) d.2.2.2.2.2.2.2.2.2.2.2.2.2.2.2.1) (fun x=>(x.1,(),(dy x.2.1 (eZ x.2.2 ()))))
theorem K6:zB prog vA7:=fX (rs:=.c .i) (os:=[Cy,vI]) (ns:=0) f34 n0 0 (fun d=>(d.1,(Uw d),(Ux d))) (e1 yB4) zE
def vIj:=zM 99 [.c .i] (.c .bool) (fun k d=>Qj k d.1) (fun x=>(x,()))
theorem yHm:zB prog vIj:=fA (rs:=.c .bool) f99 n0 (fun d=>d.1) (e1 fb) zE
def qX6:zG:=⟨[(0,.c (.dat false .i)),(1,.c (.lit (.fn 99 []))),(7,.c .i),(8,.c .i)],[],[]⟩
def yCc:zG:=⟨[],[],[]⟩
def qXq:zG:=⟨[(4,.c .i)],[],[]⟩
def yHh (f:Uy)(d:qX6.den):=f d.1.1.1 d.1.2.2.1.1 d.1.2.2.2.1.1
def Uz:qE:=⟨[qX6],[(.exit 0,yCc),(.ret,qXq)],(Unit⊕Int),fun k d=>yHh (vv k k) d,fun b x _ K=>match x with|.inl x=>K (.exit 0) (zQ b yCc ((),()))|.inr x=>K .ret (zQ b qXq (((x,()),()),()))⟩
def yMj:qF:=⟨[],[(2,Uz)],[],false⟩
theorem vG0:qC prog 1000 0 19 (zY (qA f132) 0) Uz:=lp (A:=yMj) Uz (fun d=>match d with|.inl d=>.inl ()|.inr d=>.inr d.1.1.1) yHh vv BS (e1 yHm) zE
def vE6:=zM 132 [.c (.dat false .i),.c (.fn 99)] (.c .i) (fun k d=>Qk k d.1) (fun x=>(x,()))
theorem vAv:zB prog vE6:=fA (rs:=.c .i) f132 yMj (fun d=>d.1) (e1 yHm) (qN vG0)
def yYb:=zM 98 [.c (.dat false .i),.c (.fn 99)] (.c .bool) (fun k d=>FX k d.1) (fun x=>(x,()))
theorem yBu:zB prog yYb:=fA (rs:=.c .bool) f98 ⟨[],[],[],false⟩ (fun d=>d.1) (e1 vAv) zE
def yPf:=zM 101 [.c .i] (.c .bool) (fun k d=>Ql k d.1) (fun x=>(x,()))
theorem qQu:zB prog yPf:=fA (rs:=.c .bool) f101 n0 (fun d=>d.1) e0 zE
def yKe:zG:=⟨[(0,.c (.dat false .i)),(1,.c (.lit (.fn 101 []))),(7,.c .i),(8,.c .i)],[],[]⟩
def qZl:zG:=⟨[],[],[]⟩
def yAc:zG:=⟨[(4,.c .i)],[],[]⟩
def yGu (f:UA)(d:yKe.den):=f d.1.1.1 d.1.2.2.1.1 d.1.2.2.2.1.1
def UB:qE:=⟨[yKe],[(.exit 0,qZl),(.ret,yAc)],(Unit⊕Int),fun k d=>yGu (vw k k) d,fun b x _ K=>match x with|.inl x=>K (.exit 0) (zQ b qZl ((),()))|.inr x=>K .ret (zQ b yAc (((x,()),()),()))⟩
def qZx:qF:=⟨[],[(2,UB)],[],false⟩
theorem yYc:qC prog 1000 0 19 (zY (qA f132) 0) UB:=lp (A:=qZx) UB (fun d=>match d with|.inl d=>.inl ()|.inr d=>.inr d.1.1.1) yGu vw BU (e1 qQu) zE
def yO4:=zM 132 [.c (.dat false .i),.c (.fn 101)] (.c .i) (fun k d=>Qm k d.1) (fun x=>(x,()))
theorem yQ2:zB prog yO4:=fA (rs:=.c .i) f132 qZx (fun d=>d.1) (e1 qQu) (qN yYc)
def vKe:=zM 98 [.c (.dat false .i),.c (.fn 101)] (.c .bool) (fun k d=>JZ k d.1) (fun x=>(x,()))
theorem qT1:zB prog vKe:=fA (rs:=.c .bool) f98 ⟨[],[],[],false⟩ (fun d=>d.1) (e1 yQ2) zE
def qX7:zG:=⟨[(2,.c (.lit (.ptr 1001000 0))),(3,.c (.lit (.ptr 1001001 0))),(28,.c (.dat false (.sl .i))),(29,.c .i),(30,.c .i)],[.box true sS,.box true K7],[]⟩
def qS3:zG:=⟨[],[],[]⟩
def yFp:zG:=⟨[(4,.c .bool)],[],[]⟩
def qUo (f:UC)(d:qX7.den):=f d.1.2.2.1.1 d.1.2.2.2.1.1 d.1.2.2.2.2.1.1 (vS d.2.1) (wB d.2.2.1)
def UD:qE:=⟨[qX7],[(.exit 0,qS3),(.ret,yFp)],(Unit⊕Bool),fun k d=>qUo (sJ k k) d,fun b x _ K=>match x with|.inl x=>K (.exit 0) (zQ b qS3 ((),()))|.inr x=>K .ret (zQ b yFp (((x,()),()),()))⟩
def yLa:qF:=⟨[],[(6,UD)],[],true⟩
theorem yOf:qC prog 1000 0 66 (zY (qA f62) 0) UD:=lp (A:=yLa) UD (fun d=>match d with|.inl d=>.inl ()|.inr d=>.inr d.1.1.1) qUo sJ BV (e3 yBu sY qT1) zE
def yZv:=zM 62 [.agg lL,.agg sU] (.c .bool) (fun k d=>FY k (vS d) (pQ d)) (fun x=>(x,()))
theorem qQ3:zB prog yZv:=fA (rs:=.c .bool) f62 yLa (fun d=>d.1) (e3 yBu sY qT1) (qN yOf)
def qY4:zG:=⟨[(0,.c (.dat false zJ)),(1,.c (.lit (.fn 136 []))),(5,.c .i)],[],[]⟩
def qR8:zG:=⟨[],[],[]⟩
def qYm:zG:=⟨[(4,.c .bool)],[],[]⟩
def qWz (f:UE)(d:qY4.den):=f d.1.1.1 d.1.2.2.1.1
def UF:qE:=⟨[qY4],[(.exit 0,qR8),(.ret,qYm)],(Unit⊕Bool),fun k d=>qWz (FR k k) d,fun b x _ K=>match x with|.inl x=>K (.exit 0) (zQ b qR8 ((),()))|.inr x=>K .ret (zQ b qYm (((x,()),()),()))⟩
def yKw:qF:=⟨[],[(2,UF)],[],true⟩
theorem vDd:qC prog 1000 0 25 (zY (qA f135) 0) UF:=lp (A:=yKw) UF (fun d=>match d with|.inl d=>.inl ()|.inr d=>.inr d.1.1.1) qWz FR JW (e1 Cq) zE
def vGg:=zM 135 [.c (.dat false zJ),.c (.fn 136)] (.c .bool) (fun k d=>JV k d.1) (fun x=>(x,()))
theorem yDp:zB prog vGg:=fA (rs:=.c .bool) f135 yKw (fun d=>d.1) (e1 Cq) (qN vDd)
def yKj:zG:=⟨[(0,.c (.dat false zJ)),(5,.c (.dat false zJ)),(6,.c .i),(7,.c .i)],[],[]⟩
def qYz:zG:=⟨[(0,.c (.dat false zJ))],[],[]⟩
def yJu:zG:=⟨[(2,.c .bool)],[],[]⟩
def qU7 (f:UG)(d:yKj.den):=f d.1.1.1 d.1.2.1.1 d.1.2.2.1.1 d.1.2.2.2.1.1
def UH:qE:=⟨[yKj],[(.exit 0,qYz),(.ret,yJu)],UI,fun k d=>qU7 (vt k k) d,fun b x _ K=>match x with|.inl x=>K (.exit 0) (zQ b qYz (((x,()),()),()))|.inr x=>K .ret (zQ b yJu (((x,()),()),()))⟩
def qWd:qF:=⟨[],[(2,UH)],[],false⟩
theorem yRr:qC prog 1000 0 26 (zY (qA f105) 0) UH:=lp (A:=qWd) UH (fun d=>match d with|.inl d=>.inl d.1.1.1|.inr d=>.inr d.1.1.1) qU7 vt BP (e2 sW yDp) zE
def vHr:=zM 105 [.c (.dat false zJ)] (.c .bool) (fun k d=>FQ k d.1) (fun x=>(x,()))
theorem yRz:zB prog vHr:=fA (rs:=.c .bool) f105 qWd (fun d=>d.1) (e2 sW yDp) (qN yRr)
def qRz:zG:=⟨[(0,.c (.dat false .i)),(3,.c .i),(6,.c (.dat false .i)),(7,.c .i),(8,.c .i)],[],[]⟩
def qTz:zG:=⟨[(0,.c (.dat false .i))],[],[]⟩
def yDt:zG:=⟨[(2,.c .bool)],[],[]⟩
def yJq (f:UJ)(d:qRz.den):=f d.1.1.1 d.1.2.1.1 d.1.2.2.1.1 d.1.2.2.2.1.1 d.1.2.2.2.2.1.1
def UK:qE:=⟨[qRz],[(.exit 0,qTz),(.ret,yDt)],(AC⊕Bool),fun k d=>yJq (FU k k) d,fun b x _ K=>match x with|.inl x=>K (.exit 0) (zQ b qTz (((x,()),()),()))|.inr x=>K .ret (zQ b yDt (((x,()),()),()))⟩
def yEv:qF:=⟨[],[(3,UK)],[],true⟩
theorem vJa:qC prog 1000 0 20 (zY (qA f106) 0) UK:=lp (A:=yEv) UK (fun d=>match d with|.inl d=>.inl d.1.1.1|.inr d=>.inr d.1.1.1) yJq FU BQ e0 zE
def vB0:=zM 106 [.c (.dat false .i)] (.c .bool) (fun k d=>FT k d.1) (fun x=>(x,()))
theorem vJf:zB prog vB0:=fA (rs:=.c .bool) f106 yEv (fun d=>d.1) e0 (qN vJa)
def vLc:=zM 104 [.c (.dat false .i),.c .i] (.c .bool) (fun k d=>Ji k d.1 d.2.1) (fun x=>(x,()))
theorem vD8:zB prog vLc:=fA (rs:=.c .bool) f104 n0 (fun d=>d.1) (e1 qY2) zE
def yZ5:=zM 102 [.agg wH,.ptr sU] (.c .bool) (fun k d=>JY k (dO d) (yWx d)) (fun x=>(x,()))
theorem yDg:zB prog yZ5:=fA (rs:=.c .bool) f102 n0 (fun d=>d.1) (e3 SP fb vD8) zE
def yI8:zG:=⟨[(0,.c (.dat false zJ)),(1,.c (.lit (.fn 102 [1001000]))),(7,.c .i),(8,.c .i)],[.robox K7],[]⟩
def yMd:zG:=⟨[],[],[]⟩
def qYs:zG:=⟨[(4,.c .i)],[],[]⟩
def yE1 (f:UL)(d:yI8.den):=(pT (f d.1.1.1 d.1.2.2.1.1 d.1.2.2.2.1.1) d.2.1)
def UM:qE:=⟨[yI8],[(.exit 0,yMd),(.ret,qYs)],(Unit⊕Int),fun k d=>yE1 (vu k k) d,fun b x _ K=>match x with|.inl x=>K (.exit 0) (zQ b yMd ((),()))|.inr x=>K .ret (zQ b qYs (((x,()),()),()))⟩
def qSw:qF:=⟨[],[(2,UM)],[],false⟩
theorem vDb:qC prog 1000 0 19 (zY (qA f124) 0) UM:=lp (A:=qSw) UM (fun d=>match d with|.inl d=>.inl ()|.inr d=>.inr d.1.1.1) yE1 vu BR (e1 yDg) zE
def ySz:=zM 124 [.c (.dat false zJ),.fn 102 [sU]] (.c .i) (fun k d=>(K0 (Qi k) d)) (fun x=>(x,()))
theorem vJk:zB prog ySz:=fA (rs:=.c .i) f124 qSw (fun d=>d.1) (e1 yDg) (qN vDb)
def yQe:=zM 107 [.c (.dat false zJ),.fn 102 [sU]] (.c .bool) (fun k d=>(K0 (JX k) d)) (fun x=>(x,()))
theorem yTs:zB prog yQe:=fA (rs:=.c .bool) f107 ⟨[],[],[],false⟩ (fun d=>d.1) (e1 vJk) zE
def vG2:=zM 63 [.agg sU] (.c .bool) (fun k d=>FV k (wB d)) (fun x=>(x,()))
theorem yEy:zB prog vG2:=fA (rs:=.c .bool) f63 n0 (fun d=>d.1) (e3 yRz vJf yTs) zE
def yAh:zG:=⟨[(2,.c (.lit (.ptr 1001000 0))),(3,.c (.lit (.ptr 1001001 0))),(5,.c (.lit (.osl 1001002 none))),(44,.c (.dat false qZ)),(45,.c .i),(46,.c .i)],[.box true sS,.box true K7,.arr true .i],[(5,none,.i,false)]⟩
def qQz:zG:=⟨[(2,.c (.lit (.ptr 1001000 0))),(3,.c (.lit (.ptr 1001001 0))),(5,.c (.lit (.osl 1001002 none)))],[.box true sS,.box true K7,.arr true .i],[]⟩
def yA0 (f:UN)(d:yAh.den):=f d.1.2.2.2.1.1 d.1.2.2.2.2.1.1 d.1.2.2.2.2.2.1.1 (vS d.2.1) (wB d.2.2.1) d.2.2.2.1
def UO:qE:=⟨[yAh],[(.exit 0,qQz)],UP,fun k d=>yA0 (BX k k) d,fun b x _ K=>K (.exit 0) (zQ b qQz (((),(),(),()),((ek x.1 ()),(vK x.2.1 ()),x.2.2,())))⟩
def yJb:qF:=⟨[],[(5,UO)],[],true⟩
theorem vFi:qC prog 1000 0 92 (zY (qA f31) 0) UO:=lp (A:=yJb) UO (fun d=>((vS d.2.1),(wB d.2.2.1),d.2.2.2.1)) yA0 BX BY (e6 fb KT qQ3 yEy wj KP) zE
def yPi:=zM 31 [.agg lL,.agg sU] (.c .bool) (fun k d=>BW k (vS d) (pQ d)) (fun x=>(x,()))
theorem K8:zB prog yPi:=fA (rs:=.c .bool) f31 yJb (fun d=>d.1) (e6 fb KT qQ3 yEy wj KP) (qN vFi)
def qX9:zG:=⟨[(1,.c (.lit (.ptr 1001000 0))),(2,.c .i),(3,.c (.lit (.ptr 1001003 0))),(12,.c .bool),(13,.c (.lit (.ptr 1001004 0))),(17,.c (.lit (.ptr 1001005 0))),(72,.c (.dat true (.sl (.int .u8)))),(73,.c .i),(74,.c .i)],[.box true qZg,.arr true (.int .u8),.arr true (.int .u8),.box true Cz,.box true [.lit (.ptr 1001000 0),.i,.i,.i,.bool],.box true kj],[(17,some 1,.bool,true),(17,some 2,.bool,true),(17,some 3,.bool,true),(17,some 4,.bool,true),(17,some 5,.bool,true),(17,some 6,.bool,true),(17,some 7,.bool,true),(17,some 8,.bool,true)]⟩
def yMb:zG:=⟨[(1,.c (.lit (.ptr 1001000 0))),(2,.c .i),(3,.c (.lit (.ptr 1001003 0))),(12,.c .bool),(13,.c (.lit (.ptr 1001004 0))),(17,.c (.lit (.ptr 1001005 0)))],[.box true qZg,.arr true (.int .u8),.arr true (.int .u8),.box true Cz,.box true [.lit (.ptr 1001000 0),.i,.i,.i,.bool],.box true kj],[]⟩
def yDd (f:UQ)(d:qX9.den):=f d.1.2.1.1 d.1.2.2.2.1.1 d.1.2.2.2.2.2.2.1.1 d.1.2.2.2.2.2.2.2.1.1 d.1.2.2.2.2.2.2.2.2.1.1 (kO d.2.1) d.2.2.1 d.2.2.2.1 (vS d.2.2.2.2.1) (jK d.2.2.2.2.2.1) (wB d.2.2.2.2.2.2.1)
def UR:qE:=⟨[qX9],[(.exit 0,yMb)],US,fun k d=>yDd (v8 k k) d,fun b x _ K=>K (.exit 0) (zQ b yMb (((),(x.1,()),(),(x.2.1,()),(),(),()),((Cp x.2.2.1 ()),x.2.2.2.1,x.2.2.2.2.1,(ek x.2.2.2.2.2.1 ()),(dy x.2.2.2.2.2.2.1 ()),(vK x.2.2.2.2.2.2.2 ()),())))⟩
def qX0:qF:=⟨[],[(11,UR)],[],true⟩
theorem yQx:qC prog 1000 2 112 (zY (qA f11) 0) UR:=lp (A:=qX0) UR (fun d=>(d.1.2.1.1,d.1.2.2.2.1.1,(kO d.2.1),d.2.2.1,d.2.2.2.1,(vS d.2.2.2.2.1),(jK d.2.2.2.2.2.1),(wB d.2.2.2.2.2.2.1))) yDd v8 B7 (Kr Ks Q3 Ky pS yIx KG KI Gy K6 K8) zE
def yPl:=H0 11 [.agg K3,.ptr true ie,.c (.p .i)] (.tup [(false,[.link 1]),(false,qP)]) [vI,yL7,KD] 2 (.tup [(false,[.nilp]),(false,qP)]) [vI] 0 (fun k d=>iO k (vS d) (K5 d) d.2.2.2.2.2.2.2.2.2.2.2.2.2.2.2.1) (fun x=>((),x.1,(eZ x.2.1 ((),(wZ x.2.2.1 ((),(dy x.2.2.2 ()))))))) (fun x=>((),x.1,(eZ x.2 ())))
theorem qRd:zB prog yPl:=fN (rs:=.tup [(false,[.link 1]),(false,qP)]) (os:=[vI,yL7,KD]) (ns:=2) (rs2:=.tup [(false,[.nilp]),(false,qP)]) (os2:=[vI]) (ns2:=0) f11 qX0 2 (fun d=>(d.2.1,(yIj d),(ySh d),(yRs d))) (fun d=>(d.2.1,(yIj d))) (Kr Ks Q3 Ky pS yIx KG KI Gy K6 K8) (qN yQx)
def vEt:=yW 15 [.chn [K9,La,ie]] (.c .bool) [tj,tl,vI] 0 (fun k d=>sO k (fW d) (Lb d) (Lc d)) (fun x=>(x.1,(),(wZ x.2.1 ((),(dy x.2.2.1 (eZ x.2.2.2 ()))))))
theorem UT:zB prog vEt:=fX (rs:=.c .bool) (os:=[tj,tl,vI]) (ns:=0) f15 n0 0 (fun d=>(d.1,(UU d),(UW d),(UX d))) e0 zE
def yWc:=zM 35 [.c .i,.c .i] (.c (.own qQ)) (fun k d=>Gz k d.1 d.2.1) (fun x=>(x,()))
theorem qUz:zB prog yWc:=fA (rs:=.c (.own qQ)) f35 n0 (fun d=>d.1) e0 zE
def vHy:=zM 73 [.agg wH] (.c (.own (.int .u8))) (fun k d=>P4 k (dO d)) (fun x=>(x,()))
theorem yRp:zB prog vHy:=fA (rs:=.c (.own (.int .u8))) f73 ⟨[1],[],[],true⟩ (fun d=>d.1) (e3 qS9 KH Kz) zE
def yWw:=zM 37 [.agg Gq] (.c (.own (.int .u8))) (fun k d=>JL k (kO d)) (fun x=>(x,()))
theorem yUo:zB prog yWw:=fA (rs:=.c (.own (.int .u8))) f37 n0 (fun d=>d.1) (e2 yRp Kz) zE
def yW8:=yW 72 [.chn [Uv,ie],.c (.p (.dat false (.int .u8)))] (.c .i) [Cy,vI] 0 (fun k d=>F3 k (K4 d) (K5 d) d.2.2.2.2.2.2.2.2.2.2.2.2.2.2.2.1) (fun x=>(x.1,(),(dy x.2.1 (eZ x.2.2 ()))))
theorem vIs:zB prog yW8:=fX (rs:=.c .i) (os:=[Cy,vI]) (ns:=0) f72 n0 0 (fun d=>(d.1,(Uw d),(Ux d))) (e3 qQ2 qYf yAr) zE
def yYt:=yW 36 [.chn [K9,La,ie],.c (.p (.dat false (.int .u8)))] (.c .i) [tj,tl,vI] 0 (fun k d=>J8 k (fW d) (Lb d) (Lc d) d.2.2.2.2.2.2.2.2.2.2.2.2.2.2.2.2.2.2.2.2.2.2.2.2.2.2.2.2.2.2.2.2.2.2.1) (fun x=>(x.1,(),(wZ x.2.1 ((),(dy x.2.2.1 (eZ x.2.2.2 ()))))))
theorem vHh:zB prog yYt:=fX (rs:=.c .i) (os:=[tj,tl,vI]) (ns:=0) f36 n0 0 (fun d=>(d.1,(UU d),(UW d),(UX d))) (e3 vIs pS K6) zE
def yVx:=yW 38 [.chn [Uv,ie]] (.c .i) [Cy,vI] 0 (fun k d=>J9 k (K4 d) (K5 d)) (fun x=>(x.1,(),(dy x.2.1 (eZ x.2.2 ()))))
theorem yXt:zB prog yVx:=fX (rs:=.c .i) (os:=[Cy,vI]) (ns:=0) f38 n0 0 (fun d=>(d.1,(Uw d),(Ux d))) e0 zE
def vEy:=yW 12 [.chn [K9,La,ie],.c (.p .i),.c (.p (.dat false (.int .u8)))] (.c (.own qQ)) [tj,tl,vI] 0 (fun k d=>Ca k (fW d) (Lb d) (Lc d) d.2.2.2.2.2.2.2.2.2.2.2.2.2.2.2.2.2.2.2.2.2.2.2.2.2.2.2.2.2.2.2.2.2.2.1 d.2.2.2.2.2.2.2.2.2.2.2.2.2.2.2.2.2.2.2.2.2.2.2.2.2.2.2.2.2.2.2.2.2.2.2.1) (fun x=>(x.1,(),(wZ x.2.1 ((),(dy x.2.2.1 (eZ x.2.2.2 ()))))))
theorem qVu:zB prog vEy:=fX (rs:=.c (.own qQ)) (os:=[tj,tl,vI]) (ns:=0) f12 n0 0 (fun d=>(d.1,(UU d),(UW d),(UX d))) (e9 UT Gp qUz Gy yUo vHh yXt pS K6) zE
def vJb:=zM 42 [.agg Gq] (.c .bool) (fun k d=>Kb k (kO d)) (fun x=>(x,()))
theorem yKq:zB prog vJb:=fA (rs:=.c .bool) f42 n0 (fun d=>d.1) e0 zE
def yFf:zG:=⟨[(0,.c (.dat false qQ)),(1,.c (.lit (.fn 42 []))),(7,.c .i),(8,.c .i)],[],[]⟩
def yB7:zG:=⟨[],[],[]⟩
def qRu:zG:=⟨[(4,.c .i)],[],[]⟩
def yJl (f:UY)(d:yFf.den):=f d.1.1.1 d.1.2.2.1.1 d.1.2.2.2.1.1
def UZ:qE:=⟨[yFf],[(.exit 0,yB7),(.ret,qRu)],(Unit⊕Int),fun k d=>yJl (F9 k k) d,fun b x _ K=>match x with|.inl x=>K (.exit 0) (zQ b yB7 ((),()))|.inr x=>K .ret (zQ b qRu (((x,()),()),()))⟩
def qT6:qF:=⟨[],[(2,UZ)],[],true⟩
theorem vIa:qC prog 1000 0 19 (zY (qA f75) 0) UZ:=lp (A:=qT6) UZ (fun d=>match d with|.inl d=>.inl ()|.inr d=>.inr d.1.1.1) yJl F9 sP (e1 yKq) zE
def yRk:=zM 75 [.c (.dat false qQ),.c (.fn 42)] (.c .i) (fun k d=>QE k d.1) (fun x=>(x,()))
theorem yVv:zB prog yRk:=fA (rs:=.c .i) f75 qT6 (fun d=>d.1) (e1 yKq) (qN vIa)
def vB4:=zM 41 [.c (.dat false qQ),.c (.fn 42)] (.c .bool) (fun k d=>QD k d.1) (fun x=>(x,()))
theorem yXu:zB prog vB4:=fA (rs:=.c .bool) f41 n0 (fun d=>d.1) (e1 yVv) zE
def yNm:=zM 14 [.c (.dat false qQ)] (.c .bool) (fun k d=>wb k d.1) (fun x=>(x,()))
theorem yBl:zB prog yNm:=fA (rs:=.c .bool) f14 n0 (fun d=>d.1) (e1 yXu) zE
def yZ6:=yW 16 [.ptr true ie,.agg [.i,.i]] (.tup []) [vI] 0 (fun k d=>Kf k (jV d) (d.2.2.2.2.2.2.2.2.2.2.1,d.2.2.2.2.2.2.2.2.2.2.2.1)) (fun x=>(eZ x ()))
theorem qW4:zB prog yZ6:=fX (rs:=.tup []) (os:=[vI]) (ns:=0) f16 n0 1 (fun d=>(jV d)) e0 zE
def yX5:=yW 17 [.ptr true ie] (.tup []) [vI] 0 (fun k d=>za k (jV d)) (fun x=>(eZ x ()))
theorem yGh:zB prog yX5:=fX (rs:=.tup []) (os:=[vI]) (ns:=0) f17 ⟨[],[],[(2,3)],true⟩ 1 (fun d=>(jV d)) e0 (yc (n:=1) (by kernel_rfl) fun i hi=>match i,hi with|0,_=>.inr ⟨by kernel_rfl,zE⟩|i+1,hi=>absurd hi (by omega))
def yW9:=zM 15 [.c (.nilp)] (.c .bool) (fun k d=>GA k) (fun x=>(x,()))
theorem U0:zB prog yW9:=fA (rs:=.c .bool) f15 n0 (fun d=>d.1) e0 zE
def yVh:=zM 12 [.c (.nilp),.c .i,.c (.dat false (.int .u8))] (.c (.own qQ)) (fun k d=>yD7 k d.2.1 d.2.2.1) (fun x=>(x,()))
theorem yNc:zB prog yVh:=fA (rs:=.c (.own qQ)) f12 n0 (fun d=>d.1) (e3 U0 Gp qUz) zE
def ySr:=zM 18 [.c (.nilp)] (.agg Kx) (fun k d=>U1 k) (fun x=>(vK x ()))
theorem qUm:zB prog ySr:=fA (rs:=.agg Kx) f18 n0 (fun d=>(wB d)) e0 zE
def vHd:=yW 18 [.chn [K9,La,ie]] (.agg od) [tj,tl,vI] 0 (fun k d=>Kg k (fW d) (Lb d) (Lc d)) (fun x=>(vK x.1 ((),(wZ x.2.1 ((),(dy x.2.2.1 (eZ x.2.2.2 ())))))))
theorem qVk:zB prog vHd:=fX (rs:=.agg od) (os:=[tj,tl,vI]) (ns:=0) f18 n0 0 (fun d=>((wB d),(vCk d),(ySs d),(vAa d))) e0 zE
def yXe:=zM 81 [.c (.nilp),.c .i] (.c (.own (.int .u8))) (fun k d=>qS6 k d.2.1) (fun x=>(x,()))
theorem yUs:zB prog yXe:=fA (rs:=.c (.own (.int .u8))) f81 n0 (fun d=>d.1) e0 zE
def yZ8:=zM 50 [.c (.nilp),.c .i] (.tup [(false,qP),(false,lM),(false,oc)]) (fun k d=>Ld k d.2.1) (fun x=>(x.1,x.2.1,x.2.2,()))
theorem yV2:zB prog yZ8:=fA (rs:=.tup [(false,qP),(false,lM),(false,oc)]) f50 n0 (fun d=>(d.1,d.2.1,d.2.2.1)) (e3 yUs yAj Gl) zE
def vHj:=zM 26 [.c (.nilp)] (.tup [(false,qP),(false,qP),(false,lM),(false,oc),(false,[.bool])]) (fun k d=>qV9 k) (fun x=>(ek x ()))
theorem qZ5:zB prog vHj:=fA (rs:=.tup [(false,qP),(false,qP),(false,lM),(false,oc),(false,[.bool])]) f26 ⟨[],[],[(2,3)],true⟩ (fun d=>(d.1,d.2.1,d.2.2.1,d.2.2.2.1,d.2.2.2.2.1)) (e1 yV2) (yc (n:=1) (by kernel_rfl) fun i hi=>match i,hi with|0,_=>.inr ⟨by kernel_rfl,zE⟩|i+1,hi=>absurd hi (by omega))
def vBf:=yW 27 [.c (.p (.nilp)),.c (.p (.dat false (.int .u8)))] (.tup [(false,[.nilp]),(false,[.own (.int .u8)]),(false,[.own (.sl (.int .u8))]),(false,qP)]) [] 0 (fun k d=>yK6 k d.2.1) (fun x=>((),x.1,x.2.1,x.2.2,()))
theorem yGv:zB prog vBf:=fX (rs:=.tup [(false,[.nilp]),(false,[.own (.int .u8)]),(false,[.own (.sl (.int .u8))]),(false,qP)]) (os:=[]) (ns:=0) f27 n0 0 (fun d=>(d.2.1,d.2.2.1,d.2.2.2.1)) e0 zE
def vGo:=zM 34 [.c (.nilp),.c (.dat false (.int .u8))] (.c .i) (fun k d=>Le k d.2.1) (fun x=>(x,()))
theorem yCe:zB prog vGo:=fA (rs:=.c .i) f34 n0 (fun d=>d.1) e0 zE
def yIu:zG:=⟨[(2,.c .i),(3,.c (.lit (.ptr 1001000 0))),(12,.c .bool),(13,.c (.lit .nilp)),(17,.c (.lit (.ptr 1001001 0))),(72,.c (.lit (.osl 1001002 none))),(73,.c .i),(74,.c .i)],[.box true Cz,.box true kj,.arr true (.sl (.int .u8))],[(17,some 1,.bool,true),(17,some 2,.bool,true),(17,some 3,.bool,true),(17,some 4,.bool,true),(17,some 5,.bool,true),(17,some 6,.bool,true),(17,some 7,.bool,true),(17,some 8,.bool,true)]⟩
def yFh:zG:=⟨[(2,.c .i),(3,.c (.lit (.ptr 1001000 0))),(12,.c .bool),(13,.c (.lit .nilp)),(17,.c (.lit (.ptr 1001001 0)))],[.box true Cz,.box true kj],[]⟩
def yAs (f:U2)(d:yIu.den):=f d.1.1.1 d.1.2.2.1.1 d.1.2.2.2.2.2.2.1.1 d.1.2.2.2.2.2.2.2.1.1 (vS d.2.1) (wB d.2.2.1) d.2.2.2.1
def U3:qE:=⟨[yIu],[(.exit 0,yFh)],U4,fun k d=>yAs (GB k k) d,fun b x _ K=>K (.exit 0) (zQ b yFh (((x.1,()),(),(x.2.1,()),(),(),()),((ek x.2.2.1 ()),(vK x.2.2.2 ()),())))⟩
def yCt:qF:=⟨[],[(11,U3)],[],true⟩
theorem vG9:qC prog 1000 0 112 (zY (qA f11) 0) U3:=lp (A:=yCt) U3 (fun d=>(d.1.1.1,d.1.2.2.1.1,(vS d.2.1),(wB d.2.2.1))) yAs GB qVi (Kr Ks qZ5 Ky pS yGv KG KI Gy yCe K8) zE
def vI0:=yW 11 [.agg K3,.c (.p (.nilp)),.c (.p .i)] (.tup [(false,[.nilp]),(false,qP)]) [] 0 (fun k d=>yDc k (vS d) d.2.2.2.2.2.2.1) (fun x=>((),x,()))
theorem qZ2:zB prog vI0:=fX (rs:=.tup [(false,[.nilp]),(false,qP)]) (os:=[]) (ns:=0) f11 yCt 0 (fun d=>d.2.1) (Kr Ks qZ5 Ky pS yGv KG KI Gy yCe K8) (qN vG9)
def qXd:zG:=⟨[(2,.c .i),(4,.c (.lit (.ptr 1001000 0))),(8,.c (.lit (.ptr 1001001 0))),(9,.c (.lit (.ptr 1001002 0))),(10,.c (.lit (.ptr 1001005 0))),(12,.c (.lit (.ptr 1001007 0))),(30,.c (.dat false nY)),(31,.c .i),(32,.c .i)],[.box true Cz,.box true Lf,.box true yKn,.arr true (.int .u8),.arr true (.int .u8),.box true [.lit (.ptr 1001006 0),.i,.dat true jF,.i,.i,.i,.i,.dat true qZ,.dat true (.sl .i),.dat true .i,.dat true (.sl .i),.dat true .i,.dat true (.sl .i),.dat true zJ,.dat true .i,.i,.bool,.i,.bool],.box true [.lit (.ptr 1001002 0),.i,.i,.i,.bool],.box true [.lit (.osl 1001008 none),.lit (.osl 1001009 none),.i,.lit .nsl,.lit .nsl,.lit .nsl,.lit .nsl,.lit .nsl,.lit .nsl,.lit .nsl,.lit .nsl,.i,.bool,.bool],.arr true (.sl qQ),.arr true qQ],[(12,some 0,(.sl qQ),false),(12,some 1,qQ,false)]⟩
def qTm:zG:=⟨[(2,.c .i),(4,.c (.lit (.ptr 1001000 0))),(8,.c (.lit (.ptr 1001001 0))),(9,.c (.lit (.ptr 1001002 0))),(10,.c (.lit .nilp)),(12,.c (.lit (.ptr 1001005 0))),(30,.c (.dat false nY)),(31,.c .i),(32,.c .i)],[.box true Cz,.box true Lf,.box true yKn,.arr true (.int .u8),.arr true (.int .u8),.box true [.lit (.osl 1001006 none),.lit (.osl 1001007 none),.i,.lit .nsl,.lit .nsl,.lit .nsl,.lit .nsl,.lit .nsl,.lit .nsl,.lit .nsl,.lit .nsl,.i,.bool,.bool],.arr true (.sl qQ),.arr true qQ],[(12,some 0,(.sl qQ),false),(12,some 1,qQ,false)]⟩
def qXb:zG:=⟨[(8,.c (.lit (.ptr 1001000 0))),(10,.c (.lit .nilp)),(12,.c (.lit (.ptr 1001001 0)))],[.box true Lf,.box true [.lit (.osl 1001002 none),.lit (.osl 1001003 none),.i,.lit .nsl,.lit .nsl,.lit .nsl,.lit .nsl,.lit .nsl,.lit .nsl,.lit .nsl,.lit .nsl,.i,.bool,.bool],.arr true (.sl qQ),.arr true qQ],[]⟩
def qZ8:zG:=⟨[(8,.c (.lit (.ptr 1001000 0))),(10,.c (.lit (.ptr 1001001 0))),(12,.c (.lit (.ptr 1001006 0)))],[.box true Lf,.box true [.lit (.ptr 1001002 0),.i,.dat true jF,.i,.i,.i,.i,.dat true qZ,.dat true (.sl .i),.dat true .i,.dat true (.sl .i),.dat true .i,.dat true (.sl .i),.dat true zJ,.dat true .i,.i,.bool,.i,.bool],.box true [.lit (.ptr 1001003 0),.i,.i,.i,.bool],.box true [.i,.lit (.osl 1001004 none),.i,.lit (.osl 1001005 none),.i,.i,.i,.bool,.bool,.i],.arr true (.int .u8),.arr true (.int .u8),.box true [.lit (.osl 1001007 none),.lit (.osl 1001008 none),.i,.lit .nsl,.lit .nsl,.lit .nsl,.lit .nsl,.lit .nsl,.lit .nsl,.lit .nsl,.lit .nsl,.i,.bool,.bool],.arr true (.sl qQ),.arr true qQ],[]⟩
def yEw (f:uG)(d:nc [qXd,qTm]):Option Lg:=match d with|.inl d=>f (.inl (d.1.1.1,d.1.2.2.2.2.2.2.1.1,d.1.2.2.2.2.2.2.2.1.1,d.1.2.2.2.2.2.2.2.2.1.1,(vS d.2.1),(jK d.2.2.1),(kO d.2.2.2.1),d.2.2.2.2.1,d.2.2.2.2.2.1,(dz d.2.2.2.2.2.2.1),(jK d.2.2.2.2.2.2.2.1),(jK d.2.2.2.2.2.2.2.2.1),d.2.2.2.2.2.2.2.2.2.1,d.2.2.2.2.2.2.2.2.2.2.1))|.inr d=>f (.inr (d.1.1.1,d.1.2.2.2.2.2.2.1.1,d.1.2.2.2.2.2.2.2.1.1,d.1.2.2.2.2.2.2.2.2.1.1,(vS d.2.1),(jK d.2.2.1),(kO d.2.2.2.1),d.2.2.2.2.1,d.2.2.2.2.2.1,(jK d.2.2.2.2.2.2.1),d.2.2.2.2.2.2.2.1,d.2.2.2.2.2.2.2.2.1))
def U5:qE:=⟨[qXd,qTm],[(.exit 0,qXb),(.exit 0,qZ8)],Lg,fun k d=>yEw (sQ k k) d,fun b x _ K=>match x with|.inl x=>K (.exit 0) (zQ b qXb (((),(),(),()),((dy x.1 ()),(dy x.2.1 ()),x.2.2.1,x.2.2.2,())))|.inr x=>K (.exit 0) (zQ b qZ8 (((),(),(),()),((dy x.1 ()),(wZ x.2.1 ()),(dy x.2.2.1 ()),(Cp x.2.2.2.1 ()),x.2.2.2.2.1,x.2.2.2.2.2.1,(dy x.2.2.2.2.2.2.1 ()),x.2.2.2.2.2.2.2.1,x.2.2.2.2.2.2.2.2,())))⟩
def qVh:qF:=⟨[],[(7,U5)],[],true⟩
theorem vCb:qC prog 1000 0 110 (zY (qA f5) 0) U5:=lp (A:=qVh) U5 (fun d=>match d with|.inl d=>.inl ((jK d.2.1),(jK d.2.2.1),d.2.2.2.1,d.2.2.2.2.1)|.inr d=>.inr ((jK d.2.1),(dz d.2.2.1),(jK d.2.2.2.1),(kO d.2.2.2.2.1),d.2.2.2.2.2.1,d.2.2.2.2.2.2.1,(jK d.2.2.2.2.2.2.2.1),d.2.2.2.2.2.2.2.2.1,d.2.2.2.2.2.2.2.2.2.1)) yEw sQ gY (e13 F2q qRd qVu Gp yBl UT qW4 yGh yNc U0 qUm qVk qZ2) zE (hs:=by intro k rec d;rcases d with d|d<;>kernel_rfl) (h0:=by intro k d;rcases d with d|d<;>rfl)
def qKh:=zM 5 [.agg K3,.c .i,.c .i,.c (.dat false nY)] (.agg yMk) (fun k d=>Cb k (vS d) d.2.2.2.2.2.1 d.2.2.2.2.2.2.1 d.2.2.2.2.2.2.2.1) (fun x=>(TO x ()))
theorem qYh:zB prog qKh:=fA (rs:=.agg yMk) f5 qVh (fun d=>(TR d)) (e13 F2q qRd qVu Gp yBl UT qW4 yGh yNc U0 qUm qVk qZ2) (qN vCb)
def yUk:=zM 19 [.agg [.i,.i],.c .i] (.agg [.i,.i]) (fun k d=>Ki k d.1 d.2.1 d.2.2.1) (fun x=>(x.1,x.2,()))
theorem yCw:zB prog yUk:=fA (rs:=.agg [.i,.i]) f19 ⟨[],[],[],false⟩ (fun d=>(d.1,d.2.1)) e0 zE
def yFc:zG:=⟨[(0,.c (.dat false .i)),(4,.c (.lit (.ptr 1001000 0))),(5,.c .i)],[.box true [.i,.i]],[]⟩
def yGi:zG:=⟨[(4,.c (.lit (.ptr 1001000 0)))],[.box true [.i,.i]],[]⟩
def yD4 (f:U6)(d:yFc.den):=f d.1.1.1 d.1.2.2.1.1 d.2.1.1 d.2.1.2.1
def U7:qE:=⟨[yFc],[(.exit 0,yGi)],wL,fun k d=>yD4 (Ge k k) d,fun b x _ K=>K (.exit 0) (zQ b yGi (((),()),((x.1,x.2,()),())))⟩
def yLe:qF:=⟨[],[(3,U7)],[],false⟩
theorem vDc:qC prog 1000 0 32 (zY (qA f7) 0) U7:=lp (A:=yLe) U7 (fun d=>(d.2.1.1,d.2.1.2.1)) yD4 Ge Cc (e1 yCw) zE
def qDw:=zM 7 [.c (.dat false .i)] (.tup [(false,qP),(false,[.bool])]) (fun k d=>Kk k d.1) (fun x=>(x.1,x.2,()))
theorem vKr:zB prog qDw:=fA (rs:=.tup [(false,qP),(false,[.bool])]) f7 yLe (fun d=>(d.1,d.2.1)) (e1 yCw) (qN vDc)
def yP5:=zM 20 [.c (.dat false .i),.ptr fc] (.c .bool) (fun k d=>(kP (Om k) d)) (fun x=>(x,()))
theorem yJ4:zB prog yP5:=fA (rs:=.c .bool) f20 ⟨[],[],[],false⟩ (fun d=>d.1) e0 zE
def yI3:zG:=⟨[(0,.c (.dat false (.sl .i))),(1,.c (.lit (.fn 20 [1001000]))),(7,.c .i),(8,.c .i)],[.robox iX],[]⟩
def yL8:zG:=⟨[],[],[]⟩
def qV7:zG:=⟨[(4,.c .i)],[],[]⟩
def qQv (f:U8)(d:yI3.den):=(jP (f d.1.1.1 d.1.2.2.1.1 d.1.2.2.2.1.1) d.2.1)
def U9:qE:=⟨[yI3],[(.exit 0,yL8),(.ret,qV7)],(Unit⊕Int),fun k d=>qQv (Ek k k) d,fun b x _ K=>match x with|.inl x=>K (.exit 0) (zQ b yL8 ((),()))|.inr x=>K .ret (zQ b qV7 (((x,()),()),()))⟩
def yEl:qF:=⟨[],[(2,U9)],[],false⟩
theorem vIf:qC prog 1000 0 19 (zY (qA f43) 0) U9:=lp (A:=yEl) U9 (fun d=>match d with|.inl d=>.inl ()|.inr d=>.inr d.1.1.1) qQv Ek yr (e1 yJ4) zE
def yQ8:=zM 43 [.c (.dat false (.sl .i)),.fn 20 [fc]] (.c .i) (fun k d=>(kP (On k) d)) (fun x=>(x,()))
theorem yTk:zB prog yQ8:=fA (rs:=.c .i) f43 yEl (fun d=>d.1) (e1 yJ4) (qN vIf)
def yS5:=zM 21 [.c (.dat false (.sl .i)),.fn 20 [fc]] (.c .bool) (fun k d=>(kP (Ig k) d)) (fun x=>(x,()))
theorem Va:zB prog yS5:=fA (rs:=.c .bool) f21 ⟨[],[],[],false⟩ (fun d=>d.1) (e1 yTk) zE
def qUi:zG:=⟨[(1,.c (.lit (.ptr 1001000 0))),(3,.c (.lit (.osl 1001001 none))),(5,.c .i),(17,.c (.dat false (.sl .i))),(18,.c .i),(19,.c .i),(24,.c (.dat false .i)),(25,.c .i),(26,.c .i)],[.box true iX,.arr true .i],[(3,none,.i,false)]⟩
def yM4:zG:=⟨[(1,.c (.lit (.ptr 1001000 0))),(3,.c (.lit (.osl 1001001 none))),(17,.c (.dat false (.sl .i))),(18,.c .i),(19,.c .i)],[.box true iX,.arr true .i],[]⟩
def qVl:zG:=⟨[(2,.c .bool)],[],[]⟩
def yLc (f:Vb)(d:qUi.den):=(jP (f d.1.2.2.1.1 d.1.2.2.2.1.1 d.1.2.2.2.2.1.1 d.1.2.2.2.2.2.1.1 d.1.2.2.2.2.2.2.1.1 d.1.2.2.2.2.2.2.2.1.1 d.1.2.2.2.2.2.2.2.2.1.1) d.2.1) d.2.2.1
def Vc:qE:=⟨[qUi],[(.exit 2,yM4),(.ret,qVl)],Vd,fun k d=>yLc (mj k k) d,fun b x _ K=>match x with|.inl x=>K (.exit 2) (zQ b yM4 (((),(),(x.1,()),(x.2.1,()),(x.2.2.1,()),()),((yRj x ()),x.2.2.2.2.2.2.2,())))|.inr x=>K .ret (zQ b qVl (((x,()),()),()))⟩
def yDo:zG:=⟨[(1,.c (.lit (.ptr 1001000 0))),(3,.c (.lit (.osl 1001001 none))),(17,.c (.dat false (.sl .i))),(18,.c .i),(19,.c .i)],[.box true iX,.arr true .i],[(3,none,.i,false)]⟩
def qXf:zG:=⟨[(3,.c (.lit (.osl 1001000 none)))],[.arr true .i],[]⟩
def yLn:zG:=⟨[(2,.c .bool)],[],[]⟩
def qSz (f:Ve)(d:yDo.den):=(jP (f d.1.2.2.1.1 d.1.2.2.2.1.1 d.1.2.2.2.2.1.1) d.2.1) d.2.2.1
def Vf:qE:=⟨[yDo],[(.exit 0,qXf),(.ret,yLn)],(AC⊕Bool),fun k d=>qSz (mm k k) d,fun b x _ K=>match x with|.inl x=>K (.exit 0) (zQ b qXf (((),()),(x,())))|.inr x=>K .ret (zQ b yLn (((x,()),()),()))⟩
def Vg:qF:=⟨[],[(9,Vc),(6,Vf)],[],false⟩
theorem vCl:qC prog 1000 0 58 (zY (zY (qA f8) 0) 0) Vc:=lp (A:=Vg) Vc (fun d=>match d with|.inl d=>.inl (d.1.2.2.1.1,d.1.2.2.2.1.1,d.1.2.2.2.2.1.1,(jN d.2.1 d.2.2.1))|.inr d=>.inr d.1.1.1) yLc mj rY (e2 Va wj) zE
theorem yU7:qC prog 1000 0 58 (zY (qA f8) 0) Vf:=lp (A:=Vg) Vf (fun d=>match d with|.inl d=>.inl d.2.1|.inr d=>.inr d.1.1.1) qSz mm rZ (e2 Va wj) (qN vCl)
def qJo:=zM 8 [.agg fc] (.c .bool) (fun k d=>(jP (yt k) d)) (fun x=>(x,()))
theorem yY5:zB prog qJo:=fA (rs:=.c .bool) f8 Vg (fun d=>d.1) (e2 Va wj) (qN yU7)
def qYo:zG:=⟨[(1,.c (.dat false .i)),(4,.c (.lit (.ptr 1001000 0))),(5,.c (.lit (.ptr 1001001 0))),(6,.c .i)],[.box true iW,.box true iW],[]⟩
def qRl:zG:=⟨[(4,.c (.lit (.ptr 1001000 0))),(5,.c (.lit (.ptr 1001001 0)))],[.box true iW,.box true iW],[]⟩
def qXv (f:Vh)(d:qYo.den):=(td (td (f d.1.1.1 d.1.2.2.2.1.1) d.2.1) d.2.2.1)
def Vi:qE:=⟨[qYo],[(.exit 0,qRl)],Vj,fun k d=>qXv (Lh k k) d,fun b x _ K=>K (.exit 0) (zQ b qRl (((),(),()),((Cw x ()),(vG3 x ()),())))⟩
def yDy:qF:=⟨[],[(3,Vi)],[],false⟩
theorem vBi:qC prog 1000 0 27 (zY (qA f46) 0) Vi:=lp (A:=yDy) Vi (fun d=>(Cw d.2.1 (dO d.2.2.1))) qXv Lh yGk e0 zE
def yNl:=zM 46 [.c .i,.c (.dat false .i)] (.agg lN) (fun k d=>yHd k d.1 d.2.1) (fun x=>(j5 x ()))
theorem vKz:zB prog yNl:=fA (rs:=.agg lN) f46 yDy (fun d=>(dO d)) e0 (qN vBi)
def yVp:=zM 24 [.c .i,.c .i,.c (.dat false .i)] (.agg Co) (fun k d=>GC k d.1 d.2.1 d.2.2.1) (fun x=>(Cp x ()))
theorem yQg:zB prog yVp:=fA (rs:=.agg Co) f24 n0 (fun d=>(kO d)) (e1 vKz) zE
def yWu:=zM 78 [.c .i] (.c .i) (fun k d=>Vk k d.1) (fun x=>(x,()))
theorem Vl:zB prog yWu:=fA (rs:=.c .i) f78 n0 (fun d=>d.1) e0 zE
def yMq:zG:=⟨[(1,.c (.lit (.ptr 1001000 0))),(3,.c .i),(4,.c .i)],[.box true iW],[]⟩
def yEt:zG:=⟨[(3,.c .i)],[],[]⟩
def yAg:zG:=⟨[(2,.c .bool)],[],[]⟩
def qWm (f:Vm)(d:yMq.den):=f d.1.2.1.1 d.1.2.2.1.1 (dO d.2.1)
def Vn:qE:=⟨[yMq],[(.exit 0,yEt),(.ret,yAg)],(Int⊕Bool),fun k d=>qWm (Vo k k) d,fun b x _ K=>match x with|.inl x=>K (.exit 0) (zQ b yEt (((x,()),()),()))|.inr x=>K .ret (zQ b yAg (((x,()),()),()))⟩
def yDk:qF:=⟨[],[(3,Vn)],[],true⟩
theorem vFq:qC prog 1000 0 21 (zY (qA f76) 0) Vn:=lp (A:=yDk) Vn (fun d=>match d with|.inl d=>.inl d.1.1.1|.inr d=>.inr d.1.1.1) qWm Vo yAm (e1 Vl) zE
def vGr:=zM 76 [.agg wH] (.c .bool) (fun k d=>yD6 k (dO d)) (fun x=>(x,()))
theorem vD0:zB prog vGr:=fA (rs:=.c .bool) f76 yDk (fun d=>d.1) (e1 Vl) (qN vFq)
def yL9:zG:=⟨[(0,.c (.dat false .i)),(3,.c (.lit (.osl 1001000 none))),(4,.c .i),(5,.c .i)],[.arr true (.int .u8)],[]⟩
def yEz:zG:=⟨[(0,.c (.dat false .i)),(3,.c (.lit (.osl 1001000 none))),(4,.c .i)],[.arr true (.int .u8)],[]⟩
def qWf (f:Vp)(d:yL9.den):=f d.1.1.1 d.1.2.2.1.1 d.1.2.2.2.1.1 d.2.1
def Vq:qE:=⟨[yL9],[(.exit 2,yEz)],Vr,fun k d=>qWf (Vs k k) d,fun b x _ K=>K (.exit 2) (zQ b yEz (((x.1,()),(),(x.2.1,()),()),(x.2.2,())))⟩
def yDx:zG:=⟨[(0,.c (.dat false .i)),(3,.c (.lit (.osl 1001000 none))),(4,.c .i)],[.arr true (.int .u8)],[]⟩
def qR5:zG:=⟨[(3,.c (.lit (.osl 1001000 none)))],[.arr true (.int .u8)],[]⟩
def qS0 (f:Vt)(d:yDx.den):=f d.1.1.1 d.1.2.2.1.1 d.2.1
def Vu:qE:=⟨[yDx],[(.exit 0,qR5)],AC,fun k d=>qS0 (Vv k k) d,fun b x _ K=>K (.exit 0) (zQ b qR5 (((),()),(x,())))⟩
def Vw:qF:=⟨[],[(6,Vq),(3,Vu)],[],true⟩
theorem vCr:qC prog 1000 0 30 (zY (zY (qA f77) 0) 0) Vq:=lp (A:=Vw) Vq (fun d=>(d.1.1.1,d.1.2.2.1.1,d.2.1)) qWf Vs qYr e0 zE
theorem vIt:qC prog 1000 0 30 (zY (qA f77) 0) Vu:=lp (A:=Vw) Vu (fun d=>d.2.1) qS0 Vv yGa e0 (qN vCr)
def yQy:=zM 77 [.c (.dat false .i)] (.c (.own (.int .u8))) (fun k d=>qVj k d.1) (fun x=>(x,()))
theorem yVi:zB prog yQy:=fA (rs:=.c (.own (.int .u8))) f77 Vw (fun d=>d.1) e0 (qN vIt)
def yX2:=zM 45 [.agg wH] (.c (.own (.int .u8))) (fun k d=>yIc k (dO d)) (fun x=>(x,()))
theorem yTt:zB prog yX2:=fA (rs:=.c (.own (.int .u8))) f45 ⟨[1],[],[],true⟩ (fun d=>d.1) (e3 vD0 Vl yVi) zE
def vKp:=zM 23 [.agg Gq] (.agg [.i,.i,.own (.int .u8),.i,.i]) (fun k d=>GD k (kO d)) (fun x=>(ek x ()))
theorem yNs:zB prog vKp:=fA (rs:=.agg [.i,.i,.own (.int .u8),.i,.i]) f23 n0 (fun d=>(vS d)) (e1 yTt) zE
def qJc:=zM 9 [] (.c .bool) (fun k d=>QK k) (fun x=>(x,()))
theorem vAs:zB prog qJc:=fA (rs:=.c .bool) f9 n0 (fun d=>d.1) (e4 F1q yQg yNs qYh) zE
def qU8:zG:=⟨[(1,.c (.dat false nY)),(5,.c (.lit (.ptr 1001000 0))),(6,.c .i),(7,.c .i)],[.box true CA,.arr true (.sl qQ),.arr true qQ],[]⟩
def qRp:zG:=⟨[(1,.c (.dat false nY)),(5,.c (.lit (.ptr 1001000 0))),(6,.c .i)],[.box true CA,.arr true (.sl qQ),.arr true qQ],[]⟩
def qUt (f:Vx)(d:qU8.den):=f d.1.1.1 d.1.2.2.1.1 d.1.2.2.2.1.1 (mK d.2.1) d.2.2.1 d.2.2.2.1
def Ko:qE:=⟨[qU8],[(.exit 0,qRp)],Vy,fun k d=>qUt (wg k k) d,fun b x _ K=>K (.exit 0) (zQ b qRp (((x.1,()),(),(x.2.1,()),()),((tc x.2.2.1 ()),x.2.2.2.1,x.2.2.2.2,())))⟩
def yNe:zG:=⟨[(1,.c (.dat false nY)),(5,.c (.lit (.ptr 1001000 0))),(6,.c .i),(8,.c .i)],[.box true CA,.arr true (.sl qQ),.arr true qQ],[]⟩
def yIb:zG:=⟨[(5,.c (.lit (.ptr 1001000 0))),(6,.c .i)],[.box true CA,.arr true (.sl qQ),.arr true qQ],[]⟩
def qV1:zG:=⟨[(4,.c .bool)],[],[]⟩
def qYy (f:Vz)(d:yNe.den):=f d.1.1.1 d.1.2.2.1.1 d.1.2.2.2.1.1 (mK d.2.1) d.2.2.1 d.2.2.2.1
def Kp:qE:=⟨[yNe],[(.exit 3,yIb),(.ret,qV1)],VA,fun k d=>qYy (pR k k) d,fun b x _ K=>match x with|.inl x=>K (.exit 3) (zQ b yIb (((),(x.1,()),()),((tc x.2.1 ()),x.2.2.1,x.2.2.2,())))|.inr x=>K .ret (zQ b qV1 (((x,()),()),()))⟩
def yJ2:zG:=⟨[(5,.c (.lit (.ptr 1001000 0))),(6,.c .i),(9,.c (.lit (.osl 1001003 none))),(10,.c .i)],[.box true CA,.arr true (.sl qQ),.arr true qQ,.arr true .i],[(9,none,.i,false)]⟩
def qSo:zG:=⟨[(5,.c (.lit (.ptr 1001000 0))),(6,.c .i),(9,.c (.lit (.osl 1001003 none)))],[.box true CA,.arr true (.sl qQ),.arr true qQ,.arr true .i],[]⟩
def yEi (f:VB)(d:yJ2.den):=f d.1.2.1.1 d.1.2.2.2.1.1 (mK d.2.1) d.2.2.1 d.2.2.2.1 d.2.2.2.2.1
def Kq:qE:=⟨[yJ2],[(.exit 5,qSo)],VC,fun k d=>yEi (wh k k) d,fun b x _ K=>K (.exit 5) (zQ b qSo (((),(x.1,()),(),()),((tc x.2.1 ()),x.2.2.1,x.2.2.2.1,x.2.2.2.2,())))⟩
def qWl:Env:=⟨prog,fun _=>false,eO [R0q,R1q,qKh,qDw,qJo,qJc]⟩
theorem Gj:jZ qWl:=lk gJ ⟨F0q,F1q,qYh,vKr,yY5,vAs,trivial⟩
def Lj:qF:=⟨[],[(6,Ko),(14,Kp),(20,Kq)],[],true⟩
theorem yNt:qC prog 1000 0 120 (zY (qA f3) 0) Ko:=lp (A:=Lj) Ko (fun d=>(d.1.1.1,d.1.2.2.1.1,(mK d.2.1),d.2.2.1,d.2.2.2.1)) qUt wg Cg Gj zE
theorem vFt:qC prog 1000 0 120 (zY (qA f3) 1) Kp:=lp (A:=Lj) Kp (fun d=>match d with|.inl d=>.inl (d.1.2.1.1,(mK d.2.1),d.2.2.1,d.2.2.2.1)|.inr d=>.inr d.1.1.1) qYy pR Ch Gj zE
theorem vFs:qC prog 1000 0 120 (zY (qA f3) 2) Kq:=lp (A:=Lj) Kq (fun d=>(d.1.2.1.1,(mK d.2.1),d.2.2.1,d.2.2.2.1,d.2.2.2.2.1)) yEi wh Ck Gj zE
def QL:List AS:=[.c .i,.c (.dat false nY)]
theorem yO7:Oa qWl Lj 0 f3 QL (.c .bool) (fun d=>d.1) (fun k d=>Kn k d.1 d.2.1):=by intro k d;kernel_rfl
end
end Go.Ab.Gi
