/- part 99 -/
import Derived.Test.YthpehdcmpldloaaGreatGiXS
import Derived.Test.YthpehdcmpldloaaGreatGiAbE
import Derived.Test.YthpehdcmpldloaaGreatProg
set_option linter.unusedVariables false
set_option maxRecDepth 100000
set_option maxHeartbeats 4000000
namespace Go.Ab.Gi
open Go.RowKit Go.Lib Go.Proofs Go.Proofs.Tryz
noncomputable section
theorem ij:prog.follows .mixedOrders=true:=by kernel_rfl
abbrev n0:zW:=⟨[],[],[],true⟩
theorem e0:jS ⟨prog,fun _=>false,fO []⟩:=oh (l:=[]) ij trivial
theorem e1 {a0}(h0:zD prog a0):jS ⟨prog,fun _=>false,fO [a0]⟩:=oh (l:=[a0]) ij ⟨h0,trivial⟩
theorem e2 {a0 a1}(h0:zD prog a0)(h1:zD prog a1):jS ⟨prog,fun _=>false,fO [a0,a1]⟩:=oh (l:=[a0,a1]) ij ⟨h0,h1,trivial⟩
theorem e3 {a0 a1 a2}(h0:zD prog a0)(h1:zD prog a1)(h2:zD prog a2):jS ⟨prog,fun _=>false,fO [a0,a1,a2]⟩:=oh (l:=[a0,a1,a2]) ij ⟨h0,h1,h2,trivial⟩
theorem e4 {a0 a1 a2 a3}(h0:zD prog a0)(h1:zD prog a1)(h2:zD prog a2)(h3:zD prog a3):jS ⟨prog,fun _=>false,fO [a0,a1,a2,a3]⟩:=oh (l:=[a0,a1,a2,a3]) ij ⟨h0,h1,h2,h3,trivial⟩
theorem e5 {a0 a1 a2 a3 a4}(h0:zD prog a0)(h1:zD prog a1)(h2:zD prog a2)(h3:zD prog a3)(h4:zD prog a4):jS ⟨prog,fun _=>false,fO [a0,a1,a2,a3,a4]⟩:=oh (l:=[a0,a1,a2,a3,a4]) ij ⟨h0,h1,h2,h3,h4,trivial⟩
theorem e6 {a0 a1 a2 a3 a4 a5}(h0:zD prog a0)(h1:zD prog a1)(h2:zD prog a2)(h3:zD prog a3)(h4:zD prog a4)(h5:zD prog a5):jS ⟨prog,fun _=>false,fO [a0,a1,a2,a3,a4,a5]⟩:=oh (l:=[a0,a1,a2,a3,a4,a5]) ij ⟨h0,h1,h2,h3,h4,h5,trivial⟩
theorem e7 {a0 a1 a2 a3 a4 a5 a6}(h0:zD prog a0)(h1:zD prog a1)(h2:zD prog a2)(h3:zD prog a3)(h4:zD prog a4)(h5:zD prog a5)(h6:zD prog a6):jS ⟨prog,fun _=>false,fO [a0,a1,a2,a3,a4,a5,a6]⟩:=oh (l:=[a0,a1,a2,a3,a4,a5,a6]) ij ⟨h0,h1,h2,h3,h4,h5,h6,trivial⟩
theorem e8 {a0 a1 a2 a3 a4 a5 a6 a7}(h0:zD prog a0)(h1:zD prog a1)(h2:zD prog a2)(h3:zD prog a3)(h4:zD prog a4)(h5:zD prog a5)(h6:zD prog a6)(h7:zD prog a7):jS ⟨prog,fun _=>false,fO [a0,a1,a2,a3,a4,a5,a6,a7]⟩:=oh (l:=[a0,a1,a2,a3,a4,a5,a6,a7]) ij ⟨h0,h1,h2,h3,h4,h5,h6,h7,trivial⟩
theorem e9 {a0 a1 a2 a3 a4 a5 a6 a7 a8}(h0:zD prog a0)(h1:zD prog a1)(h2:zD prog a2)(h3:zD prog a3)(h4:zD prog a4)(h5:zD prog a5)(h6:zD prog a6)(h7:zD prog a7)(h8:zD prog a8):jS ⟨prog,fun _=>false,fO [a0,a1,a2,a3,a4,a5,a6,a7,a8]⟩:=oh (l:=[a0,a1,a2,a3,a4,a5,a6,a7,a8]) ij ⟨h0,h1,h2,h3,h4,h5,h6,h7,h8,trivial⟩
theorem e10 {a0 a1 a2 a3 a4 a5 a6 a7 a8 a9}(h0:zD prog a0)(h1:zD prog a1)(h2:zD prog a2)(h3:zD prog a3)(h4:zD prog a4)(h5:zD prog a5)(h6:zD prog a6)(h7:zD prog a7)(h8:zD prog a8)(h9:zD prog a9):jS ⟨prog,fun _=>false,fO [a0,a1,a2,a3,a4,a5,a6,a7,a8,a9]⟩:=oh (l:=[a0,a1,a2,a3,a4,a5,a6,a7,a8,a9]) ij ⟨h0,h1,h2,h3,h4,h5,h6,h7,h8,h9,trivial⟩
theorem e12 {a0 a1 a2 a3 a4 a5 a6 a7 a8 a9 JE JF}(h0:zD prog a0)(h1:zD prog a1)(h2:zD prog a2)(h3:zD prog a3)(h4:zD prog a4)(h5:zD prog a5)(h6:zD prog a6)(h7:zD prog a7)(h8:zD prog a8)(h9:zD prog a9)(Kb:zD prog JE)(Kc:zD prog JF):jS ⟨prog,fun _=>false,fO [a0,a1,a2,a3,a4,a5,a6,a7,a8,a9,JE,JF]⟩:=oh (l:=[a0,a1,a2,a3,a4,a5,a6,a7,a8,a9,JE,JF]) ij ⟨h0,h1,h2,h3,h4,h5,h6,h7,h8,h9,Kb,Kc,trivial⟩
def yW9:zE:=sp [(0,.c (.dat false yw)),sI 3,sI 4] []
def yJk:zE:=sp [(0,.c (.dat false yw)),sI 3] []
def yGc (f:qS2)(d:yW9.den):=f d.1.1.1 d.1.2.1.1 d.1.2.2.1.1
def qW4:zT:=⟨[yW9],[(.exit 0,yJk)],qS6,fun k d=>yGc (HY k k) d,fun b x _ K=>K (.exit 0) (zN b yJk (((x.1,()),(x.2,()),()),()))⟩
def A0q:zW:=⟨[],[(3,qW4)],[],true⟩
theorem vMi:zS prog 1000 0 30 (zQ (zR f7) 0) qW4:=lp (A:=A0q) qW4 (fun d=>(d.1.1.1,d.1.2.1.1)) yGc HY HZ e0 zF
def R0q:=zI 7 [.c (.dat false yw)] (.c .bool) (fun k d=>Q8 k d.1) (fun x=>(x,())) (fun d=>d.1)
theorem F0q:zD prog R0q:=fA f7 A0q e0 (loops1 vMi)
def R1q:=zI 8 [.c .i] (.agg [.i,.own jC,.i,.i,.i]) (fun k d=>Mt k d.1) (fun x=>(jG x ())) (fun d=>(yR d))
theorem F1q:zD prog R1q:=fA f8 n0 e0 zF
def R2q:=yH 9 [.c (.p .i)] (.c (.link 0)) [jh] 1 (fun k d=>Q5 k d.1) (fun x=>((),(iH x ()))) (fun d=>(H5 d))
theorem F2q:zD prog R2q:=fX f9 n0 0 e0 zF
def R3q:=zI 72 [.c .i,.c .i,.c .i] (.c .bool) (fun k d=>tq k d.1 d.2.1 d.2.2.1) (fun x=>(x,())) (fun d=>d.1)
theorem F3q:zD prog R3q:=fA f72 n0 e0 zF
def R4q:=zI 71 [.agg [.i,.i]] (.c .bool) (fun k d=>vCn k (d.1,d.2.1)) (fun x=>(x,())) (fun d=>d.1)
theorem F4q:zD prog R4q:=fA f71 n0 (e1 F3q) zF
def yHw:zE:=sp [(0,.c (.dat false jC)),(1,.c (.lit (.fn 71 []))),sI 7,sI 8] []
def yV1:zE:=sp [] []
def vC4:zE:=sp [sI 4] []
def yJh (f:qV5)(d:yHw.den):=f d.1.1.1 d.1.2.2.1.1 d.1.2.2.2.1.1
def qUp:zT:=⟨[yHw],[(.exit 0,yV1),(.ret,vC4)],(Unit⊕Int),fun k d=>yJh (qMf k k) d,fun b x _ K=>match x with|.inl x=>K (.exit 0) (zN b yV1 ((),()))|.inr x=>K .ret (zN b vC4 (((x,()),()),()))⟩
def A5q:zW:=⟨[],[(2,qUp)],[],true⟩
theorem vLv:zS prog 1000 0 19 (zQ (zR f121) 0) qUp:=lp (A:=A5q) qUp (fun d=>match d with|.inl d=>.inl ()|.inr d=>.inr d.1.1.1) yJh qMf yS5 (e1 F4q) zF
def R5q:=zI 121 [.c (.dat false jC),.c (.fn 71)] (.c .i) (fun k d=>vDr k d.1) (fun x=>(x,())) (fun d=>d.1)
theorem F5q:zD prog R5q:=fA f121 A5q (e1 F4q) (loops1 vLv)
def R6q:=zI 73 [.c (.dat false jC),.c (.fn 71)] (.c .bool) (fun k d=>yEm k d.1) (fun x=>(x,())) (fun d=>d.1)
theorem F6q:zD prog R6q:=fA f73 n0 (e1 F5q) zF
def R7q:=zI 32 [.agg kp] (.c .bool) (fun k d=>nG k (yR d)) (fun x=>(x,())) (fun d=>d.1)
theorem F7q:zD prog R7q:=fA f32 n0 (e2 F3q F6q) zF
def R8q:=zI 69 [.c .i] (.c .bool) (fun k d=>Rc k d.1) (fun x=>(x,())) (fun d=>d.1)
theorem F8q:zD prog R8q:=fA f69 n0 e0 zF
def R9q:=xp 186 false (.int .u8) (.own (.int .u8)) CA
theorem F9q:zD prog R9q:=fC f186 n0 e0 zF
def aaf:=zI 123 [.ptr My,.c .i] (.c (.own (.int .u8))) (fun k d=>ZS k (fU d) d.2.2.2.2.2.2.2.2.2.2.1) (fun x=>(x,())) (fun d=>d.1)
theorem vXz:zD prog aaf:=fA f123 n0 (e2 F8q F9q) zF
def yXu:zE:=⟨[(0,.c (.dat false (.int .u8))),sO 2 0],[oA (.sl (.int .u8))],[(2,none,(.sl (.int .u8)),false)]⟩
def vCx:zE:=sp [(0,.c (.dat false (.int .u8))),sO 2 0] [oA (.sl (.int .u8))]
def yC5 (f:qXn)(d:yXu.den):=f d.1.1.1 d.2.1
def qW1:zT:=⟨[yXu],[(.exit 0,vCx)],qOf,fun k d=>yC5 (EF k k) d,fun b x _ K=>K (.exit 0) (zN b vCx (((x.1,()),(),()),(x.2,())))⟩
def yD2:zW:=⟨[],[(1,qW1)],[],true⟩
theorem vLt:zS prog 1000 0 43 (zQ (zR f122) 0) qW1:=lp (A:=yD2) qW1 (fun d=>(d.1.1.1,d.2.1)) yC5 EF EG e0 zF
def aag:=zI 122 [.c (.dat false (.int .u8))] (.tup [(false,[.own (.sl (.int .u8))]),(false,yW)]) (fun k d=>ON k d.1) (fun x=>(x.1,x.2,())) (fun d=>(d.1,d.2.1))
theorem aah:zD prog aag:=fA f122 yD2 e0 (loops1 vLt)
def yMq:zE:=sp [(0,.c (.dat false (.int .u8))),sO 4 0,(5,.c (.int .u64)),(16,.c (.dat false (.int .u8))),sI 17,sI 18] [oA .i]
def yYv:zE:=sp [(0,.c (.dat false (.int .u8))),sO 4 0,(5,.c (.int .u64))] [oA .i]
def vEw (f:qKu)(d:yMq.den):=f d.1.1.1 d.1.2.2.1.1 d.1.2.2.2.1.1 d.1.2.2.2.2.1.1 d.1.2.2.2.2.2.1.1 d.2.1
def qKp:zT:=⟨[yMq],[(.exit 2,yYv)],qL0,fun k d=>vEw (Et k k) d,fun b x _ K=>K (.exit 2) (zN b yYv (((x.1,()),(),(x.2.1,()),()),(x.2.2,())))⟩
def vD3:zE:=⟨[(0,.c (.dat false (.int .u8))),sO 4 0],[oA .i],[(4,none,.i,false)]⟩
def yY3:zE:=sp [sO 4 0] [oA .i]
def yOc (f:AC→AC→Option AC)(d:vD3.den):=f d.1.1.1 d.2.1
def qXq:zT:=⟨[vD3],[(.exit 0,yY3)],AC,fun k d=>yOc (Eu k k) d,fun b x _ K=>K (.exit 0) (zN b yY3 (((),()),(x,())))⟩
def qZ7:zW:=⟨[],[(7,qKp),(4,qXq)],[],true⟩
theorem aai:zS prog 1000 0 36 (zQ (zQ (zR f90) 0) 0) qKp:=lp (A:=qZ7) qKp (fun d=>(d.1.1.1,d.1.2.2.1.1,d.2.1)) vEw Et OA e0 zF
theorem aaj:zS prog 1000 0 36 (zQ (zR f90) 0) qXq:=lp (A:=qZ7) qXq (fun d=>d.2.1) yOc Eu Ev e0 (loops1 aai)
def aak:=zI 90 [.c (.dat false (.int .u8))] (.tup [(false,[.own .i]),(false,yW)]) (fun k d=>sU k d.1) (fun x=>(x.1,x.2,())) (fun d=>(d.1,d.2.1))
theorem Re:zD prog aak:=fA f90 qZ7 e0 (loops1 aaj)
def vVf:=zI 74 [.ptr My,.c .i] (.tup [(false,yW),(false,[.fro (.int .u8)]),(false,[.fro (.sl (.int .u8))])]) (fun k d=>yo k (fU d) d.2.2.2.2.2.2.2.2.2.2.1) (fun x=>(x.1,x.2.1,x.2.2,())) (fun d=>(d.1,d.2.1,d.2.2.1))
theorem vI0:zD prog vVf:=fA f74 n0 (e3 vXz aah Re) zF
def vQ4:=zI 33 [.ptr My] (.tup [(false,yW),(false,yW),(false,[.fro (.int .u8)]),(false,[.fro (.sl (.int .u8))]),(false,[.bool])]) (fun k d=>Mh k (fU d)) (fun x=>(jG x ())) (fun d=>(d.1,d.2.1,d.2.2.1,d.2.2.2.1,d.2.2.2.2.1))
theorem qYw:zD prog vQ4:=fA f33 ⟨[],[],[(2,3)],true⟩ (e1 vI0) (Jl (n:=1) (by kernel_rfl) fun i hi=>match i,hi with|0,_=>.inr ⟨by kernel_rfl,zF⟩|i+1,hi=>absurd hi (by omega))
def aal:=zI 129 [.c .i] (.c .bool) (fun k d=>Ks k d.1) (fun x=>(x,())) (fun d=>d.1)
theorem Rf:zD prog aal:=fA f129 ⟨[],[],[],false⟩ e0 zF
def vAd:zE:=sp [sI 1,sO 5 0,sI 13,sI 14] [oA .i]
def yN0:zE:=sp [sO 5 0] [oA .i]
def yNg (f:qNw)(d:vAd.den):=f d.1.1.1 d.1.2.2.1.1 d.1.2.2.2.1.1 d.2.1
def qJm:zT:=⟨[vAd],[(.exit 0,yN0)],AC,fun k d=>yNg (Kt k k) d,fun b x _ K=>K (.exit 0) (zN b yN0 (((),()),(x,())))⟩
def yGu:zW:=⟨[],[(5,qJm)],[],false⟩
theorem aam:zS prog 1000 0 23 (zQ (zR f79) 0) qJm:=lp (A:=yGu) qJm (fun d=>d.2.1) yNg Kt Fm (e1 Rf) zF
def vMa:=zI 79 [.c .i,.c .i] (.c (.own .i)) (fun k d=>BE k d.1 d.2.1) (fun x=>(x,())) (fun d=>d.1)
theorem CL:zD prog vMa:=fA f79 yGu (e1 Rf) (loops1 aam)
def yWr:zE:=sp [sI 0,sI 1,sO 5 0,sI 13,sI 14] [.mat]
def yU5:zE:=sp [sO 5 0] [.mat]
def yXd (f:qT0)(d:yWr.den):=f d.1.1.1 d.1.2.1.1 d.1.2.2.2.1.1 d.1.2.2.2.2.1.1 d.2.1
def yAt:zT:=⟨[yWr],[(.exit 0,yU5)],EQ,fun k d=>yXd (Ku k k) d,fun b x _ K=>K (.exit 0) (zN b yU5 (((),()),(x,())))⟩
def yI0:zW:=⟨[11],[(5,yAt)],[],false⟩
theorem vV5:zS prog 1000 0 25 (zQ (zR f78) 0) yAt:=lp (A:=yI0) yAt (fun d=>d.2.1) yXd Ku Fp (e2 Rf CL) zF
def aan:=zI 78 [.c .i,.c .i] (.c (.mat)) (fun k d=>Fo k d.1 d.2.1) (fun x=>(x,())) (fun d=>d.1)
theorem Mz:zD prog aan:=fA f78 yI0 (e2 Rf CL) (loops1 vV5)
def yX1:zE:=⟨[sP 1 0,sP 2 1,sI 3,sP 4 2,(20,.c (.dat false jC)),sI 21,sI 22],[oB rA,oB jX,oB Rg,oA qS,.mat,oA .i,.mat,oA .i],[(4,some 5,.i,false)]⟩
def yEt:zE:=sp [sP 1 0,sP 2 1,sI 3,sP 4 2] [oB rA,oB jX,oB Rg,oA qS,.mat,oA .i,.mat,oA .i]
def yQ1 (f:qSj)(d:yX1.den):=f d.1.2.2.1.1 d.1.2.2.2.2.1.1 d.1.2.2.2.2.2.1.1 d.1.2.2.2.2.2.2.1.1 (yR d.2.1) (d.2.2.1.1,d.2.2.1.2.1,d.2.2.1.2.2.1) (d.2.2.2.1.1,d.2.2.2.1.2.1,d.2.2.2.1.2.2.1) d.2.2.2.2.1 d.2.2.2.2.2.1 d.2.2.2.2.2.2.1 d.2.2.2.2.2.2.2.1 d.2.2.2.2.2.2.2.2.1
def Rh:zT:=⟨[yX1],[(.exit 0,yEt)],qO2,fun k d=>yQ1 (qLm k k) d,fun b x _ K=>K (.exit 0) (zN b yEt (((),(),(x.1,()),(),()),((jG x.2.1 ()),(x.2.2.1.1,x.2.2.1.2.1,x.2.2.1.2.2,()),(x.2.2.2.1.1,x.2.2.2.1.2.1,x.2.2.2.1.2.2,()),x.2.2.2.2.1,x.2.2.2.2.2.1,x.2.2.2.2.2.2.1,x.2.2.2.2.2.2.2.1,x.2.2.2.2.2.2.2.2,())))⟩
def yIe:zE:=⟨[sP 1 0,sP 2 1,sP 4 2,sI 34,sI 35],[oB rA,oB jX,oB yOy,oA qS,.mat,oA .i,.mat,oA .i,.mat],[(4,some 6,(.sl .i),true)]⟩
def yLl:zE:=sp [sP 2 0,sP 4 1] [oB jX,oB vAm,oA qS,.mat,oA .i,.mat,oA .i,.mat]
def yW8 (f:qQg)(d:yIe.den):=f d.1.2.2.2.1.1 d.1.2.2.2.2.1.1 (yR d.2.1) (d.2.2.1.1,d.2.2.1.2.1,d.2.2.1.2.2.1) (d.2.2.2.1.1,d.2.2.2.1.2.1,d.2.2.2.1.2.2.1) d.2.2.2.2.1 d.2.2.2.2.2.1 d.2.2.2.2.2.2.1 d.2.2.2.2.2.2.2.1 d.2.2.2.2.2.2.2.2.1 d.2.2.2.2.2.2.2.2.2.1
def Ri:zT:=⟨[yIe],[(.exit 2,yLl)],yAl,fun k d=>yW8 (qPy k k) d,fun b x _ K=>K (.exit 2) (zN b yLl (((),(),()),((x.1.1,x.1.2.1,x.1.2.2,()),(x.2.1.1,x.2.1.2.1,x.2.1.2.2,()),x.2.2.1,x.2.2.2.1,x.2.2.2.2.1,x.2.2.2.2.2.1,x.2.2.2.2.2.2.1,x.2.2.2.2.2.2.2,())))⟩
def qZf:zW:=⟨[43,44],[(4,Rh),(9,Ri)],[],true⟩
theorem vQb:zS prog 1000 0 48 (zQ (zR f36) 0) Rh:=lp (A:=qZf) Rh (fun d=>(d.1.2.2.1.1,(yR d.2.1),(d.2.2.1.1,d.2.2.1.2.1,d.2.2.1.2.2.1),(d.2.2.2.1.1,d.2.2.2.1.2.1,d.2.2.2.1.2.2.1),d.2.2.2.2.1,d.2.2.2.2.2.1,d.2.2.2.2.2.2.1,d.2.2.2.2.2.2.2.1,d.2.2.2.2.2.2.2.2.1)) yQ1 qLm vF8 (e2 Mz CL) zF
theorem aao:zS prog 1000 0 48 (zQ (zR f36) 1) Ri:=lp (A:=qZf) Ri (fun d=>((d.2.1.1,d.2.1.2.1,d.2.1.2.2.1),(d.2.2.1.1,d.2.2.1.2.1,d.2.2.1.2.2.1),d.2.2.2.1,d.2.2.2.2.1,d.2.2.2.2.2.1,d.2.2.2.2.2.2.1,d.2.2.2.2.2.2.2.1,d.2.2.2.2.2.2.2.2.1)) yW8 qPy yFa (e2 Mz CL) zF
def aap:=zI 36 [.agg kp] (.agg qKw) (fun k d=>ru k (yR d)) (fun x=>(vT x ())) (fun d=>(qQ d))
theorem vGp:zD prog aap:=fA f36 qZf (e2 Mz CL) (nk (n:=2) (by kernel_rfl) fun i hi=>match i,hi with|0,_=>⟨Rh,by kernel_rfl,vQb⟩|1,_=>⟨Ri,by kernel_rfl,aao⟩|i+2,hi=>absurd hi (by omega))
def aaq:=zI 76 [.c .bool] (.c .i) (fun k d=>OK k d.1) (fun x=>(x,())) (fun d=>d.1)
theorem qQa:zD prog aaq:=fA f76 n0 e0 zF
def yR7:zE:=sp [sO 3 0,sI 5,sI 6,(11,.c (.dat false .i)),sI 12,sI 13] [oA (.int .u8)]
def yT1:zE:=sp [sO 3 0,(11,.c (.dat false .i)),sI 12,sI 13] [oA (.int .u8)]
def yHv (f:qQo)(d:yR7.den):=f d.1.2.1.1 d.1.2.2.1.1 d.1.2.2.2.1.1 d.1.2.2.2.2.1.1 d.1.2.2.2.2.2.1.1 d.2.1
def qKa:zT:=⟨[yR7],[(.exit 2,yT1)],qQf,fun k d=>yHv (xw k k) d,fun b x _ K=>K (.exit 2) (zN b yT1 (((),(x.1,()),(x.2.1,()),(x.2.2.1,()),()),(x.2.2.2,())))⟩
def yPt:zE:=sp [sO 3 0] [oA (.int .u8)]
def yJy (f:yCc)(d:yT1.den):=f d.1.2.1.1 d.1.2.2.1.1 d.1.2.2.2.1.1 d.2.1
def qQd:zT:=⟨[yT1],[(.exit 0,yPt)],AC,fun k d=>yJy (Bv k k) d,fun b x _ K=>K (.exit 0) (zN b yPt (((),()),(x,())))⟩
def qVo:zW:=⟨[],[(6,qKa),(3,qQd)],[],true⟩
theorem vRq:zS prog 1000 0 31 (zQ (zQ (zR f101) 0) 0) qKa:=lp (A:=qVo) qKa (fun d=>(d.1.2.1.1,d.1.2.2.1.1,d.1.2.2.2.1.1,d.2.1)) yHv xw OG e0 zF
theorem aar:zS prog 1000 0 31 (zQ (zR f101) 0) qQd:=lp (A:=qVo) qQd (fun d=>d.2.1) yJy Bv Ez e0 (loops1 vRq)
def aas:=zI 101 [.c (.dat false .i)] (.c (.own (.int .u8))) (fun k d=>xx k d.1) (fun x=>(x,())) (fun d=>d.1)
theorem Rj:zD prog aas:=fA f101 qVo e0 (loops1 aar)
def aat:=zI 128 [.c (.dat false .i)] (.c (.own (.int .u8))) (fun k d=>OH k d.1) (fun x=>(x,())) (fun d=>d.1)
theorem yWi:zD prog aat:=fA f128 n0 (e1 Rj) zF
def yPz:zE:=⟨[sO 3 0,(6,.c (.dat false (.sl .i))),sI 7,sI 8],[oA (.int .u8)],[(3,none,(.int .u8),false)]⟩
def vC2 (f:qK1)(d:yPz.den):=f d.1.2.1.1 d.1.2.2.1.1 d.1.2.2.2.1.1 d.2.1
def yB7:zT:=⟨[yPz],[(.exit 0,yPt)],AC,fun k d=>vC2 (EB k k) d,fun b x _ K=>K (.exit 0) (zN b yPt (((),()),(x,())))⟩
def yWa:zW:=⟨[],[(3,yB7)],[],true⟩
theorem aau:zS prog 1000 0 18 (zQ (zR f77) 0) yB7:=lp (A:=yWa) yB7 (fun d=>d.2.1) vC2 EB EC (e1 yWi) zF
def vI2:=zI 77 [.c (.dat false (.sl .i))] (.c (.own (.int .u8))) (fun k d=>JU k d.1) (fun x=>(x,())) (fun d=>d.1)
theorem qPz:zD prog vI2:=fA f77 yWa (e1 yWi) (loops1 aau)
def yTf:zE:=sp [sP 1 0,sP 3 1,sO 4 2,(39,.c (.dat true qS)),sI 40,sI 41] [oB jg,oB wL,oA (.sl .i)]
def yY0:zE:=sp [sP 1 0,sP 3 1,sO 4 2] [oB jg,oB wL,oA (.sl .i)]
def yZe (f:qZj)(d:yTf.den):=f d.1.2.2.2.1.1 d.1.2.2.2.2.1.1 d.1.2.2.2.2.2.1.1 (qQ d.2.1) (wS d.2.2.1) d.2.2.2.1
def Rk:zT:=⟨[yTf],[(.exit 0,yY0)],qYk,fun k d=>yZe (Bw k k) d,fun b x _ K=>K (.exit 0) (zN b yY0 (((),(),(),()),((vT x.1 ()),(fq x.2.1 ()),x.2.2,())))⟩
def vGc:zE:=sp [sP 1 0,sO 4 1,(79,.c (.dat true zG)),sI 80,sI 81] [oB jg,oA (.sl .i)]
def ySw:zE:=sp [sP 1 0,sO 4 1] [oB jg,oA (.sl .i)]
def yMh (f:qKi)(d:vGc.den):=f d.1.2.2.1.1 d.1.2.2.2.1.1 d.1.2.2.2.2.1.1 (qQ d.2.1) d.2.2.1
def Rl:zT:=⟨[vGc],[(.exit 2,ySw)],qUh,fun k d=>yMh (Bx k k) d,fun b x _ K=>K (.exit 2) (zN b ySw (((),(),()),((vT x.1 ()),x.2,())))⟩
def qMp:zW:=⟨[],[(4,Rk),(14,Rl)],[],true⟩
theorem vTw:zS prog 1000 0 110 (zQ (zR f35) 0) Rk:=lp (A:=qMp) Rk (fun d=>((qQ d.2.1),(wS d.2.2.1),d.2.2.2.1)) yZe Bw ED (e2 qQa qPz) zF
theorem aav:zS prog 1000 0 110 (zQ (zR f35) 1) Rl:=lp (A:=qMp) Rl (fun d=>((qQ d.2.1),d.2.2.1)) yMh Bx EE (e2 qQa qPz) zF
def vXk:=zI 35 [.agg yx] (.c (.own (.int .u8))) (fun k d=>mr k (qQ d)) (fun x=>(x,())) (fun d=>d.1)
theorem CM:zD prog vXk:=fA f35 qMp (e2 qQa qPz) (nk (n:=2) (by kernel_rfl) fun i hi=>match i,hi with|0,_=>⟨Rk,by kernel_rfl,vTw⟩|1,_=>⟨Rl,by kernel_rfl,aav⟩|i+2,hi=>absurd hi (by omega))
def aaw:=zI 124 [.c (.dat false (.int .u8))] (.tup [(false,[.own (.int .u8)]),(false,[.bool])]) (fun k d=>JS k d.1) (fun x=>(x.1,x.2,())) (fun d=>(d.1,d.2.1))
theorem yX2:zD prog aaw:=fA f124 n0 e0 zF
def aax:=zI 125 [.ptr My] (.c .i) (fun k d=>ZQ k (fU d)) (fun x=>(x,())) (fun d=>d.1)
theorem vSz:zD prog aax:=fA f125 n0 e0 zF
def vR2:=zI 68 [.ptr My] (.c .bool) (fun k d=>Rm k (fU d)) (fun x=>(x,())) (fun d=>d.1)
theorem yAk:zD prog vR2:=fA f68 n0 e0 zF
def aay:=yH 70 [.ptr true lN] (.c .bool) [jh] 0 (fun k d=>lg k (fU d)) (fun x=>(x.1,(iH x.2 ()))) (fun d=>(d.1,(H5 d)))
theorem qNa:zD prog aay:=fX f70 ⟨[],[],[(6,3)],true⟩ 1 e0 (Jl (n:=1) (by kernel_rfl) fun i hi=>match i,hi with|0,_=>.inr ⟨by kernel_rfl,zF⟩|i+1,hi=>absurd hi (by omega))
def vM9:=yH 126 [.ptr true lN,.c (.p .i)] (.c .i) [jh] 0 (fun k d=>QV k (fU d) d.2.2.2.2.2.2.2.2.2.2.1) (fun x=>(x.1,(iH x.2 ()))) (fun d=>(d.1,(H5 d)))
theorem aaz:zD prog vM9:=fX f126 n0 1 (e3 yAk F8q qNa) zF
def vP9:=yH 30 [.ptr true lN,.c (.p .i),.c (.p (.dat false (.int .u8)))] (.c .i) [jh] 0 (fun k d=>yn k (fU d) d.2.2.2.2.2.2.2.2.2.2.1 d.2.2.2.2.2.2.2.2.2.2.2.1) (fun x=>(x.1,(iH x.2 ()))) (fun d=>(d.1,(H5 d)))
theorem vBz:zD prog vP9:=fX f30 n0 1 (e3 yAk F8q qNa) zF
def vXj:=yH 127 [.ptr true lN] (.c .i) [jh] 0 (fun k d=>vj k (fU d)) (fun x=>(x.1,(iH x.2 ()))) (fun d=>(d.1,(H5 d)))
theorem yEy:zD prog vXj:=fX f127 ⟨[],[],[(4,3)],true⟩ 1 (e2 yAk qNa) (Jl (n:=1) (by kernel_rfl) fun i hi=>match i,hi with|0,_=>.inr ⟨by kernel_rfl,zF⟩|i+1,hi=>absurd hi (by omega))
def vWw:=yH 75 [.ptr true lN,.c (.p .i),.c (.p .i),.c (.p (.dat false (.int .u8)))] (.c .i) [jh] 0 (fun k d=>Ma k (fU d) d.2.2.2.2.2.2.2.2.2.2.1 d.2.2.2.2.2.2.2.2.2.2.2.1 d.2.2.2.2.2.2.2.2.2.2.2.2.1) (fun x=>(x.1,(iH x.2 ()))) (fun d=>(d.1,(H5 d)))
theorem yJ3:zD prog vWw:=fX f75 n0 1 (e6 Rj yX2 vSz aaz vBz yEy) zF
def vO5:=V8 34 [.ptr true lN,.c (.p (.dat false (.int .u8)))] (.tup [(false,[.link 1]),(false,[.fro (.int .u8)]),(false,[.fro (.sl (.int .u8))]),(false,yW)]) [jh,[.link 0,.i,.i,.i,.bool]] 1 (.tup [(false,[.nilp]),(false,[.own (.int .u8)]),(false,[.own (.sl (.int .u8))]),(false,yW)]) [jh] 0 (fun k d=>QW k (fU d) d.2.2.2.2.2.2.2.2.2.2.1) (fun x=>((),x.1,x.2.1,x.2.2.1,(iH x.2.2.2.1 ((),(fq x.2.2.2.2 ()))))) (fun x=>((),x.1,x.2.1,x.2.2.1,(iH x.2.2.2 ()))) (fun d=>(d.2.1,d.2.2.1,d.2.2.2.1,(yW3 d),(aaA d))) (fun d=>(d.2.1,d.2.2.1,d.2.2.2.1,(yW3 d)))
theorem yNo:zD prog vO5:=fN f34 n0 1 (e2 qYw yJ3) zF
def vPq:=zI 130 [.c (.dat true (.int .u8))] (.tup [(false,[.own .i]),(false,[.fro (.int .u8)]),(false,[.bool])]) (fun k d=>OM k d.1) (fun x=>(x.1,x.2.1,x.2.2,())) (fun d=>(d.1,d.2.1,d.2.2.1))
theorem vQd:zD prog vPq:=fA f130 n0 (e1 Re) zF
def aaB:=yH 82 [.ptr true H6] (.c (.own .i)) [[.fro (.int .u8),.bool]] 0 (fun k d=>yp k (d.1,d.2.1)) (fun x=>(x.1,x.2.1,x.2.2,())) (fun d=>(d.1,(d.2.1,d.2.2.1)))
theorem H7:zD prog aaB:=fX f82 n0 1 (e1 vQd) zF
def vIo:=yH 80 [.ptr true H6,.c (.p .i)] (.c (.own .i)) [[.fro (.int .u8),.bool]] 0 (fun k d=>HH k (d.1,d.2.1) d.2.2.1) (fun x=>(x.1,x.2.1,x.2.2,())) (fun d=>(d.1,(d.2.1,d.2.2.1)))
theorem qYv:zD prog vIo:=fX f80 n0 1 (e1 H7) zF
def yDy:zE:=⟨[sP 0 0,sI 1,sO 5 1],[oB pK,oA (.sl .i)],[(5,none,(.sl .i),false)]⟩
def yIh:zE:=sp [sP 0 0,sO 5 1] [oB pK,oA (.sl .i)]
def yZa (f:yCl)(d:yDy.den):=f d.1.2.1.1 (d.2.1.1,d.2.1.2.1) d.2.2.1
def qUd:zT:=⟨[yDy],[(.exit 0,yIh)],qRf,fun k d=>yZa (Mj k k) d,fun b x _ K=>K (.exit 0) (zN b yIh (((),(),()),((x.1.1,x.1.2,()),x.2,())))⟩
def vA9:zW:=⟨[],[(2,qUd)],[],true⟩
theorem vKm:zS prog 1000 1 23 (zQ (zR f81) 0) qUd:=lp (A:=vA9) qUd (fun d=>((d.2.1.1,d.2.1.2.1),d.2.2.1)) yZa Mj QX (e1 H7) zF
def vPa:=yH 81 [.ptr true H6,.c (.p .i)] (.c (.own (.sl .i))) [[.fro (.int .u8),.bool]] 0 (fun k d=>HI k (d.1,d.2.1) d.2.2.1) (fun x=>(x.1,x.2.1,x.2.2,())) (fun d=>(d.1,(d.2.1,d.2.2.1)))
theorem qLx:zD prog vPa:=fX f81 vA9 1 (e1 H7) (loops1 vKm)
def aaC:=zI 83 [.c (.dat false (.int .u8)),.c (.dat false (.int .u8))] (.c .bool) (fun k d=>ZY k d.1 d.2.1) (fun x=>(x,())) (fun d=>d.1)
theorem qRq:zD prog aaC:=fA f83 n0 e0 zF
def yPx:zE:=⟨[(0,.c (.dat true (.int .u8))),sP 2 0,sP 4 1,sO 5 2,sP 6 3,sI 7],[oB jX,oB pK,oA .i,oB Rn,oA qS],[(6,some 1,qS,false)]⟩
def yMx:zE:=sp [(0,.c (.dat true (.int .u8))),sP 2 0,sP 4 1,sO 5 2,sP 6 3] [oB jX,oB pK,oA .i,oB Rn,oA qS]
def yQq (f:qXp)(d:yPx.den):=f d.1.1.1 d.1.2.2.2.2.2.1.1 (d.2.1.1,d.2.1.2.1,d.2.1.2.2.1) (d.2.2.1.1,d.2.2.1.2.1) d.2.2.2.1 (d.2.2.2.2.1.1,d.2.2.2.2.1.2.1,d.2.2.2.2.1.2.2.1) d.2.2.2.2.2.1
def Ro:zT:=⟨[yPx],[(.exit 0,yMx)],qXr,fun k d=>yQq (HJ k k) d,fun b x _ K=>K (.exit 0) (zN b yMx (((x.1,()),(),(),(),(),()),((x.2.1.1,x.2.1.2.1,x.2.1.2.2,()),(x.2.2.1.1,x.2.2.1.2,()),x.2.2.2.1,(x.2.2.2.2.1.1,x.2.2.2.2.1.2.1,x.2.2.2.2.1.2.2,()),x.2.2.2.2.2,())))⟩
def yOz:zE:=⟨[(0,.c (.dat true (.int .u8))),sP 2 0,sP 4 1,sP 6 2,sI 9],[oB jX,oB pK,oB qSq,oA qS,oA (.sl .i),oA .i,oA (.sl .i),oA .i,oA (.sl .i),oA zG],[(6,some 7,zG,false)]⟩
def yD7:zE:=sp [(0,.c (.dat true (.int .u8))),sP 2 0,sP 4 1,sP 6 2] [oB jX,oB pK,oB qSq,oA qS,oA (.sl .i),oA .i,oA (.sl .i),oA .i,oA (.sl .i),oA zG]
def yRp (f:qZv)(d:yOz.den):=f d.1.1.1 d.1.2.2.2.2.1.1 (d.2.1.1,d.2.1.2.1,d.2.1.2.2.1) (d.2.2.1.1,d.2.2.1.2.1) (d.2.2.2.1.1,d.2.2.2.1.2.1,d.2.2.2.1.2.2.1) d.2.2.2.2.1 d.2.2.2.2.2.1 d.2.2.2.2.2.2.1 d.2.2.2.2.2.2.2.1 d.2.2.2.2.2.2.2.2.1 d.2.2.2.2.2.2.2.2.2.1 d.2.2.2.2.2.2.2.2.2.2.1
def Rp:zT:=⟨[yOz],[(.exit 2,yD7)],qJd,fun k d=>yRp (HK k k) d,fun b x _ K=>K (.exit 2) (zN b yD7 (((x.1,()),(),(),(),()),((x.2.1.1,x.2.1.2.1,x.2.1.2.2,()),(x.2.2.1.1,x.2.2.1.2,()),(x.2.2.2.1.1,x.2.2.2.1.2.1,x.2.2.2.1.2.2,()),x.2.2.2.2.1,x.2.2.2.2.2.1,x.2.2.2.2.2.2.1,x.2.2.2.2.2.2.2.1,x.2.2.2.2.2.2.2.2.1,x.2.2.2.2.2.2.2.2.2.1,x.2.2.2.2.2.2.2.2.2.2,())))⟩
def qKb:zW:=⟨[],[(5,Ro),(15,Rp)],[],true⟩
theorem aaD:zS prog 1000 0 146 (zQ (zR f37) 0) Ro:=lp (A:=qKb) Ro (fun d=>(d.1.1.1,(d.2.1.1,d.2.1.2.1,d.2.1.2.2.1),(d.2.2.1.1,d.2.2.1.2.1),d.2.2.2.1,(d.2.2.2.2.1.1,d.2.2.2.2.1.2.1,d.2.2.2.2.1.2.2.1),d.2.2.2.2.2.1)) yQq HJ QY (e5 qYv qLx H7 CM qRq) zF
theorem aaE:zS prog 1000 0 146 (zQ (zR f37) 1) Rp:=lp (A:=qKb) Rp (fun d=>(d.1.1.1,(d.2.1.1,d.2.1.2.1,d.2.1.2.2.1),(d.2.2.1.1,d.2.2.1.2.1),(d.2.2.2.1.1,d.2.2.2.1.2.1,d.2.2.2.1.2.2.1),d.2.2.2.2.1,d.2.2.2.2.2.1,d.2.2.2.2.2.2.1,d.2.2.2.2.2.2.2.1,d.2.2.2.2.2.2.2.2.1,d.2.2.2.2.2.2.2.2.2.1,d.2.2.2.2.2.2.2.2.2.2.1)) yRp HK QZ (e5 qYv qLx H7 CM qRq) zF
def vTr:=zI 37 [.c (.dat true (.int .u8))] (.tup [(true,yy),(false,[.bool])]) (fun k d=>Mk k d.1) (fun x=>(vT x.1 (x.2,()))) (fun d=>((qQ d),d.2.2.2.2.2.2.2.2.2.2.2.1))
theorem yUh:zD prog vTr:=fA f37 qKb (e5 qYv qLx H7 CM qRq) (nk (n:=2) (by kernel_rfl) fun i hi=>match i,hi with|0,_=>⟨Ro,by kernel_rfl,aaD⟩|1,_=>⟨Rp,by kernel_rfl,aaE⟩|i+2,hi=>absurd hi (by omega))
def vH8:=zI 98 [.c .i] (.c .i) (fun k d=>ux k d.1) (fun x=>(x,())) (fun d=>d.1)
theorem Rq:zD prog vH8:=fA f98 n0 e0 zF
def vKc:=zI 44 [.c (.dat false (.int .u8))] (.tup [(true,pL),(false,yW)]) (fun k d=>uy k d.1) (fun x=>(gl x.1 (x.2,()))) (fun d=>((vY d),d.2.2.2.2.2.2.2.1))
theorem MA:zD prog vKc:=fA f44 n0 (e2 Re Rq) zF
def vQc:=zI 39 [.c (.dat false (.int .u8))] (.tup [(true,qRs),(false,yW)]) (fun k d=>tg k d.1) (fun x=>(CN x.1 (x.2,()))) (fun d=>((lM d),d.2.2.2.2.2.2.2.2.1))
theorem yZu:zD prog vQc:=fA f39 n0 (e2 Re MA) zF
def vKn:=zI 150 [.c .i] (.c .bool) (fun k d=>Qc k d.1) (fun x=>(x,())) (fun d=>d.1)
theorem aaF:zD prog vKn:=fA f150 n0 e0 zF
def aaG:=zI 151 [.c .i] (.c .bool) (fun k d=>Lj k d.1) (fun x=>(x,())) (fun d=>d.1)
theorem vI5:zD prog aaG:=fA f151 n0 e0 zF
def yFq:zE:=sp [(13,.c (.dat true .i)),sI 14,sI 15] []
def yRz:zE:=sp [(2,.c .bool)] []
def vA1 (f:qS1)(d:yFq.den):=f d.1.1.1 d.1.2.1.1 d.1.2.2.1.1
def qQr:zT:=⟨[yFq],[(.exit 0,yV1),(.ret,yRz)],(Unit⊕Bool),fun k d=>vA1 (mA k k) d,fun b x _ K=>match x with|.inl x=>K (.exit 0) (zN b yV1 ((),()))|.inr x=>K .ret (zN b yRz (((x,()),()),()))⟩
def vC9:zW:=⟨[],[(5,qQr)],[],true⟩
theorem vHk:zS prog 1000 0 22 (zQ (zR f152) 0) qQr:=lp (A:=vC9) qQr (fun d=>match d with|.inl d=>.inl ()|.inr d=>.inr d.1.1.1) vA1 mA lI (e1 Rq) zF
def vSm:=zI 152 [.agg vR] (.c .bool) (fun k d=>lJ k (vY d)) (fun x=>(x,())) (fun d=>d.1)
theorem vD9:zD prog vSm:=fA f152 vC9 (e1 Rq) (loops1 vHk)
def aaH:=zI 91 [.agg kp,.agg pM,.agg CO] (.c .i) (fun k d=>uV k (yR d) (rz d) (qZu d)) (fun x=>(x,())) (fun d=>d.1)
theorem vKi:zD prog aaH:=fA f91 n0 (e3 aaF vI5 vD9) zF
def vJ9:=zI 195 [.agg vR,.ptr [.i]] (.c .bool) (fun k d=>(mG (Yh k) d)) (fun x=>(x,())) (fun d=>d.1)
theorem yKm:zD prog vJ9:=fA f195 ⟨[],[],[],false⟩ e0 zF
def yVa:zE:=⟨[(1,.c (.lit (.fn 195 [1001000]))),sO 5 1,(8,.c (.dat false zG)),sI 9,sI 10],[.robox [.i],oA zG],[(5,none,zG,false)]⟩
def vEv:zE:=sp [sO 5 0] [oA zG]
def yKh (f:qMq)(d:yVa.den):=f d.1.2.2.1.1 d.1.2.2.2.1.1 d.1.2.2.2.2.1.1 d.2.1.1 d.2.2.1
def qRa:zT:=⟨[yVa],[(.exit 0,vEv)],yCb,fun k d=>yKh (K7 k k) d,fun b x _ K=>K (.exit 0) (zN b vEv (((),()),(x,())))⟩
def vA2:zW:=⟨[],[(3,qRa)],[],false⟩
theorem aaI:zS prog 1000 0 23 (zQ (zR f194) 0) qRa:=lp (A:=vA2) qRa (fun d=>d.2.1) yKh K7 Gn (e1 yKm) zF
def aaJ:=zI 194 [.c (.dat false zG),.fn 195 [[.i]]] (.c (.own zG)) (fun k d=>Yg k d.1 d.2.1) (fun x=>(x,())) (fun d=>d.1)
theorem aaK:zD prog aaJ:=fA f194 vA2 (e1 yKm) (loops1 aaI)
def aaL:=zI 153 [.c (.dat false zG),.c .i] (.c (.own zG)) (fun k d=>K6 k d.1 d.2.1) (fun x=>(x,())) (fun d=>d.1)
theorem MB:zD prog aaL:=fA f153 ⟨[],[],[],false⟩ (e1 aaK) zF
def aaM:=yH 93 [.ptr true [.p .i,.p (.nil),.p .i,.p .i,.p .i,.p .i,.p (.nil),.p (.nil),.p (.nil),.p (.nil),.p (.nil),.p (.nil),.p (.nil),.p (.nil),.p .i,.p .bool,.p .i,.p (.nil)],.c (.p .i),.c (.p (.dat false .i))] (.tup []) [[.i,.own jC,.i,.i,.i,.i,.own qS,.mat,.own .i,.mat,.own .i,.mat,.own zG,.own .i,.i,.bool,.i,.own qZ]] 0 (fun k d=>yQh k (d.1,(Rr d (d.2.2.2.2.2.2.2.2.2.2.2.2.2.2.1,d.2.2.2.2.2.2.2.2.2.2.2.2.2.2.2.1,d.2.2.2.2.2.2.2.2.2.2.2.2.2.2.2.2.1))) d.2.2.2.2.2.2.2.2.2.2.2.2.2.2.2.2.2.2.1 d.2.2.2.2.2.2.2.2.2.2.2.2.2.2.2.2.2.2.2.1) (fun x=>(jP x ())) (fun d=>(eJ d))
theorem aaN:zD prog aaM:=fX f93 n0 1 e0 zF
def aaO:=zI 92 [.agg pM,.c .i] (.c (.own qZ)) (fun k d=>Cp k (qQ d) d.2.2.2.2.2.2.2.2.2.2.2.1) (fun x=>(x,())) (fun d=>d.1)
theorem aaP:zD prog aaO:=fA f92 n0 (e2 MB aaN) zF
def vNs:=yH 93 [.ptr true yz,.c (.p .i),.c (.p (.dat false .i))] (.tup []) [lO] 0 (fun k d=>LS k (lP d) d.2.2.2.2.2.2.2.2.2.2.2.2.2.2.2.2.2.2.1 d.2.2.2.2.2.2.2.2.2.2.2.2.2.2.2.2.2.2.2.1) (fun x=>(jP x ())) (fun d=>(eJ d))
theorem vDm:zD prog vNs:=fX f93 n0 1 e0 zF
def aaQ:=zI 84 [.c .i,.c .i,.c .i] (.c .bool) (fun k d=>vN k d.1 d.2.1 d.2.2.1) (fun x=>(x,())) (fun d=>d.1)
theorem iI:zD prog aaQ:=fA f84 n0 e0 zF
def vV8:=zI 269 [.agg kp,.c .i] (.c .bool) (fun k d=>Lf k (yR d) d.2.2.2.2.2.1) (fun x=>(x,())) (fun d=>d.1)
theorem vH7:zD prog vV8:=fA f269 n0 e0 zF
def aaR:=zI 237 [.agg kp,.c .i,.agg vR] (.c .bool) (fun k d=>P8 k (yR d) d.2.2.2.2.2.1 (qV7 d)) (fun x=>(x,())) (fun d=>d.1)
theorem aaS:zD prog aaR:=fA f237 n0 (e1 vH7) zF
def aaT:=zI 201 [.agg kp,.c .i,.c .i] (.c .i) (fun k d=>B3 k (yR d) d.2.2.2.2.2.1 d.2.2.2.2.2.2.1) (fun x=>(x,())) (fun d=>d.1)
theorem qQ5:zD prog aaT:=fA f201 n0 e0 zF
def vYo:=zI 196 [.agg kp,.c .i,.agg vR] (.c .i) (fun k d=>GH k (yR d) d.2.2.2.2.2.1 (qV7 d)) (fun x=>(x,())) (fun d=>d.1)
theorem yGe:zD prog vYo:=fA f196 n0 (e2 aaS qQ5) zF
def vLo:=zI 267 [.c .i] (.c .bool) (fun k d=>PG k d.1) (fun x=>(x,())) (fun d=>d.1)
theorem vJi:zD prog vLo:=fA f267 n0 e0 zF
def vK5:=zI 233 [.c .i,.c .i] (.c .bool) (fun k d=>PF k d.1 d.2.1) (fun x=>(x,())) (fun d=>d.1)
theorem yQd:zD prog vK5:=fA f233 n0 (e1 vJi) zF
def vWf:=zI 234 [.c .i] (.c .bool) (fun k d=>PI k d.1) (fun x=>(x,())) (fun d=>d.1)
theorem yIn:zD prog vWf:=fA f234 n0 e0 zF
def yJ8:zE:=sp [(0,.c (.dat false .i)),sI 1,sI 6,sI 7,sI 8] []
def vEn:zE:=sp [(0,.c (.dat false .i)),sI 1,sI 6,sI 7] []
def yLn (f:qYx)(d:yJ8.den):=f d.1.1.1 d.1.2.1.1 d.1.2.2.1.1 d.1.2.2.2.1.1 d.1.2.2.2.2.1.1
def qMj:zT:=⟨[yJ8],[(.exit 0,vEn)],qRu,fun k d=>yLn (KT k k) d,fun b x _ K=>K (.exit 0) (zN b vEn (((x.1,()),(x.2.1,()),(x.2.2.1,()),(x.2.2.2,()),()),()))⟩
def vB0:zW:=⟨[],[(3,qMj)],[],true⟩
theorem vNy:zS prog 1000 0 54 (zQ (zR f191) 0) qMj:=lp (A:=vB0) qMj (fun d=>(d.1.1.1,d.1.2.1.1,d.1.2.2.1.1,d.1.2.2.2.1.1)) yLn KT PH (e2 yQd yIn) zF
def vI4:=zI 191 [.c (.dat false .i),.c .i] (.tup [(false,yW),(false,[.bool])]) (fun k d=>FY k d.1 d.2.1) (fun x=>(x.1,x.2,())) (fun d=>(d.1,d.2.1))
theorem yWm:zD prog vI4:=fA f191 vB0 (e2 yQd yIn) (loops1 vNy)
def vZ5:=xp 239 false .i (.own .i) qt
theorem MC:zD prog vZ5:=fC f239 ⟨[],[],[],false⟩ e0 zF
theorem aaU (A X:Option Addr)(n c vc:Nat)(w w':World)(rv:Value)(hr:(Builtin.append_ #[36,36] 36 #[.slice A n c,.slice X 1 vc]).run prog w=.ok rv w'):
    Calls prog 238 #[.slice A n c,.int .i64 n,.slice X 1 vc] w fun e pn=>e=.returned rv∧pn=w':=by
  have t0:prog.underlying 36=some (.slice 2):=by kernel_rfl
  have t3:prog.underlying 3=some (.int .i64):=by kernel_rfl
  have z0:∀w,(Go.sizeOf 2).run prog w=.ok 1 w:=fun w=>by kernel_rfl
  have u0:=run_underlying t0;have u3:=run_underlying t3
  go_enter Proofs.Tryz.func238,Proofs.Tryz.ntmps238
  go_wp2_with (at_builtin;refine Lib.wpList_append_run _ rfl _ _ _ _ rfl _ _ rfl rfl _ _ hr ?_)
  all_goals (go_ret;exact⟨rfl,rfl⟩)
theorem vO7:Oq prog 238 36 3 1 where
  ends:=aaU
  grow B off n c i X vo vc N G w w1 w2 w3 hi hnc aP Lk hG hz hA hB:=by
    simp only[Nat.mul_one] at hA hB;have t0:prog.underlying 36=some (.slice 2):=by kernel_rfl
    have t3:prog.underlying 3=some (.int .i64):=by kernel_rfl
    have z0:∀w,(Go.sizeOf 2).run prog w=.ok 1 w:=fun w=>by kernel_rfl
    have u0:=run_underlying t0;have u3:=run_underlying t3;have mixed:prog.follows .mixedOrders=true:=ij;have hz2:¬((i:Int)=(n:Int)):=by omega
    have sE:IntKind.i64.wrap ((i:Int)+1)=(i:Int)+1:=by rw[IntKind.wrap_i64];omega
    have fJ:(0:Int)≤(i:Int)+1:=by omega
    have fK:i≤n:=by omega
    have g9:((i:Int)+1).toNat=i+1:=by omega
    have hci:¬(c=i):=by omega
    have hz3:(c:Int)<(n:Int)+1:=by omega
    have hb3:(i:Int)≤(n:Int):=by omega
    have hGi:¬(G=i):=by omega
    have aaV:¬(G=i+1):=by omega
    go_enter Proofs.Tryz.func238,Proofs.Tryz.ntmps238
    go_wp2_with (first
      |(at_builtin;refine Lib.wpList_append_run _ rfl _ _ _ _ rfl _ _ rfl rfl _ _ hz ?_)
      |(at_builtin;refine Ow _ rfl _ _ 36 36 rfl _ _ rfl rfl (hA _) ?_))
    go_region_law_o (refine Ox rfl _ _ 36 36 rfl (.slice (some ⟨N,(i+1),none⟩) (n+1-(i+1)) (G-(i+1))) (.slice (some ⟨B,off+i,none⟩) (n-i) (c-i)) (by simp[Act.eval,Act.put]) (by simp[Act.eval,Act.put]) (hB (G-(i+1)) (c-i)) ?_)
    go_wp2
    go_ret
    exact⟨rfl,rfl⟩
  shift B off n c i X vo vc w w1 w2 hi aP Lk sw hA hB:=by
    simp only[Nat.mul_one] at hA hB;have t0:prog.underlying 36=some (.slice 2):=by kernel_rfl
    have t3:prog.underlying 3=some (.int .i64):=by kernel_rfl
    have z0:∀w,(Go.sizeOf 2).run prog w=.ok 1 w:=fun w=>by kernel_rfl
    have u0:=run_underlying t0;have u3:=run_underlying t3;have mixed:prog.follows .mixedOrders=true:=ij;have hz2:¬((i:Int)=(n:Int)):=by omega
    have sE:IntKind.i64.wrap ((i:Int)+1)=(i:Int)+1:=by rw[IntKind.wrap_i64];omega
    have fJ:(0:Int)≤(i:Int)+1:=by omega
    have fK:i≤n:=by omega
    have g9:((i:Int)+1).toNat=i+1:=by omega
    have hci:¬(c=i):=by omega
    have vi:=fun lb cb=>yPs (P:=prog) (fo:=270) (tb:=4) (e:=2) (size:=1) Proofs.Tryz.func270 (by kernel_rfl) (by kernel_rfl) (by kernel_rfl) (by kernel_rfl) t0 z0 sw vo (off+(i+1)) vc lb cb
    have hb2:¬(c=i+1):=by omega
    have hb3:(i:Int)≤(n:Int)+1:=by omega
    go_enter Proofs.Tryz.func238,Proofs.Tryz.ntmps238
    go_wp2_with (simp only[vi])
    go_region_law_o (refine Ox rfl _ _ 36 36 rfl (.slice (some ⟨B,off+(i+1),none⟩) (n-i) (c-(i+1))) (.slice (some ⟨B,off+i,none⟩) (n+1-i) (c-i)) (by simp[Act.eval,Act.put]) (by simp[Act.eval,Act.put]) (hA _ _) ?_)
    go_wp2_with (at_builtin;refine Ow _ rfl _ _ 36 36 rfl _ _ rfl rfl (hB _) ?_)
    go_ret
    exact⟨rfl,rfl⟩
def vQh:Nat×nZ:=(238,Wa .i 8)
theorem aaW:zD prog vQh:=yZ2 (e:=2) (fn:=f238) vO7
def vTv:=zI 197 [.c (.dat true .i),.c .i] (.tup [(false,[.fro .i]),(false,yW)]) (fun k d=>FZ k d.1 d.2.1) (fun x=>(x.1,x.2,())) (fun d=>(d.1,d.2.1))
theorem yRl:zD prog vTv:=fA f197 n0 (e3 yWm MC aaW) zF
def vYm:=zI 167 [.agg vR,.ptr [.i]] (.c .bool) (fun k d=>(mG (XF k) d)) (fun x=>(x,())) (fun d=>d.1)
theorem yT6:zD prog vYm:=fA f167 ⟨[],[],[],false⟩ e0 zF
def yPy:zE:=sp [(0,.c (.dat false zG)),(1,.c (.lit (.fn 167 [1001000]))),sI 7,sI 8] [.robox [.i]]
def yTm (f:qM1)(d:yPy.den):=f d.1.1.1 d.1.2.2.1.1 d.1.2.2.2.1.1 d.2.1.1
def qMi:zT:=⟨[yPy],[(.exit 0,yV1),(.ret,vC4)],(Unit⊕Int),fun k d=>yTm (FN k k) d,fun b x _ K=>match x with|.inl x=>K (.exit 0) (zN b yV1 ((),()))|.inr x=>K .ret (zN b vC4 (((x,()),()),()))⟩
def yOa:zW:=⟨[],[(2,qMi)],[],false⟩
theorem vLh:zS prog 1000 0 19 (zQ (zR f166) 0) qMi:=lp (A:=yOa) qMi (fun d=>match d with|.inl d=>.inl ()|.inr d=>.inr d.1.1.1) yTm FN FO (e1 yT6) zF
def aaX:=zI 166 [.c (.dat false zG),.fn 167 [[.i]]] (.c .i) (fun k d=>XG k d.1 d.2.1) (fun x=>(x,())) (fun d=>d.1)
theorem aaY:zD prog aaX:=fA f166 yOa (e1 yT6) (loops1 vLh)
def vMb:=zI 97 [.c (.dat false zG),.c .i] (.c .i) (fun k d=>oz k d.1 d.2.1) (fun x=>(x,())) (fun d=>d.1)
theorem za:zD prog vMb:=fA f97 ⟨[],[],[],false⟩ (e1 aaY) zF
def vVo:=zI 268 [.c .i] (.c .bool) (fun k d=>PD k d.1) (fun x=>(x,())) (fun d=>d.1)
theorem vM6:zD prog vVo:=fA f268 ⟨[],[],[],false⟩ e0 zF
def vQ1:=zI 236 [.c .i,.c .i] (.c .i) (fun k d=>KM k d.1 d.2.1) (fun x=>(x,())) (fun d=>d.1)
theorem vSe:zD prog vQ1:=fA f236 ⟨[],[],[],false⟩ (e1 vM6) zF
def yRv:zE:=sp [sI 3,(6,.c (.dat false .i)),sI 7,sI 8] []
def yD6:zE:=sp [sI 3] []
def yZ5:zE:=sp [sI 2] []
def yMu (f:qJt)(d:yRv.den):=f d.1.1.1 d.1.2.1.1 d.1.2.2.1.1 d.1.2.2.2.1.1
def qRl:zT:=⟨[yRv],[(.exit 0,yD6),(.ret,yZ5)],(Int⊕Int),fun k d=>yMu (KL k k) d,fun b x _ K=>match x with|.inl x=>K (.exit 0) (zN b yD6 (((x,()),()),()))|.inr x=>K .ret (zN b yZ5 (((x,()),()),()))⟩
def yV8:zW:=⟨[],[(3,qRl)],[],false⟩
theorem vT0:zS prog 1000 0 18 (zQ (zR f235) 0) qRl:=lp (A:=yV8) qRl (fun d=>match d with|.inl d=>.inl d.1.1.1|.inr d=>.inr d.1.1.1) yMu KL yFp e0 zF
def vKu:=zI 235 [.c (.dat false .i)] (.c .i) (fun k d=>PB k d.1) (fun x=>(x,())) (fun d=>d.1)
theorem vS0:zD prog vKu:=fA f235 yV8 e0 (loops1 vT0)
def vNn:=zI 193 [.agg vR,.agg vR] (.c .i) (fun k d=>(H8 (FP k) d)) (fun x=>(x,())) (fun d=>d.1)
theorem H9:zD prog vNn:=fA f193 ⟨[],[],[],false⟩ (e2 vSe vS0) zF
def aaZ:=xp 241 false zG (.own zG) xG
theorem Rs:zD prog aaZ:=fC f241 ⟨[],[],[],false⟩ e0 zF
theorem aa0 (A X:Option Addr)(n c vc:Nat)(w w':World)(rv:Value)(hr:(Builtin.append_ #[39,39] 39 #[.slice A n c,.slice X 1 vc]).run prog w=.ok rv w'):
    Calls prog 240 #[.slice A n c,.int .i64 n,.slice X 1 vc] w fun e pn=>e=.returned rv∧pn=w':=by
  have t0:prog.underlying 39=some (.slice 142):=by kernel_rfl
  have t3:prog.underlying 3=some (.int .i64):=by kernel_rfl
  have z0:∀w,(Go.sizeOf 142).run prog w=.ok 7 w:=fun w=>by kernel_rfl
  have u0:=run_underlying t0;have u3:=run_underlying t3
  go_enter Proofs.Tryz.func240,Proofs.Tryz.ntmps240
  go_wp2_with (at_builtin;refine Lib.wpList_append_run _ rfl _ _ _ _ rfl _ _ rfl rfl _ _ hr ?_)
  all_goals (go_ret;exact⟨rfl,rfl⟩)
theorem vQe:Oq prog 240 39 3 7 where
  ends:=aa0
  grow B off n c i X vo vc N G w w1 w2 w3 hi hnc aP Lk hG hz hA hB:=by
    have t0:prog.underlying 39=some (.slice 142):=by kernel_rfl
    have t3:prog.underlying 3=some (.int .i64):=by kernel_rfl
    have z0:∀w,(Go.sizeOf 142).run prog w=.ok 7 w:=fun w=>by kernel_rfl
    have u0:=run_underlying t0;have u3:=run_underlying t3;have mixed:prog.follows .mixedOrders=true:=ij;have hz2:¬((i:Int)=(n:Int)):=by omega
    have sE:IntKind.i64.wrap ((i:Int)+1)=(i:Int)+1:=by rw[IntKind.wrap_i64];omega
    have fJ:(0:Int)≤(i:Int)+1:=by omega
    have fK:i≤n:=by omega
    have g9:((i:Int)+1).toNat=i+1:=by omega
    have hci:¬(c=i):=by omega
    have hz3:(c:Int)<(n:Int)+1:=by omega
    have hb3:(i:Int)≤(n:Int):=by omega
    have hGi:¬(G=i):=by omega
    have aaV:¬(G=i+1):=by omega
    go_enter Proofs.Tryz.func240,Proofs.Tryz.ntmps240
    go_wp2_with (first
      |(at_builtin;refine Lib.wpList_append_run _ rfl _ _ _ _ rfl _ _ rfl rfl _ _ hz ?_)
      |(at_builtin;refine Ow _ rfl _ _ 39 39 rfl _ _ rfl rfl (hA _) ?_))
    go_region_law_o (refine Ox rfl _ _ 39 39 rfl (.slice (some ⟨N,(i+1)*7,none⟩) (n+1-(i+1)) (G-(i+1))) (.slice (some ⟨B,off+i*7,none⟩) (n-i) (c-i)) (by simp[Act.eval,Act.put]) (by simp[Act.eval,Act.put]) (hB (G-(i+1)) (c-i)) ?_)
    go_wp2
    go_ret
    exact⟨rfl,rfl⟩
  shift B off n c i X vo vc w w1 w2 hi aP Lk sw hA hB:=by
    have t0:prog.underlying 39=some (.slice 142):=by kernel_rfl
    have t3:prog.underlying 3=some (.int .i64):=by kernel_rfl
    have z0:∀w,(Go.sizeOf 142).run prog w=.ok 7 w:=fun w=>by kernel_rfl
    have u0:=run_underlying t0;have u3:=run_underlying t3;have mixed:prog.follows .mixedOrders=true:=ij;have hz2:¬((i:Int)=(n:Int)):=by omega
    have sE:IntKind.i64.wrap ((i:Int)+1)=(i:Int)+1:=by rw[IntKind.wrap_i64];omega
    have fJ:(0:Int)≤(i:Int)+1:=by omega
    have fK:i≤n:=by omega
    have g9:((i:Int)+1).toNat=i+1:=by omega
    have hci:¬(c=i):=by omega
    have vi:=fun lb cb=>yPs (P:=prog) (fo:=272) (tb:=4) (e:=142) (size:=7) Proofs.Tryz.func272 (by kernel_rfl) (by kernel_rfl) (by kernel_rfl) (by kernel_rfl) t0 z0 sw vo (off+(i+1)*7) vc lb cb
    have hb2:¬(c=i+1):=by omega
    have hb3:(i:Int)≤(n:Int)+1:=by omega
    go_enter Proofs.Tryz.func240,Proofs.Tryz.ntmps240
    go_wp2_with (simp only[vi])
    go_region_law_o (refine Ox rfl _ _ 39 39 rfl (.slice (some ⟨B,off+(i+1)*7,none⟩) (n-i) (c-(i+1))) (.slice (some ⟨B,off+i*7,none⟩) (n+1-i) (c-i)) (by simp[Act.eval,Act.put]) (by simp[Act.eval,Act.put]) (hA _ _) ?_)
    go_wp2_with (at_builtin;refine Ow _ rfl _ _ 39 39 rfl _ _ rfl rfl (hB _) ?_)
    go_ret
    exact⟨rfl,rfl⟩
def vXa:Nat×nZ:=(240,Wa zG 56)
theorem Rt:zD prog vXa:=yZ2 (e:=142) (fn:=f240) vQe
def yX5:zE:=sp [(0,.c (.dat true zG)),sP 3 0,sI 6] [oB wC]
def yH1 (f:yAy)(d:yX5.den):=f d.1.1.1 d.1.2.2.1.1 (vY d.2.1)
def qP0:zT:=⟨[yX5],[(.exit 1,yX5)],qLi,fun k d=>yH1 (KP k k) d,fun b x _ K=>K (.exit 1) (zN b yX5 (((x.1,()),(),(x.2.1,()),()),((gl x.2.2 ()),())))⟩
def yWh:zW:=⟨[],[(6,qP0)],[],true⟩
theorem vOs:zS prog 1000 0 40 (zQ (zR f198) 0) qP0:=lp (A:=yWh) qP0 (fun d=>(d.1.1.1,d.1.2.2.1.1,(vY d.2.1))) yH1 KP FT (e4 za H9 Rs Rt) zF
def vYa:=zI 198 [.c (.dat true zG),.agg vR] (.tup [(false,[.fro zG]),(false,yW)]) (fun k d=>xH k d.1 (Ru d)) (fun x=>(x.1,x.2,())) (fun d=>(d.1,d.2.1))
theorem Rv:zD prog vYa:=fA f198 yWh (e4 za H9 Rs Rt) (loops1 vOs)
def vXu:=yH 154 [.ptr true zb,.agg MD] (.c .i) [lO] 0 (fun k d=>P9 k (eJ d) (yDs d)) (fun x=>(x.1,(jP x.2 ()))) (fun d=>(d.1,(kq d)))
theorem aa1:zD prog vXu:=fX f154 n0 1 (e4 iI yGe yRl Rv) zF
def vLc:=zI 199 [.ptr qTi,.c .i] (.tup [(true,pL),(false,yW)]) (fun k d=>qZm k (eJ d) d.2.2.2.2.2.2.2.2.2.2.2.2.2.2.2.2.2.2.1) (fun x=>(gl x.1 (x.2,()))) (fun d=>((vY d),d.2.2.2.2.2.2.2.1))
theorem yQi:zD prog vLc:=fA f199 n0 (e1 za) zF
def vU2:=yH 242 [.c (.own zG),.c (.p .i),.c (.p .i)] (.c (.own zG)) [] 0 (fun k d=>KK k d.1 d.2.1 d.2.2.1) (fun x=>(x,())) (fun d=>d.1)
theorem yWs:zD prog vU2:=fX f242 ⟨[],[],[],false⟩ 0 e0 zF
def vH4:=zI 200 [.c (.dat true zG),.c .i] (.tup [(false,[.fro zG]),(true,pL),(false,yW)]) (fun k d=>qy k d.1 d.2.1) (fun x=>(Rw x ())) (fun d=>(Rx d))
theorem rC:zD prog vH4:=fA f200 ⟨[],[],[],false⟩ (e3 za Rs yWs) zF
def aa2:=yH 93 [.ptr true zb,.c (.p .i),.c (.p (.dat false .i))] (.tup []) [lO] 0 (fun k d=>uU k (eJ d) d.2.2.2.2.2.2.2.2.2.2.2.2.2.2.2.2.2.2.1 d.2.2.2.2.2.2.2.2.2.2.2.2.2.2.2.2.2.2.2.1) (fun x=>(jP x ())) (fun d=>(eJ d))
theorem yG5:zD prog aa2:=fX f93 n0 1 e0 zF
def vJk:=zI 202 [.c (.dat true zG),.c .i,.c .i] (.tup [(false,[.fro zG]),(false,yW)]) (fun k d=>FU k d.1 d.2.1 d.2.2.1) (fun x=>(x.1,x.2,())) (fun d=>(d.1,d.2.1))
theorem yV7:zD prog vJk:=fA f202 n0 (e2 rC Rv) zF
def vRw:=zI 200 [.c (.dat false zG),.c .i] (.tup [(false,[.own zG]),(true,pL),(false,yW)]) (fun k d=>XP k d.1 d.2.1) (fun x=>(Rw x ())) (fun d=>(Rx d))
theorem vCu:zD prog vRw:=fA f200 ⟨[],[],[],false⟩ (e3 za Rs yWs) zF
def yP4:zE:=sp [sO 6 0,sP 7 1,sI 9] [oA zG,oB wC]
def yNx (f:qLr)(d:yP4.den):=f d.1.2.2.1.1 d.2.1 (vY d.2.2.1)
def qN0:zT:=⟨[yP4],[(.exit 0,yP4)],qKt,fun k d=>yNx (KS k k) d,fun b x _ K=>K (.exit 0) (zN b yP4 (((),(),(x.1,()),()),(x.2.1,(gl x.2.2 ()),())))⟩
def yEk:zW:=⟨[],[(5,qN0)],[],true⟩
theorem aa3:zS prog 1000 0 41 (zQ (zR f203) 0) qN0:=lp (A:=yEk) qN0 (fun d=>(d.1.2.2.1.1,d.2.1,(vY d.2.2.1))) yNx KS FW (e3 vCu H9 Rt) zF
def aa4:=zI 203 [.c (.dat true zG),.c .i] (.tup [(false,[.fro zG]),(false,yW)]) (fun k d=>FX k d.1 d.2.1) (fun x=>(x.1,x.2,())) (fun d=>(d.1,d.2.1))
theorem ySx:zD prog aa4:=fA f203 yEk (e3 vCu H9 Rt) (loops1 aa3)
def vT2:=zI 204 [.c (.dat true zG),.c .i] (.tup [(false,[.fro zG]),(false,yW)]) (fun k d=>FV k d.1 d.2.1) (fun x=>(x.1,x.2,())) (fun d=>(d.1,d.2.1))
theorem yO8:zD prog vT2:=fA f204 n0 (e2 rC Rv) zF
def vHm:=yH 155 [.ptr true zb,.agg vR] (.c .i) [lO] 0 (fun k d=>xV k (eJ d) (Ia d)) (fun x=>(x.1,(jP x.2 ()))) (fun d=>(d.1,(kq d)))
theorem vZr:zD prog vHm:=fX f155 n0 1 (e8 yQi rC yG5 iI qQ5 yV7 ySx yO8) zF
def vUn:=xp 243 false qS (.own qS) WS
theorem vTf:zD prog vUn:=fC f243 ⟨[],[],[],false⟩ e0 zF
def vR0:=xp 208 true (.sl .i) (.jun) WR
theorem yGy:zD prog vR0:=fC f208 ⟨[],[],[],false⟩ e0 zF
def yCv:zE:=sp [sO 3 0,(8,.c (.dat true (.sl .i))),sI 9,sI 10] [.pmat]
def yZ3:zE:=sp [sO 3 0] [.pmat]
def vD4 (f:qKd)(d:yCv.den):=f d.1.2.1.1 d.1.2.2.1.1 d.1.2.2.2.1.1 d.2.1.1 d.2.1.2
def qOz:zT:=⟨[yCv],[(.exit 0,yZ3)],(EQ×Nat),fun k d=>vD4 (J9 k k) d,fun b x _ K=>K (.exit 0) (zN b yZ3 (((),()),((x.1,x.2),())))⟩
def yLi:zW:=⟨[],[(3,qOz)],[],false⟩
theorem aa5:zS prog 1000 0 22 (zQ (zR f244) 0) qOz:=lp (A:=yLi) qOz (fun d=>d.2.1) vD4 J9 EW (e2 yGy MC) zF
def vQf:=zI 244 [.c (.dat true (.sl .i))] (.c (.mat)) (fun k d=>Ka k d.1) (fun x=>(x,())) (fun d=>d.1)
theorem vOi:zD prog vQf:=fA f244 yLi (e2 yGy MC) (loops1 aa5)
def aa6:=zI 205 [.agg [.dat false qS,.dat true (.sl .i),.dat false .i,.dat true (.sl .i)]] (.agg [.own qS,.mat,.own .i,.mat]) (fun k d=>(vK (gI k) d)) (fun x=>(fq x ())) (fun d=>(wS d))
theorem pN:zD prog aa6:=fA f205 ⟨[],[],[],false⟩ (e3 vTf vOi MC) zF
def aa7:=zI 206 [.ptr qTi,.c .i] (.c .bool) (fun k d=>qPl k (eJ d) d.2.2.2.2.2.2.2.2.2.2.2.2.2.2.2.2.2.2.1) (fun x=>(x,())) (fun d=>d.1)
theorem yRh:zD prog aa7:=fA f206 n0 (e1 iI) zF
def vUk:=yH 156 [.ptr true zb,.agg vR] (.c .i) [lO] 0 (fun k d=>xW k (eJ d) (Ia d)) (fun x=>(x.1,(jP x.2 ()))) (fun d=>(d.1,(kq d)))
theorem vVb:zD prog vUk:=fX f156 n0 1 (e3 pN yRh iI) zF
def aa8:=zI 207 [.ptr qTi,.c .i] (.c .bool) (fun k d=>ME k (eJ d) d.2.2.2.2.2.2.2.2.2.2.2.2.2.2.2.2.2.2.1) (fun x=>(x,())) (fun d=>d.1)
theorem Ib:zD prog aa8:=fA f207 n0 (e1 iI) zF
def vQw:=xp 208 true (.sl .i) (.own (.sl .i)) GI
theorem vGi:zD prog vQw:=fC f208 ⟨[],[],[],false⟩ e0 zF
def vQu:=zI 209 [.c (.dat false .i),.c .i,.c .i] (.c (.own .i)) (fun k d=>rf k d.1 d.2.1 d.2.2.1) (fun x=>(x,())) (fun d=>d.1)
theorem Ic:zD prog vQu:=fA f209 n0 (e1 MC) zF
def vUz:=zI 230 [.c .i] (.c .bool) (fun k d=>XU k d.1) (fun x=>(x,())) (fun d=>d.1)
theorem aa9:zD prog vUz:=fA f230 n0 e0 zF
def aba:=zI 231 [.c (.int .u64),.c (.int .u64)] (.tup [(false,[.int .u64]),(false,[.int .u64])]) (fun k d=>KU k d.1 d.2.1) (fun x=>(x.1,x.2,())) (fun d=>(d.1,d.2.1))
theorem vKe:zD prog aba:=fA f231 n0 e0 zF
def vRt:=zI 293 [.c (.int .u64)] (.c .i) (fun k d=>yQv k d.1) (fun x=>(x,())) (fun d=>d.1)
theorem vRr:zD prog vRt:=fA f293 n0 e0 zF
def vLj:=zI 266 [.c (.int .u64)] (.c .i) (fun k d=>yOn k d.1) (fun x=>(x,())) (fun d=>d.1)
theorem qSr:zD prog vLj:=fA f266 n0 (e1 vRr) zF
def yHs:zE:=sp [(2,.c (.int .u64)),(8,.c (.int .u64)),(9,.c (.int .u64)),(10,.c (.int .u64)),(11,.c (.int .u64)),(13,.c (.int .u64)),(14,.c (.int .u64)),(15,.c (.int .u64)),(16,.c (.int .u64))] []
def yGj:zE:=sp [(2,.c (.int .u64)),(8,.c (.int .u64)),(9,.c (.int .u64)),(10,.c (.int .u64)),(11,.c (.int .u64)),(13,.c (.int .u64)),(14,.c (.int .u64)),(15,.c (.int .u64))] []
def yZ1 (f:yBh)(d:yHs.den):=f d.1.1.1 d.1.2.1.1 d.1.2.2.1.1 d.1.2.2.2.1.1 d.1.2.2.2.2.1.1 d.1.2.2.2.2.2.1.1 d.1.2.2.2.2.2.2.1.1 d.1.2.2.2.2.2.2.2.1.1 d.1.2.2.2.2.2.2.2.2.1.1
def Ry:zT:=⟨[yHs],[(.exit 0,yGj)],qE,fun k d=>yZ1 (qYu k k) d,fun b x _ K=>K (.exit 0) (zN b yGj (((x.1,()),(x.2.1,()),(x.2.2.1,()),(x.2.2.2.1,()),(x.2.2.2.2.1,()),(x.2.2.2.2.2.1,()),(x.2.2.2.2.2.2.1,()),(x.2.2.2.2.2.2.2,()),()),()))⟩
def yVf:zE:=sp [(2,.c (.int .u64)),(8,.c (.int .u64)),(9,.c (.int .u64)),(10,.c (.int .u64)),(14,.c (.int .u64)),(15,.c (.int .u64)),(16,.c (.int .u64)),(17,.c (.int .u64)),(18,.c (.int .u64))] []
def yXc:zE:=sp [(2,.c (.int .u64)),(8,.c (.int .u64)),(14,.c (.int .u64)),(15,.c (.int .u64)),(17,.c (.int .u64)),(18,.c (.int .u64))] []
def yFb (f:qN3)(d:yVf.den):=f d.1.1.1 d.1.2.1.1 d.1.2.2.1.1 d.1.2.2.2.1.1 d.1.2.2.2.2.1.1 d.1.2.2.2.2.2.1.1 d.1.2.2.2.2.2.2.1.1 d.1.2.2.2.2.2.2.2.1.1 d.1.2.2.2.2.2.2.2.2.1.1
def Rz:zT:=⟨[yVf],[(.exit 2,yXc)],MZ,fun k d=>yFb (qNs k k) d,fun b x _ K=>K (.exit 2) (zN b yXc (((x.1,()),(x.2.1,()),(x.2.2.1,()),(x.2.2.2.1,()),(x.2.2.2.2.1,()),(x.2.2.2.2.2,()),()),()))⟩
def qXg:zW:=⟨[],[(17,Ry),(24,Rz)],[],true⟩
theorem abb:zS prog 1000 0 135 (zQ (zR f232) 0) Ry:=lp (A:=qXg) Ry (fun d=>(d.1.1.1,d.1.2.1.1,d.1.2.2.1.1,d.1.2.2.2.1.1,d.1.2.2.2.2.1.1,d.1.2.2.2.2.2.1.1,d.1.2.2.2.2.2.2.1.1,d.1.2.2.2.2.2.2.2.1.1)) yZ1 qYu yE6 (e1 qSr) zF
theorem abc:zS prog 1000 0 135 (zQ (zR f232) 1) Rz:=lp (A:=qXg) Rz (fun d=>(d.1.1.1,d.1.2.1.1,d.1.2.2.1.1,d.1.2.2.2.1.1,d.1.2.2.2.2.1.1,d.1.2.2.2.2.2.1.1)) yFb qNs yVl (e1 qSr) zF
def abd:=zI 232 [.c (.int .u64),.c (.int .u64),.c (.int .u64)] (.tup [(false,[.int .u64]),(false,[.int .u64])]) (fun k d=>PK k d.1 d.2.1 d.2.2.1) (fun x=>(x.1,x.2,())) (fun d=>(d.1,d.2.1))
theorem abe:zD prog abd:=fA f232 qXg (e1 qSr) (nk (n:=2) (by kernel_rfl) fun i hi=>match i,hi with|0,_=>⟨Ry,by kernel_rfl,abb⟩|1,_=>⟨Rz,by kernel_rfl,abc⟩|i+2,hi=>absurd hi (by omega))
def abf:=(149,Oo)
theorem qPc:zD prog abf:=V7 (fn:=f149)
def abg:=zI 190 [.c .i,.c .i,.c .i] (.tup [(false,yW),(false,[.bool])]) (fun k d=>PM k d.1 d.2.1 d.2.2.1) (fun x=>(x.1,x.2,())) (fun d=>(d.1,d.2.1))
theorem yZl:zD prog abg:=fA f190 n0 (e4 aa9 vKe abe qPc) zF
def vCe:zE:=sp [sI 4,(5,.c (.int .u64)),(9,.c (.dat false .i)),sI 10,sI 11] []
def yG0:zE:=sp [sI 4,(5,.c (.int .u64))] []
def yJu (f:qQt)(d:vCe.den):=f d.1.1.1 d.1.2.1.1 d.1.2.2.1.1 d.1.2.2.2.1.1 d.1.2.2.2.2.1.1
def qN5:zT:=⟨[vCe],[(.exit 0,yG0)],wD,fun k d=>yJu (F1 k k) d,fun b x _ K=>K (.exit 0) (zN b yG0 (((x.1,()),(x.2,()),()),()))⟩
def vEf:zW:=⟨[],[(4,qN5)],[],false⟩
theorem vV9:zS prog 1000 0 37 (zQ (zR f88) 0) qN5:=lp (A:=vEf) qN5 (fun d=>(d.1.1.1,d.1.2.1.1)) yJu F1 F2 (e1 qPc) zF
def abh:=zI 88 [.c (.dat false .i)] (.tup [(false,yW),(false,[.bool])]) (fun k d=>F0 k d.1) (fun x=>(x.1,x.2,())) (fun d=>(d.1,d.2.1))
theorem RA:zD prog abh:=fA f88 vEf (e1 qPc) (loops1 vV9)
def yPh:zE:=⟨[(1,.c (.dat false .i)),(2,.c (.dat false .i)),sO 8 0,(25,.c (.dat false jC)),sI 26,sI 27],[oA .i],[(8,none,.i,false)]⟩
def yEv:zE:=sp [sO 8 0] [oA .i]
def yPr:zE:=sp [sI 6,(7,.c .bool)] []
def yFt (f:qL1)(d:yPh.den):=f d.1.1.1 d.1.2.1.1 d.1.2.2.2.1.1 d.1.2.2.2.2.1.1 d.1.2.2.2.2.2.1.1 d.2.1
def qLt:zT:=⟨[yPh],[(.exit 0,yEv),(.ret,yPr)],(AC⊕fD),fun k d=>yFt (F4 k k) d,fun b x _ K=>match x with|.inl x=>K (.exit 0) (zN b yEv (((),()),(x,())))|.inr x=>K .ret (zN b yPr (((x.1,()),(x.2,()),()),()))⟩
def vCy:zW:=⟨[],[(5,qLt)],[],true⟩
theorem vMl:zS prog 1000 0 57 (zQ (zR f141) 0) qLt:=lp (A:=vCy) qLt (fun d=>match d with|.inl d=>.inl d.2.1|.inr d=>.inr (d.1.1.1,d.1.2.1.1)) yFt F4 F5 (e2 yZl RA) zF
def vRy:=zI 141 [.c (.dat false jC),.c (.dat false .i),.c (.dat false .i)] (.tup [(false,yW),(false,[.bool])]) (fun k d=>sZ k d.1 d.2.1 d.2.2.1) (fun x=>(x.1,x.2,())) (fun d=>(d.1,d.2.1))
theorem zc:zD prog vRy:=fA f141 vCy (e2 yZl RA) (loops1 vMl)
def abi:=yH 157 [.ptr true zb,.c (.p .i),.c (.p .i)] (.c .i) [lO] 0 (fun k d=>Qa k (eJ d) d.2.2.2.2.2.2.2.2.2.2.2.2.2.2.2.2.2.2.1 d.2.2.2.2.2.2.2.2.2.2.2.2.2.2.2.2.2.2.2.1) (fun x=>(x.1,(jP x.2 ()))) (fun d=>(d.1,(kq d)))
theorem vJb:zD prog abi:=fX f157 n0 1 (e6 Ib iI vGi Ic zc pN) zF
def vQi:=zI 274 [.c .i,.c .i] (.tup [(false,yW),(false,[.bool])]) (fun k d=>Qb k d.1 d.2.1) (fun x=>(x.1,x.2,())) (fun d=>(d.1,d.2.1))
theorem abj:zD prog vQi:=fA f274 ⟨[],[],[],false⟩ e0 zF
def vW4:=zI 132 [.agg oI] (.c .bool) (fun k d=>OO k d.1 d.2.1 d.2.2.1) (fun x=>(x,())) (fun d=>d.1)
theorem yHh:zD prog vW4:=fA f132 ⟨[],[],[],false⟩ e0 zF
def vQ8:=zI 245 [.agg oI,.c .i] (.tup [(true,[.i,.i,.i]),(false,yW)]) (fun k d=>Lh k (d.1,d.2.1,d.2.2.1) d.2.2.2.1) (fun x=>(x.1.1,x.1.2.1,x.1.2.2,x.2,())) (fun d=>((d.1,d.2.1,d.2.2.1),d.2.2.2.1))
theorem yQw:zD prog vQ8:=fA f245 n0 (e2 abj yHh) zF
def abk:=zI 210 [.agg oI,.c .i] (.tup [(true,[.i,.i,.i]),(false,yW)]) (fun k d=>GZ k (d.1,d.2.1,d.2.2.1) d.2.2.2.1) (fun x=>(x.1.1,x.1.2.1,x.1.2.2,x.2,())) (fun d=>((d.1,d.2.1,d.2.2.1),d.2.2.2.1))
theorem yC6:zD prog abk:=fA f210 n0 (e1 yQw) zF
def abl:=zI 246 [.agg oI,.c .i] (.c .i) (fun k d=>(vK (xB k) d)) (fun x=>(x,())) (fun d=>d.1)
theorem RB:zD prog abl:=fA f246 ⟨[],[],[],false⟩ e0 zF
def abm:=zI 211 [.agg oI,.c .i,.c .i] (.tup [(true,[.i,.i,.i]),(false,yW)]) (fun k d=>G0 k (d.1,d.2.1,d.2.2.1) d.2.2.2.1 d.2.2.2.2.1) (fun x=>(x.1.1,x.1.2.1,x.1.2.2,x.2,())) (fun d=>((d.1,d.2.1,d.2.2.1),d.2.2.2.1))
theorem yM1:zD prog abm:=fA f211 n0 (e2 yQw RB) zF
def vZf:=zI 212 [.agg oI,.c .i] (.c .i) (fun k d=>G1 k (d.1,d.2.1,d.2.2.1) d.2.2.2.1) (fun x=>(x,())) (fun d=>d.1)
theorem vF9:zD prog vZf:=fA f212 n0 e0 zF
def vZ0:=yH 158 [.ptr true zb,.c (.p .i),.c (.p .i),.c (.p .i)] (.c .i) [lO] 0 (fun k d=>qZ4 k (eJ d) d.2.2.2.2.2.2.2.2.2.2.2.2.2.2.2.2.2.2.1 d.2.2.2.2.2.2.2.2.2.2.2.2.2.2.2.2.2.2.2.1 d.2.2.2.2.2.2.2.2.2.2.2.2.2.2.2.2.2.2.2.2.1) (fun x=>(x.1,(jP x.2 ()))) (fun d=>(d.1,(kq d)))
theorem vOr:zD prog vZ0:=fX f158 n0 1 (e5 iI yC6 yM1 vF9 pN) zF
def yS2:zE:=sp [sP 0 0,sO 7 2,sP 8 3,(40,.c (.dat true (.sl .i))),sI 41,sI 42] [oB qYj,oA qZ,oA .i,oB yUa,oA qS,.mat,oA .i,.mat]
def vDd:zE:=sp [sP 0 0,sO 7 2,sP 8 3] [oB qYj,oA qZ,oA .i,oB yUa,oA qS,.mat,oA .i,.mat]
def yOo:zE:=sp [sP 0 0,sI 6] [oB qYj,oA qZ]
def yGr (f:qMu)(d:yS2.den):=f d.1.2.2.2.1.1 d.1.2.2.2.2.1.1 d.1.2.2.2.2.2.1.1 (lP d.2.1) d.2.2.1 d.2.2.2.1 d.2.2.2.2.2.1 d.2.2.2.2.2.2.1 d.2.2.2.2.2.2.2.1 d.2.2.2.2.2.2.2.2.1
def qXo:zT:=⟨[yS2],[(.exit 0,vDd),(.ret,yOo)],qM9,fun k d=>yGr (qK7 k k) d,fun b x _ K=>match x with|.inl x=>K (.exit 0) (zN b vDd (((),(),(),()),((vU x.1 ()),x.2.1,x.2.2.1,(),x.2.2.2.1,x.2.2.2.2.1,x.2.2.2.2.2.1,x.2.2.2.2.2.2,())))|.inr x=>K .ret (zN b yOo (((),(x.1,()),()),((vU x.2.1 ()),x.2.2,())))⟩
def yTt:zW:=⟨[],[(6,qXo)],[],true⟩
theorem vVs:zS prog 1000 1 81 (zQ (zR f159) 0) qXo:=lp (A:=yTt) qXo (fun d=>match d with|.inl d=>.inl ((lP d.2.1),d.2.2.1,d.2.2.2.1,d.2.2.2.2.2.1,d.2.2.2.2.2.2.1,d.2.2.2.2.2.2.2.1,d.2.2.2.2.2.2.2.2.1)|.inr d=>.inr (d.1.2.1.1,(lP d.2.1),d.2.2.1)) yGr qK7 yM6 (e5 Ib iI Ic pN zc) zF
def vWo:=yH 159 [.ptr true zb,.c (.p .i),.c (.p .i)] (.c .i) [lO] 0 (fun k d=>yR2 k (eJ d) d.2.2.2.2.2.2.2.2.2.2.2.2.2.2.2.2.2.2.1 d.2.2.2.2.2.2.2.2.2.2.2.2.2.2.2.2.2.2.2.1) (fun x=>(x.1,(jP x.2 ()))) (fun d=>(d.1,(kq d)))
theorem vGv:zD prog vWo:=fX f159 yTt 1 (e5 Ib iI Ic pN zc) (loops1 vVs)
def vSp:=yH 94 [.ptr true zb,.agg vR] (.c .i) [lO] 0 (fun k d=>Hu k (eJ d) (Ia d)) (fun x=>(x.1,(jP x.2 ()))) (fun d=>(d.1,(kq d)))
theorem abn:zD prog vSp:=fX f94 n0 1 (e6 aa1 vZr vVb vJb vOr vGv) zF
def vS8:=zI 89 [.agg kp,.c .i] (.c .bool) (fun k d=>(kt (B2 k) d)) (fun x=>(x,())) (fun d=>d.1)
theorem RD:zD prog vS8:=fA f89 ⟨[],[],[],false⟩ e0 zF
def vR1:=zI 162 [.c .i,.c .i,.c (.dat false .i)] (.agg qRs) (fun k d=>rp k d.1 d.2.1 d.2.2.1) (fun x=>(CN x ())) (fun d=>(lM d))
theorem zd:zD prog vR1:=fA f162 ⟨[],[],[],false⟩ e0 zF
def yMn:zE:=⟨[sP 1 0,sP 2 1,sO 4 2,(10,.c (.dat true zG)),sI 11,sI 12],[oB jg,oB jX,oA qZ],[(4,none,qZ,false)]⟩
def yOu:zE:=sp [sP 1 0,sP 2 1,sO 4 2] [oB jg,oB jX,oA qZ]
def yNa (f:qQh)(d:yMn.den):=(tt (f d.1.2.2.2.1.1 d.1.2.2.2.2.1.1 d.1.2.2.2.2.2.1.1) d.2.1) d.2.2.1.1 d.2.2.1.2.1 d.2.2.1.2.2.1 d.2.2.2.1
def RE:zT:=⟨[yMn],[(.exit 0,yOu)],qLk,fun k d=>yNa (Gy k k) d,fun b x _ K=>K (.exit 0) (zN b yOu (((),(),(),()),((ze x ()),(x.2.2.2.2.2.2.2.2.2.2.2.1,x.2.2.2.2.2.2.2.2.2.2.2.2.1,x.2.2.2.2.2.2.2.2.2.2.2.2.2.1,()),x.2.2.2.2.2.2.2.2.2.2.2.2.2.2,())))⟩
def yYh:zE:=sp [sP 1 0,sP 2 1,sO 4 2,(28,.c (.dat true qS)),sI 29,sI 30] [oB jg,oB jX,oA qZ]
def yGn (f:yBe)(d:yYh.den):=(tt (f d.1.2.2.2.1.1 d.1.2.2.2.2.1.1 d.1.2.2.2.2.2.1.1) d.2.1) d.2.2.1.1 d.2.2.1.2.1 d.2.2.1.2.2.1 d.2.2.2.1
def RF:zT:=⟨[yYh],[(.exit 2,yOu)],qLk,fun k d=>yGn (Ld k k) d,fun b x _ K=>K (.exit 2) (zN b yOu (((),(),(),()),((ze x ()),(x.2.2.2.2.2.2.2.2.2.2.2.1,x.2.2.2.2.2.2.2.2.2.2.2.2.1,x.2.2.2.2.2.2.2.2.2.2.2.2.2.1,()),x.2.2.2.2.2.2.2.2.2.2.2.2.2.2,())))⟩
def qQi:zW:=⟨[],[(3,RE),(8,RF)],[],false⟩
theorem vHc:zS prog 1000 0 48 (zQ (zR f160) 0) RE:=lp (A:=qQi) RE (fun d=>(ze d.2.1 (d.2.2.1.1,d.2.2.1.2.1,d.2.2.1.2.2.1,d.2.2.2.1))) yNa Gy Gz (e1 zd) zF
theorem vH2:zS prog 1000 0 48 (zQ (zR f160) 1) RF:=lp (A:=qQi) RF (fun d=>(ze d.2.1 (d.2.2.1.1,d.2.2.1.2.1,d.2.2.1.2.2.1,d.2.2.2.1))) yGn Ld GB (e1 zd) zF
def vMx:=zI 160 [.agg yx] (.tup [(true,[.i,.fro qS,.fro (.sl .i),.fro .i,.fro (.sl .i),.fro .i,.fro (.sl .i),.own zG,.fro .i,.i,.bool]),(false,[.own qZ])]) (fun k d=>(tt (P7 k) d)) (fun x=>(Ie x ())) (fun d=>(Ig d))
theorem yHx:zD prog vMx:=fA f160 qQi (e1 zd) (nk (n:=2) (by kernel_rfl) fun i hi=>match i,hi with|0,_=>⟨RE,by kernel_rfl,vHc⟩|1,_=>⟨RF,by kernel_rfl,vH2⟩|i+2,hi=>absurd hi (by omega))
def vLn:=zI 161 [.agg vR,.c .i] (.c .bool) (fun k d=>(mG (Yp k) d)) (fun x=>(x,())) (fun d=>d.1)
theorem vC0:zD prog vLn:=fA f161 ⟨[],[],[],false⟩ e0 zF
def abo:=zI 163 [.agg kp,.c .i] (.c .bool) (fun k d=>(kt (GG k) d)) (fun x=>(x,())) (fun d=>d.1)
theorem yRw:zD prog abo:=fA f163 ⟨[],[],[],false⟩ e0 zF
def abp:=zI 281 [.agg vR,.c .i] (.c .bool) (fun k d=>(mG (Xr k) d)) (fun x=>(x,())) (fun d=>d.1)
theorem vL5:zD prog abp:=fA f281 ⟨[],[],[],false⟩ e0 zF
def abq:=zI 280 [.agg vR,.ptr [.i]] (.c .bool) (fun k d=>(mG (Xq k) d)) (fun x=>(x,())) (fun d=>d.1)
theorem vFg:zD prog abq:=fA f280 ⟨[],[],[],false⟩ (e1 vL5) zF
def yF8:zE:=⟨[(1,.c (.lit (.fn 280 [1001000]))),sO 5 1,(8,.c (.dat false zG)),sI 9,sI 10],[.robox [.i],oA zG],[(5,none,zG,false)]⟩
def yPn (f:qMq)(d:yF8.den):=f d.1.2.2.1.1 d.1.2.2.2.1.1 d.1.2.2.2.2.1.1 d.2.1.1 d.2.2.1
def qUn:zT:=⟨[yF8],[(.exit 0,vEv)],yCb,fun k d=>yPn (KD k k) d,fun b x _ K=>K (.exit 0) (zN b vEv (((),()),(x,())))⟩
def vEl:zW:=⟨[],[(3,qUn)],[],false⟩
theorem vOz:zS prog 1000 0 23 (zQ (zR f194) 0) qUn:=lp (A:=vEl) qUn (fun d=>d.2.1) yPn KD FB (e1 vFg) zF
def vTp:=zI 194 [.c (.dat false zG),.fn 280 [[.i]]] (.c (.own zG)) (fun k d=>Xp k d.1 d.2.1) (fun x=>(x,())) (fun d=>d.1)
theorem abr:zD prog vTp:=fA f194 vEl (e1 vFg) (loops1 vOz)
def abt:=zI 251 [.c (.dat false zG),.c .i] (.c (.own zG)) (fun k d=>FA k d.1 d.2.1) (fun x=>(x,())) (fun d=>d.1)
theorem CP:zD prog abt:=fA f251 ⟨[],[],[],false⟩ (e1 abr) zF
def vIx:=zI 305 [.agg vR,.ptr vR] (.c .bool) (fun k d=>(H8 (Xw k) d)) (fun x=>(x,())) (fun d=>d.1)
theorem yU7:zD prog vIx:=fA f305 ⟨[],[],[],false⟩ e0 zF
def yGk:zE:=sp [(0,.c (.dat false zG)),(1,.c (.lit (.fn 305 [1001000]))),sI 7,sI 8] [.robox wC]
def yS7 (f:qXu)(d:yGk.den):=(mH (f d.1.1.1 d.1.2.2.1.1 d.1.2.2.2.1.1) d.2.1)
def qOa:zT:=⟨[yGk],[(.exit 0,yV1),(.ret,vC4)],(Unit⊕Int),fun k d=>yS7 (KI k k) d,fun b x _ K=>match x with|.inl x=>K (.exit 0) (zN b yV1 ((),()))|.inr x=>K .ret (zN b vC4 (((x,()),()),()))⟩
def yV6:zW:=⟨[],[(2,qOa)],[],false⟩
theorem vPg:zS prog 1000 0 19 (zQ (zR f166) 0) qOa:=lp (A:=yV6) qOa (fun d=>match d with|.inl d=>.inl ()|.inr d=>.inr d.1.1.1) yS7 KI FI (e1 yU7) zF
def vIr:=zI 166 [.c (.dat false zG),.fn 305 [vR]] (.c .i) (fun k d=>(mG (Xx k) d)) (fun x=>(x,())) (fun d=>d.1)
theorem vVw:zD prog vIr:=fA f166 yV6 (e1 yU7) (loops1 vPg)
def vYt:=zI 148 [.c (.dat false zG),.fn 305 [vR]] (.c .bool) (fun k d=>(mG (Pw k) d)) (fun x=>(x,())) (fun d=>d.1)
theorem vRi:zD prog vYt:=fA f148 ⟨[],[],[],false⟩ (e1 vVw) zF
def abu:=yH 304 [.agg vR,.ptr true [.map],.ptr false [.p (.dat false zG)]] (.c .bool) [[.map]] 0 (fun k d=>(RG (XA k) d)) (fun x=>(x.1,x.2,())) (fun d=>(d.1,d.2.1))
theorem vEo:zD prog abu:=fX f304 ⟨[],[],[],false⟩ 3 (e1 vRi) zF
def vBe:zE:=⟨[(1,.c (.lit (.fn 304 [1001000,1001002]))),sO 5 3,(8,.c (.dat false zG)),sI 9,sI 10],[oB [.lit (.map 1001001)],.imap,.robox [.dat false zG],oA zG],[(5,none,zG,false)]⟩
def yJp:zE:=sp [(1,.c (.lit (.fn 304 [1001000,1001002]))),sO 5 3] [oB [.lit (.map 1001001)],.imap,.robox [.dat false zG],oA zG]
def yJa (f:qT8)(d:vBe.den):=f d.1.2.2.1.1 d.1.2.2.2.1.1 d.1.2.2.2.2.1.1 d.2.2.1 d.2.2.2.1.1 d.2.2.2.2.1
def yA6:zT:=⟨[vBe],[(.exit 0,yJp)],qJg,fun k d=>yJa (FJ k k) d,fun b x _ K=>K (.exit 0) (zN b yJp (((),(),()),((),x.1,(x.2.1,()),x.2.2,())))⟩
def yNb:zW:=⟨[],[(3,yA6)],[],false⟩
theorem vHj:zS prog 1000 2 23 (zQ (zR f194) 0) yA6:=lp (A:=yNb) yA6 (fun d=>(d.2.2.1,d.2.2.2.1.1,d.2.2.2.2.1)) yJa FJ FK (e1 vEo) zF
def vVh:=yH 194 [.c (.p (.dat false zG)),.fn 304 [(true,[.map]),(false,[.p (.dat false zG)])]] (.c (.own zG)) [[.map]] 0 (fun k d=>Xz k d.1 d.2.1 d.2.2.1) (fun x=>(x.1,x.2,())) (fun d=>(d.1,d.2.1))
theorem vUr:zD prog vVh:=fX f194 yNb 2 (e1 vEo) (loops1 vHj)
def vKx:=zI 296 [.c (.dat false zG),.c .i] (.c (.own zG)) (fun k d=>KJ k d.1 d.2.1) (fun x=>(x,())) (fun d=>d.1)
theorem MF:zD prog vKx:=fA f296 ⟨[],[],[],false⟩ (e2 CP vUr) zF
def abv:=zI 144 [.agg eK,.agg vR] (.c .bool) (fun k d=>(tt (E2 k) d)) (fun x=>(x,())) (fun d=>d.1)
theorem qV6:zD prog abv:=fA f144 ⟨[],[],[],false⟩ e0 zF
def vR9:=zI 306 [.agg vR,.ptr eK] (.c .bool) (fun k d=>(tt (Xm k) d)) (fun x=>(x,())) (fun d=>d.1)
theorem yP8:zD prog vR9:=fA f306 ⟨[],[],[],false⟩ (e1 qV6) zF
def yOh:zE:=sp [(0,.c (.dat false zG)),(1,.c (.lit (.fn 306 [1001000]))),sI 7,sI 8] [.robox jW]
def yR6 (f:yCt)(d:yOh.den):=(vK (f d.1.1.1 d.1.2.2.1.1 d.1.2.2.2.1.1) d.2.1)
def qXw:zT:=⟨[yOh],[(.exit 0,yV1),(.ret,vC4)],(Unit⊕Int),fun k d=>yR6 (KB k k) d,fun b x _ K=>match x with|.inl x=>K (.exit 0) (zN b yV1 ((),()))|.inr x=>K .ret (zN b vC4 (((x,()),()),()))⟩
def yKn:zW:=⟨[],[(2,qXw)],[],false⟩
theorem vY8:zS prog 1000 0 19 (zQ (zR f166) 0) qXw:=lp (A:=yKn) qXw (fun d=>match d with|.inl d=>.inl ()|.inr d=>.inr d.1.1.1) yR6 KB Fz (e1 yP8) zF
def vLm:=zI 166 [.c (.dat false zG),.fn 306 [eK]] (.c .i) (fun k d=>(lQ (Xn k) d)) (fun x=>(x,())) (fun d=>d.1)
theorem vMc:zD prog vLm:=fA f166 yKn (e1 yP8) (loops1 vY8)
def vYx:=zI 148 [.c (.dat false zG),.fn 306 [eK]] (.c .bool) (fun k d=>(lQ (Ps k) d)) (fun x=>(x,())) (fun d=>d.1)
theorem vI3:zD prog vYx:=fA f148 ⟨[],[],[],false⟩ (e1 vMc) zF
def yHc:zE:=sp [sP 4 0,sP 5 1,(15,.c (.dat false zG)),sI 16,sI 17] [oB [.lit .nsl,.lit .nsl,.lit .nsl],oB qVt,oA .i,oA .i,.mat]
def yGm:zE:=sp [sP 4 0,sP 5 1] [oB [.lit .nsl,.lit .nsl,.lit .nsl],oB qVt,oA .i,oA .i,.mat]
def ySo (f:qNq)(d:yHc.den):=f d.1.2.2.1.1 d.1.2.2.2.1.1 d.1.2.2.2.2.1.1 d.2.2.2.1 d.2.2.2.2.1 d.2.2.2.2.2.1
def qTs:zT:=⟨[yHc],[(.exit 0,yGm)],qYz,fun k d=>ySo (Kx k k) d,fun b x _ K=>K (.exit 0) (zN b yGm (((),(),()),((),(),x.1,x.2.1,x.2.2,())))⟩
def vAh:zW:=⟨[],[(3,qTs)],[],false⟩
theorem abw:zS prog 1000 0 84 (zQ (zR f298) 0) qTs:=lp (A:=vAh) qTs (fun d=>(d.2.2.2.1,d.2.2.2.2.1,d.2.2.2.2.2.1)) ySo Kx Fq (e2 CL Mz) zF
def vU9:=zI 298 [.c .i,.c (.dat false zG)] (.agg [.own .i,.own .i,.mat]) (fun k d=>Pn k d.1 d.2.1) (fun x=>(x.1,x.2.1,x.2.2,())) (fun d=>(d.1,d.2.1,d.2.2.1))
theorem yYa:zD prog vU9:=fA f298 vAh (e2 CL Mz) (loops1 abw)
def vXm:=zI 299 [.agg vR,.ptr [.i]] (.c .bool) (fun k d=>(mG (Xe k) d)) (fun x=>(x,())) (fun d=>d.1)
theorem yRb:zD prog vXm:=fA f299 ⟨[],[],[],false⟩ e0 zF
def yMl:zE:=sp [(0,.c (.dat false zG)),(1,.c (.lit (.fn 299 [1001000]))),sI 7,sI 8] [.robox [.i]]
def yVd (f:qM1)(d:yMl.den):=f d.1.1.1 d.1.2.2.1.1 d.1.2.2.2.1.1 d.2.1.1
def qO6:zT:=⟨[yMl],[(.exit 0,yV1),(.ret,vC4)],(Unit⊕Int),fun k d=>yVd (Ky k k) d,fun b x _ K=>match x with|.inl x=>K (.exit 0) (zN b yV1 ((),()))|.inr x=>K .ret (zN b vC4 (((x,()),()),()))⟩
def vB9:zW:=⟨[],[(2,qO6)],[],false⟩
theorem vS7:zS prog 1000 0 19 (zQ (zR f166) 0) qO6:=lp (A:=vB9) qO6 (fun d=>match d with|.inl d=>.inl ()|.inr d=>.inr d.1.1.1) yVd Ky Fs (e1 yRb) zF
def vXn:=zI 166 [.c (.dat false zG),.fn 299 [[.i]]] (.c .i) (fun k d=>Xf k d.1 d.2.1) (fun x=>(x,())) (fun d=>d.1)
theorem abx:zD prog vXn:=fA f166 vB9 (e1 yRb) (loops1 vS7)
def aby:=zI 148 [.c (.dat false zG),.fn 299 [[.i]]] (.c .bool) (fun k d=>Po k d.1 d.2.1) (fun x=>(x,())) (fun d=>d.1)
theorem yF9:zD prog aby:=fA f148 ⟨[],[],[],false⟩ (e1 abx) zF
def vBf:zE:=sp [sI 5,(12,.c (.dat false .i)),sI 13,sI 14] []
def yDc:zE:=sp [sI 5] []
def vBy (f:Int→AC→Int→Int→Option Int)(d:vBf.den):=f d.1.1.1 d.1.2.1.1 d.1.2.2.1.1 d.1.2.2.2.1.1
def qOk:zT:=⟨[vBf],[(.exit 0,yDc)],Int,fun k d=>vBy (Fk k k) d,fun b x _ K=>K (.exit 0) (zN b yDc (((x,()),()),()))⟩
def vGo:zW:=⟨[],[(3,qOk)],[],false⟩
theorem vW5:zS prog 1000 0 23 (zQ (zR f307) 0) qOk:=lp (A:=vGo) qOk (fun d=>d.1.1.1) vBy Fk Fl e0 zF
def abz:=zI 307 [.agg eK,.c .i] (.c .i) (fun k d=>(lQ (Pk k) d)) (fun x=>(x,())) (fun d=>d.1)
theorem vF2:zD prog abz:=fA f307 vGo e0 (loops1 vW5)
def abA:=zI 308 [.c .i,.c .i] (.c .bool) (fun k d=>Fu k d.1 d.2.1) (fun x=>(x,())) (fun d=>d.1)
theorem qTk:zD prog abA:=fA f308 ⟨[],[],[],false⟩ e0 zF
def vO1:=zI 309 [.agg vR,.ptr [.i],.ptr oI,.ptr RH,.ptr [.i],.ptr eK] (.c .bool) (fun k d=>(vGr (Xh k) d)) (fun x=>(x,())) (fun d=>d.1)
theorem yZ7:zD prog vO1:=fA f309 ⟨[],[],[],false⟩ (e2 RB qTk) zF
def yMj:zE:=sp [(0,.c (.dat false zG)),(1,.c (.lit (.fn 309 [1001000,1001001,1001002,1001003,1001004]))),sI 7,sI 8] [.robox [.i],.robox [.i,.i,.i],.robox yB3,.robox [.i],.robox jW]
def yIz (f:qX0)(d:yMj.den):=(vK (f d.1.1.1 d.1.2.2.1.1 d.1.2.2.2.1.1 d.2.1.1 d.2.2.1.1 d.2.2.1.2.1 d.2.2.1.2.2.1 d.2.2.2.1.1 d.2.2.2.1.2.1 d.2.2.2.1.2.2.1 d.2.2.2.2.1.1) d.2.2.2.2.2.1)
def qKc:zT:=⟨[yMj],[(.exit 0,yV1),(.ret,vC4)],(Unit⊕Int),fun k d=>yIz (KA k k) d,fun b x _ K=>match x with|.inl x=>K (.exit 0) (zN b yV1 ((),()))|.inr x=>K .ret (zN b vC4 (((x,()),()),()))⟩
def yTu:zW:=⟨[],[(2,qKc)],[],false⟩
theorem vOg:zS prog 1000 0 19 (zQ (zR f166) 0) qKc:=lp (A:=yTu) qKc (fun d=>match d with|.inl d=>.inl ()|.inr d=>.inr d.1.1.1) yIz KA Fv (e1 yZ7) zF
def abB:=zI 166 [.c (.dat false zG),.fn 309 [[.i],oI,RH,[.i],eK]] (.c .i) (fun k d=>(qMx (Xi k) d)) (fun x=>(x,())) (fun d=>d.1)
theorem vZy:zD prog abB:=fA f166 yTu (e1 yZ7) (loops1 vOg)
def abC:=zI 148 [.c (.dat false zG),.fn 309 [[.i],oI,RH,[.i],eK]] (.c .bool) (fun k d=>(qMx (Pp k) d)) (fun x=>(x,())) (fun d=>d.1)
theorem yMz:zD prog abC:=fA f148 ⟨[],[],[],false⟩ (e1 vZy) zF
def yGa:zE:=sp [(3,.c (.dat false zG)),sP 4 0,sP 5 1,sP 6 2,sP 9 3,sP 10 4,sI 11,(39,.c (.dat false .i)),sI 40,sI 41] [oB yB3,oB jW,oB [.i],oB [.i,.i,.i],oB [.i]]
def vGl:zE:=sp [(3,.c (.dat false zG)),sP 4 0,sP 5 1,sP 6 2,sP 9 3,sP 10 4,sI 11] [oB yB3,oB jW,oB [.i],oB [.i,.i,.i],oB [.i]]
def yJz (f:yBl)(d:yGa.den):=(vK (f d.1.1.1 d.1.2.2.2.2.2.2.1.1 d.1.2.2.2.2.2.2.2.1.1 d.1.2.2.2.2.2.2.2.2.1.1 d.1.2.2.2.2.2.2.2.2.2.1.1 d.2.1.1 d.2.1.2.1 d.2.1.2.2.1) d.2.2.1) d.2.2.2.1.1 d.2.2.2.2.1.1 d.2.2.2.2.1.2.1 d.2.2.2.2.1.2.2.1 d.2.2.2.2.2.1.1
def qRb:zT:=⟨[yGa],[(.exit 0,vGl)],qYp,fun k d=>yJz (BG k k) d,fun b x _ K=>K (.exit 0) (zN b vGl (((x.1,()),(),(),(),(),(),(x.2.1,()),()),((x.2.2.1,x.2.2.2.1,x.2.2.2.2.1,()),(vZv x ()),(x.2.2.2.2.2.2.2.2.2.1,()),(x.2.2.2.2.2.2.2.2.2.2.1,x.2.2.2.2.2.2.2.2.2.2.2.1,x.2.2.2.2.2.2.2.2.2.2.2.2.1,()),(x.2.2.2.2.2.2.2.2.2.2.2.2.2,()),())))⟩
def yS1:zW:=⟨[],[(7,qRb)],[],false⟩
theorem vNr:zS prog 1000 0 59 (zQ (zR f300) 0) qRb:=lp (A:=yS1) qRb (fun d=>(d.1.1.1,d.1.2.2.2.2.2.2.1.1,d.2.1.1,d.2.1.2.1,d.2.1.2.2.1,(wB d.2.2.1 (d.2.2.2.1.1,d.2.2.2.2.1.1,d.2.2.2.2.1.2.1,d.2.2.2.2.1.2.2.1,d.2.2.2.2.2.1.1)))) yJz BG Fw (e3 vF2 qTk yMz) zF
def vQl:=zI 300 [.agg RH,.agg eK,.c .i,.c (.dat false zG)] (.c .bool) (fun k d=>(RG (Pr k) d)) (fun x=>(x,())) (fun d=>d.1)
theorem yDk:zD prog vQl:=fA f300 yS1 (e3 vF2 qTk yMz) (loops1 vNr)
def vDi:zE:=⟨[(1,.c (.dat false zG)),sP 2 0,sP 5 1,sO 6 5,sI 16,sI 17],[oB jW,oB qVt,oA .i,oA .i,.mat,oA .i],[(6,none,.i,false)]⟩
def yZj:zE:=sp [sO 6 0] [oA .i]
def vFm (f:qWn)(d:vDi.den):=(vK (f d.1.1.1 d.1.2.2.2.2.1.1 d.1.2.2.2.2.2.1.1) d.2.1) d.2.2.2.1 d.2.2.2.2.1 d.2.2.2.2.2.1 d.2.2.2.2.2.2.1
def qXs:zT:=⟨[vDi],[(.exit 0,yZj)],AC,fun k d=>vFm (Fx k k) d,fun b x _ K=>K (.exit 0) (zN b yZj (((),()),(x,())))⟩
def yP3:zW:=⟨[],[(4,qXs)],[],false⟩
theorem vJq:zS prog 1000 0 37 (zQ (zR f277) 0) qXs:=lp (A:=yP3) qXs (fun d=>d.2.1) vFm Fx Fy (e3 yYa yF9 yDk) zF
def vNa:=zI 277 [.agg eK,.c (.dat false zG)] (.c (.own .i)) (fun k d=>(lQ (BH k) d)) (fun x=>(x,())) (fun d=>d.1)
theorem MG:zD prog vNa:=fA f277 yP3 (e3 yYa yF9 yDk) (loops1 vJq)
def vUd:=zI 297 [.agg eK,.c (.dat false zG)] (.c .bool) (fun k d=>(lQ (BI k) d)) (fun x=>(x,())) (fun d=>d.1)
theorem MH:zD prog vUd:=fA f297 ⟨[],[],[],false⟩ (e2 vI3 MG) zF
def vOf:=zI 282 [.agg vR,.ptr eK] (.c .bool) (fun k d=>(tt (WW k) d)) (fun x=>(x,())) (fun d=>d.1)
theorem yHj:zD prog vOf:=fA f282 ⟨[],[],[],false⟩ (e1 qV6) zF
def yYw:zE:=sp [(0,.c (.dat false zG)),(1,.c (.lit (.fn 282 [1001000]))),sI 7,sI 8] [.robox jW]
def yW0 (f:yCt)(d:yYw.den):=(vK (f d.1.1.1 d.1.2.2.1.1 d.1.2.2.2.1.1) d.2.1)
def qNi:zT:=⟨[yYw],[(.exit 0,yV1),(.ret,vC4)],(Unit⊕Int),fun k d=>yW0 (Kj k k) d,fun b x _ K=>match x with|.inl x=>K (.exit 0) (zN b yV1 ((),()))|.inr x=>K .ret (zN b vC4 (((x,()),()),()))⟩
def yOj:zW:=⟨[],[(2,qNi)],[],false⟩
theorem vQ6:zS prog 1000 0 19 (zQ (zR f166) 0) qNi:=lp (A:=yOj) qNi (fun d=>match d with|.inl d=>.inl ()|.inr d=>.inr d.1.1.1) yW0 Kj E3 (e1 yHj) zF
def vWr:=zI 166 [.c (.dat false zG),.fn 282 [eK]] (.c .i) (fun k d=>(lQ (WX k) d)) (fun x=>(x,())) (fun d=>d.1)
theorem vWq:zD prog vWr:=fA f166 yOj (e1 yHj) (loops1 vQ6)
def abD:=zI 148 [.c (.dat false zG),.fn 282 [eK]] (.c .bool) (fun k d=>(lQ (O3 k) d)) (fun x=>(x,())) (fun d=>d.1)
theorem yQf:zD prog abD:=fA f148 ⟨[],[],[],false⟩ (e1 vWq) zF
def abE:=zI 131 [.agg oI] (.c .bool) (fun k d=>WG k d.1 d.2.1 d.2.2.1) (fun x=>(x,())) (fun d=>d.1)
theorem yWq:zD prog abE:=fA f131 ⟨[],[],[],false⟩ (e1 yHh) zF
def yHm:zE:=sp [(0,.c (.dat false qS)),(1,.c (.lit (.fn 131 []))),sI 7,sI 8] []
def yOi (f:qSx)(d:yHm.den):=f d.1.1.1 d.1.2.2.1.1 d.1.2.2.2.1.1
def qO0:zT:=⟨[yHm],[(.exit 0,yV1),(.ret,vC4)],(Unit⊕Int),fun k d=>yOi (J0 k k) d,fun b x _ K=>match x with|.inl x=>K (.exit 0) (zN b yV1 ((),()))|.inr x=>K .ret (zN b vC4 (((x,()),()),()))⟩
def vCj:zW:=⟨[],[(2,qO0)],[],false⟩
theorem vG7:zS prog 1000 0 19 (zQ (zR f187) 0) qO0:=lp (A:=vCj) qO0 (fun d=>match d with|.inl d=>.inl ()|.inr d=>.inr d.1.1.1) yOi J0 EM (e1 yWq) zF
def vO4:=zI 187 [.c (.dat false qS),.c (.fn 131)] (.c .i) (fun k d=>WH k d.1) (fun x=>(x,())) (fun d=>d.1)
theorem abF:zD prog vO4:=fA f187 vCj (e1 yWq) (loops1 vG7)
def vT7:=zI 133 [.c (.dat false qS),.c (.fn 131)] (.c .bool) (fun k d=>OR k d.1) (fun x=>(x,())) (fun d=>d.1)
theorem vQa:zD prog vT7:=fA f133 ⟨[],[],[],false⟩ (e1 abF) zF
def vJ4:=zI 135 [.c .i] (.c .bool) (fun k d=>WA k d.1) (fun x=>(x,())) (fun d=>d.1)
theorem abG:zD prog vJ4:=fA f135 ⟨[],[],[],false⟩ e0 zF
def abH:=zI 188 [.c .i,.ptr [.fn 135]] (.c .bool) (fun k d=>WJ k d.1) (fun x=>(x,())) (fun d=>d.1)
theorem vB7:zD prog abH:=fA f188 ⟨[],[],[],false⟩ (e1 abG) zF
def yLa:zE:=sp [(0,.c (.dat false .i)),(1,.c (.lit (.fn 188 [1001000]))),sI 7,sI 8] [.robox [.lit (.fn 135 [])]]
def yNp (f:qY7)(d:yLa.den):=f d.1.1.1 d.1.2.2.1.1 d.1.2.2.2.1.1
def qRy:zT:=⟨[yLa],[(.exit 0,yV1),(.ret,vC4)],(Unit⊕Int),fun k d=>yNp (J1 k k) d,fun b x _ K=>match x with|.inl x=>K (.exit 0) (zN b yV1 ((),()))|.inr x=>K .ret (zN b vC4 (((x,()),()),()))⟩
def yPi:zW:=⟨[],[(2,qRy)],[],false⟩
theorem vYj:zS prog 1000 0 19 (zQ (zR f189) 0) qRy:=lp (A:=yPi) qRy (fun d=>match d with|.inl d=>.inl ()|.inr d=>.inr d.1.1.1) yNp J1 EN (e1 vB7) zF
def vU7:=zI 189 [.c (.dat false .i),.fn 188 [[.fn 135]]] (.c .i) (fun k d=>WK k d.1) (fun x=>(x,())) (fun d=>d.1)
theorem vZ9:zD prog vU7:=fA f189 yPi (e1 vB7) (loops1 vYj)
def vY1:=zI 139 [.c (.dat false .i),.fn 188 [[.fn 135]]] (.c .bool) (fun k d=>OT k d.1) (fun x=>(x,())) (fun d=>d.1)
theorem vY2:zD prog vY1:=fA f139 ⟨[],[],[],false⟩ (e1 vZ9) zF
def vPe:=zI 136 [.c (.dat false .i),.c .i,.c (.fn 135)] (.c .bool) (fun k d=>J3 k d.1 d.2.1) (fun x=>(x,())) (fun d=>d.1)
theorem qVc:zD prog vPe:=fA f136 ⟨[],[],[],false⟩ (e1 vY2) zF
def yU9:zE:=sp [sI 1,(2,.c (.lit (.fn 135 []))),(13,.c (.dat false (.sl .i))),sI 14,sI 15] []
def yPo:zE:=sp [(6,.c .bool)] []
def yKf (f:qO1)(d:yU9.den):=f d.1.1.1 d.1.2.2.1.1 d.1.2.2.2.1.1 d.1.2.2.2.2.1.1
def qR0:zT:=⟨[yU9],[(.exit 0,yV1),(.ret,yPo)],(Unit⊕Bool),fun k d=>yKf (J4 k k) d,fun b x _ K=>match x with|.inl x=>K (.exit 0) (zN b yV1 ((),()))|.inr x=>K .ret (zN b yPo (((x,()),()),()))⟩
def vGj:zW:=⟨[],[(4,qR0)],[],false⟩
theorem abI:zS prog 1000 0 25 (zQ (zR f134) 0) qR0:=lp (A:=vGj) qR0 (fun d=>match d with|.inl d=>.inl ()|.inr d=>.inr d.1.1.1) yKf J4 EP (e1 qVc) zF
def abJ:=zI 134 [.c (.dat false (.sl .i)),.c .i,.c (.fn 135)] (.c .bool) (fun k d=>OW k d.1 d.2.1) (fun x=>(x,())) (fun d=>d.1)
theorem vJx:zD prog abJ:=fA f134 vGj (e1 qVc) (loops1 abI)
def abK:=zI 137 [.c .i] (.c .bool) (fun k d=>OP k d.1) (fun x=>(x,())) (fun d=>d.1)
theorem vL6:zD prog abK:=fA f137 ⟨[],[],[],false⟩ e0 zF
def vNl:=zI 188 [.c .i,.ptr [.fn 137]] (.c .bool) (fun k d=>WM k d.1) (fun x=>(x,())) (fun d=>d.1)
theorem yP1:zD prog vNl:=fA f188 ⟨[],[],[],false⟩ (e1 vL6) zF
def yWc:zE:=sp [(0,.c (.dat false .i)),(1,.c (.lit (.fn 188 [1001000]))),sI 7,sI 8] [.robox [.lit (.fn 137 [])]]
def yQx (f:qY7)(d:yWc.den):=f d.1.1.1 d.1.2.2.1.1 d.1.2.2.2.1.1
def qSd:zT:=⟨[yWc],[(.exit 0,yV1),(.ret,vC4)],(Unit⊕Int),fun k d=>yQx (J2 k k) d,fun b x _ K=>match x with|.inl x=>K (.exit 0) (zN b yV1 ((),()))|.inr x=>K .ret (zN b vC4 (((x,()),()),()))⟩
def yMc:zW:=⟨[],[(2,qSd)],[],false⟩
theorem vO0:zS prog 1000 0 19 (zQ (zR f189) 0) qSd:=lp (A:=yMc) qSd (fun d=>match d with|.inl d=>.inl ()|.inr d=>.inr d.1.1.1) yQx J2 EO (e1 yP1) zF
def vSi:=zI 189 [.c (.dat false .i),.fn 188 [[.fn 137]]] (.c .i) (fun k d=>WN k d.1) (fun x=>(x,())) (fun d=>d.1)
theorem vQo:zD prog vSi:=fA f189 yMc (e1 yP1) (loops1 vO0)
def vPs:=zI 139 [.c (.dat false .i),.fn 188 [[.fn 137]]] (.c .bool) (fun k d=>OU k d.1) (fun x=>(x,())) (fun d=>d.1)
theorem vYy:zD prog vPs:=fA f139 ⟨[],[],[],false⟩ (e1 vQo) zF
def vY0:=zI 136 [.c (.dat false .i),.c .i,.c (.fn 137)] (.c .bool) (fun k d=>OV k d.1 d.2.1) (fun x=>(x,())) (fun d=>d.1)
theorem yD4:zD prog vY0:=fA f136 ⟨[],[],[],false⟩ (e1 vYy) zF
def yHb:zE:=sp [sI 1,(2,.c (.lit (.fn 137 []))),(13,.c (.dat false (.sl .i))),sI 14,sI 15] []
def yK4 (f:qO1)(d:yHb.den):=f d.1.1.1 d.1.2.2.1.1 d.1.2.2.2.1.1 d.1.2.2.2.2.1.1
def qSo:zT:=⟨[yHb],[(.exit 0,yV1),(.ret,yPo)],(Unit⊕Bool),fun k d=>yK4 (J5 k k) d,fun b x _ K=>match x with|.inl x=>K (.exit 0) (zN b yV1 ((),()))|.inr x=>K .ret (zN b yPo (((x,()),()),()))⟩
def vGk:zW:=⟨[],[(4,qSo)],[],false⟩
theorem vU5:zS prog 1000 0 25 (zQ (zR f134) 0) qSo:=lp (A:=vGk) qSo (fun d=>match d with|.inl d=>.inl ()|.inr d=>.inr d.1.1.1) yK4 J5 ER (e1 yD4) zF
def vMq:=zI 134 [.c (.dat false (.sl .i)),.c .i,.c (.fn 137)] (.c .bool) (fun k d=>OX k d.1 d.2.1) (fun x=>(x,())) (fun d=>d.1)
theorem abL:zD prog vMq:=fA f134 vGk (e1 yD4) (loops1 vU5)
def vA7:zE:=sp [(0,.c (.dat false (.sl .i))),sI 3,(7,.c (.dat false (.sl .i))),sI 8,sI 9,(14,.c (.dat false .i)),sI 15,sI 16] []
def yRt:zE:=sp [(0,.c (.dat false (.sl .i))),(7,.c (.dat false (.sl .i))),sI 8,sI 9] []
def yTx (f:yAc)(d:vA7.den):=f d.1.1.1 d.1.2.1.1 d.1.2.2.1.1 d.1.2.2.2.1.1 d.1.2.2.2.2.1.1 d.1.2.2.2.2.2.1.1 d.1.2.2.2.2.2.2.1.1 d.1.2.2.2.2.2.2.2.1.1
def qRo:zT:=⟨[vA7],[(.exit 2,yRt),(.ret,yRz)],qR4,fun k d=>yTx (ES k k) d,fun b x _ K=>match x with|.inl x=>K (.exit 2) (zN b yRt (((x.1,()),(x.2.1,()),(x.2.2.1,()),(x.2.2.2,()),()),()))|.inr x=>K .ret (zN b yRz (((x,()),()),()))⟩
def yLz (f:qPh)(d:yRt.den):=f d.1.1.1 d.1.2.1.1 d.1.2.2.1.1 d.1.2.2.2.1.1
def qUu:zT:=⟨[yRt],[(.exit 0,yV1),(.ret,yRz)],(Unit⊕Bool),fun k d=>yLz (J6 k k) d,fun b x _ K=>match x with|.inl x=>K (.exit 0) (zN b yV1 ((),()))|.inr x=>K .ret (zN b yRz (((x,()),()),()))⟩
def qR2:zW:=⟨[],[(5,qRo),(2,qUu)],[],false⟩
theorem vRj:zS prog 1000 0 33 (zQ (zQ (zR f138) 0) 0) qRo:=lp (A:=qR2) qRo (fun d=>match d with|.inl d=>.inl (d.1.1.1,d.1.2.1.1,d.1.2.2.1.1,d.1.2.2.2.1.1)|.inr d=>.inr d.1.1.1) yTx ES ET e0 zF
theorem vMr:zS prog 1000 0 33 (zQ (zR f138) 0) qUu:=lp (A:=qR2) qUu (fun d=>match d with|.inl d=>.inl ()|.inr d=>.inr d.1.1.1) yLz J6 EU e0 (loops1 vRj)
def abM:=zI 138 [.c (.dat false (.sl .i))] (.c .bool) (fun k d=>OY k d.1) (fun x=>(x,())) (fun d=>d.1)
theorem vLa:zD prog abM:=fA f138 qR2 e0 (loops1 vMr)
def abN:=zI 85 [.agg eK] (.c .bool) (fun k d=>(vK (Bz k) d)) (fun x=>(x,())) (fun d=>d.1)
theorem RI:zD prog abN:=fA f85 ⟨[],[],[],false⟩ (e5 vQa vJx qVc abL vLa) zF
def ySd:zE:=sp [sP 2 0,sP 4 1,sP 7 2,(24,.c (.dat false zG)),sI 25,sI 26] [oB wL,oB oJ,oB tu,oA qS,.mat,oA .i,.mat]
def yU8:zE:=sp [sP 2 0,sP 4 1,sP 7 2] [oB wL,oB oJ,oB tu,oA qS,.mat,oA .i,.mat]
def yUc (f:qZs)(d:ySd.den):=(vK (f d.1.2.2.2.1.1 d.1.2.2.2.2.1.1 d.1.2.2.2.2.2.1.1) d.2.1) d.2.2.2.2.1 d.2.2.2.2.2.1 d.2.2.2.2.2.2.1 d.2.2.2.2.2.2.2.1
def qXl:zT:=⟨[ySd],[(.exit 0,yU8)],qU3,fun k d=>yUc (E6 k k) d,fun b x _ K=>K (.exit 0) (zN b yU8 (((),(),(),()),((wB x ()),(),(),x.2.2.2.2.1,x.2.2.2.2.2.1,x.2.2.2.2.2.2.1,x.2.2.2.2.2.2.2,())))⟩
def yXr:zW:=⟨[],[(6,qXl)],[],false⟩
theorem abO:zS prog 1000 0 104 (zQ (zR f252) 0) qXl:=lp (A:=yXr) qXl (fun d=>(wB d.2.1 (d.2.2.2.2.1,d.2.2.2.2.2.1,d.2.2.2.2.2.2.1,d.2.2.2.2.2.2.2.1))) yUc E6 E7 (e4 yQf pN RB RI) zF
def vMo:=zI 252 [.agg ll,.c (.dat false zG)] (.tup [(true,nI),(false,yW)]) (fun k d=>(lQ (qx k) d)) (fun x=>(jG x ())) (fun d=>(yR d))
theorem CQ:zD prog vMo:=fA f252 yXr (e4 yQf pN RB RI) (loops1 abO)
def yL6:zE:=sp [sP 3 0,sP 6 1,sP 7 2,sO 15 3,sI 16,sI 17] [oB wL,oB wC,oB oJ,oA zG]
def yO9:zE:=sp [sP 3 0,sP 6 1,sP 7 2] [oB wL,oB wC,oB oJ]
def yQ7:zE:=sp [sP 6 0,sP 7 1,(8,.c .bool)] [oB wC,oB wL]
def yLk (f:qY8)(d:yL6.den):=(mH (vK (f d.1.2.2.2.2.1.1 d.1.2.2.2.2.2.1.1) d.2.1) d.2.2.1) d.2.2.2.2.1
def qX7:zT:=⟨[yL6],[(.exit 0,yO9),(.ret,yQ7)],qZ2,fun k d=>yLk (KX k k) d,fun b x _ K=>match x with|.inl x=>K (.exit 0) (zN b yO9 (((),(),(),()),((wB x ()),(MI x ()),(),())))|.inr x=>K .ret (zN b yQ7 (((),(),(x.1,()),()),((qUy x ()),(vZ1 x ()),())))⟩
def yQ3:zW:=⟨[],[(2,qX7)],[],false⟩
theorem vOb:zS prog 1000 0 40 (zQ (zR f275) 0) qX7:=lp (A:=yQ3) qX7 (fun d=>match d with|.inl d=>.inl (wB d.2.1 (vY d.2.2.1))|.inr d=>.inr (d.1.2.2.1.1,(kl d.2.1 (wS d.2.2.1)))) yLk KX F9 (e3 MF MH CQ) zF
def vTj:=zI 275 [.agg ll,.c (.dat true zG),.c .i] (.tup [(true,pL),(true,nI),(false,[.bool])]) (fun k d=>(kt (PR k) d)) (fun x=>(Ie x ())) (fun d=>(Ig d))
theorem vCk:zD prog vTj:=fA f275 yQ3 (e3 MF MH CQ) (loops1 vOb)
def yTg:zE:=⟨[sI 2,sP 6 0,(7,.c (.dat true zG)),sO 8 1],[oB wL,oA zG],[(8,none,zG,false)]⟩
def yTr:zE:=sp [sP 6 0,(7,.c (.dat true zG)),sO 8 1] [oB wL,oA zG]
def yNr (f:yB2)(d:yTg.den):=(vK (f d.1.1.1 d.1.2.2.1.1) d.2.1) d.2.2.1
def qUw:zT:=⟨[yTg],[(.ret,yTr)],qOg,fun k d=>yNr (KY k k) d,fun b x _ K=>K .ret (zN b yTr (((),(x.1,()),(),()),((iJ x ()),x.2.2.2.2.2,())))⟩
def vE5:zW:=⟨[],[(2,qUw)],[],false⟩
theorem abP:zS prog 1000 0 40 (zQ (zR f247) 0) qUw:=lp (A:=vE5) qUw (fun d=>(d.1.2.1.1,(wB d.2.1 d.2.2.1))) yNr KY Gc (e2 vCk rC) zF
def vWt:=zI 247 [.agg ll,.c (.dat true zG),.c .i] (.tup [(true,nI),(false,[.fro zG]),(false,[.own zG])]) (fun k d=>(kt (PT k) d)) (fun x=>(oK x ())) (fun d=>(nJ d))
theorem yQm:zD prog vWt:=fA f247 vE5 (e2 vCk rC) (loops1 abP)
def yI7:zE:=sp [sP 3 0,sP 6 1,sO 8 2,sP 10 3,sO 18 2,sI 19,sI 20,sO 24 2,sI 25,sI 26] [oB wL,oB RJ,oA zG,oB wC]
def yG3:zE:=sp [sP 3 0,sP 6 1,sO 8 2,sO 18 2,sI 19,sI 20] [oB wL,oB RJ,oA zG]
def yPa:zE:=sp [sP 6 0,(7,.c .bool)] [oB vBb]
def yEg (f:qSw)(d:yI7.den):=(mH ((H8 (vK (f d.1.2.2.2.2.2.1.1 d.1.2.2.2.2.2.2.1.1 d.1.2.2.2.2.2.2.2.2.1.1 d.1.2.2.2.2.2.2.2.2.2.1.1) d.2.1) d.2.2.1) d.2.2.2.1) d.2.2.2.2.1)
def qNc:zT:=⟨[yI7],[(.exit 2,yG3),(.ret,yPa)],yA1,fun k d=>yEg (KZ k k) d,fun b x _ K=>match x with|.inl x=>K (.exit 2) (zN b yG3 (((),(),(),(),(x.1,()),(x.2.1,()),()),((Rr x ()),(abQ x ()),x.2.2.2.2.2.2.2.2.2.2.2.2.2.2.2.2.2.2.2.2,())))|.inr x=>K .ret (zN b yPa (((),(x.1,()),()),((qSt x ()),())))⟩
def yR4:zE:=sp [sP 6 0] [oB RJ]
def vDh (f:qJ6)(d:yG3.den):=(H8 (vK (f d.1.2.2.2.2.1.1 d.1.2.2.2.2.2.1.1) d.2.1) d.2.2.1) d.2.2.2.1
def qXc:zT:=⟨[yG3],[(.exit 0,yR4),(.ret,yPa)],qR6,fun k d=>vDh (K1 k k) d,fun b x _ K=>match x with|.inl x=>K (.exit 0) (zN b yR4 (((),()),((RK x ()),())))|.inr x=>K .ret (zN b yPa (((),(x.1,()),()),((qSt x ()),())))⟩
def qPj:zW:=⟨[],[(6,qNc),(3,qXc)],[],false⟩
theorem vIc:zS prog 1000 0 74 (zQ (zQ (zR f276) 0) 0) qNc:=lp (A:=qPj) qNc (fun d=>match d with|.inl d=>.inl (d.1.2.2.2.2.1.1,d.1.2.2.2.2.2.1.1,(wB d.2.1 (qMn d.2.2.1 d.2.2.2.1)))|.inr d=>.inr (d.1.2.1.1,(eJ d.2.1))) yEg KZ Gf (e3 MF MH CQ) zF
theorem vYe:zS prog 1000 0 74 (zQ (zR f276) 0) qXc:=lp (A:=qPj) qXc (fun d=>match d with|.inl d=>.inl (qRv d.2.1)|.inr d=>.inr (d.1.2.1.1,(eJ d.2.1))) vDh K1 Gg (e3 MF MH CQ) (loops1 vIc)
def abR:=zI 276 [.agg ll,.c (.dat true zG),.c .i] (.tup [(true,[.i,.i,.i,.i,.i,.i,.i,.i,.i,.i,.i,.i,.i,.i,.fro qS,.fro (.sl .i),.fro .i,.fro (.sl .i)]),(false,[.bool])]) (fun k d=>(kt (PV k) d)) (fun x=>(zg x ())) (fun d=>(RM d))
theorem qQb:zD prog abR:=fA f276 qPj (e3 MF MH CQ) (loops1 vYe)
def vFa:zE:=⟨[sI 2,sP 6 0,(7,.c (.dat true zG)),sO 8 1,sO 33 2,sI 34,sI 35],[oB wL,oA zG,oA zG],[(8,none,zG,false)]⟩
def ySt:zE:=sp [sI 2,sP 6 0,(7,.c (.dat true zG)),sO 8 1] [oB wL,oA zG]
def yDa (f:qVp)(d:vFa.den):=(vK (f d.1.1.1 d.1.2.2.1.1 d.1.2.2.2.2.2.1.1 d.1.2.2.2.2.2.2.1.1) d.2.1) d.2.2.1 d.2.2.2.1
def yBa:zT:=⟨[vFa],[(.exit 2,ySt)],qTb,fun k d=>yDa (xL k k) d,fun b x _ K=>K (.exit 2) (zN b ySt (((x.1,()),(),(x.2.1,()),(),()),((Rr x ()),x.2.2.2.2.2.2,())))⟩
def yLv (f:yB2)(d:yTg.den):=(vK (f d.1.1.1 d.1.2.2.1.1) d.2.1) d.2.2.1
def qJh:zT:=⟨[yTg],[(.ret,yTr)],qOg,fun k d=>yLv (K2 k k) d,fun b x _ K=>K .ret (zN b yTr (((),(x.1,()),(),()),((iJ x ()),x.2.2.2.2.2,())))⟩
def qVa:zW:=⟨[],[(7,yBa),(2,qJh)],[],false⟩
theorem vMy:zS prog 1000 0 52 (zQ (zQ (zR f248) 0) 0) yBa:=lp (A:=qVa) yBa (fun d=>(d.1.1.1,d.1.2.2.1.1,(wB d.2.1 d.2.2.1))) yDa xL xM (e2 qQb rC) zF
theorem vJc:zS prog 1000 0 52 (zQ (zR f248) 0) qJh:=lp (A:=qVa) qJh (fun d=>(d.1.2.1.1,(wB d.2.1 d.2.2.1))) yLv K2 Gh (e2 qQb rC) (loops1 vMy)
def vTl:=zI 248 [.agg ll,.c (.dat true zG),.c .i] (.tup [(true,nI),(false,[.fro zG]),(false,[.own zG])]) (fun k d=>(kt (PW k) d)) (fun x=>(oK x ())) (fun d=>(nJ d))
theorem yLc:zD prog vTl:=fA f248 qVa (e2 qQb rC) (loops1 vJc)
def yEq (f:yB2)(d:yTg.den):=(vK (f d.1.1.1 d.1.2.2.1.1) d.2.1) d.2.2.1
def qXe:zT:=⟨[yTg],[(.ret,yTr)],qOg,fun k d=>yEq (K9 k k) d,fun b x _ K=>K .ret (zN b yTr (((),(x.1,()),(),()),((iJ x ()),x.2.2.2.2.2,())))⟩
def vGn:zW:=⟨[],[(2,qXe)],[],false⟩
theorem vQ0:zS prog 1000 0 40 (zQ (zR f213) 0) qXe:=lp (A:=vGn) qXe (fun d=>(d.1.2.1.1,(wB d.2.1 d.2.2.1))) yEq K9 P3 (e2 yQm yLc) zF
def abS:=zI 213 [.agg ll,.c (.dat true zG),.c .i] (.tup [(true,nI),(false,[.fro zG]),(false,[.own zG])]) (fun k d=>(kt (La k) d)) (fun x=>(oK x ())) (fun d=>(nJ d))
theorem vVz:zD prog abS:=fA f213 vGn (e2 yQm yLc) (loops1 vQ0)
def vMh:=xp 278 false .i (.own .i) Yc
theorem vP2:zD prog vMh:=fC f278 ⟨[],[],[],false⟩ e0 zF
def vIj:=yH 279 [.agg vR,.ptr true [.own .i]] (.c .bool) [[.own .i]] 0 (fun k d=>(mG (Ye k) d)) (fun x=>(x.1,x.2,())) (fun d=>(d.1,d.2.1))
theorem yJg:zD prog vIj:=fX f279 ⟨[],[],[],false⟩ 2 e0 zF
def yN4:zE:=⟨[(1,.c (.lit (.fn 279 [1001000]))),sO 5 2,(8,.c (.dat false zG)),sI 9,sI 10],[oB [.lit (.osl 1001001 none)],oA .i,oA zG],[(5,none,zG,false)]⟩
def yW6:zE:=sp [(1,.c (.lit (.fn 279 [1001000]))),sO 5 2] [oB [.lit (.osl 1001001 none)],oA .i,oA zG]
def vF6 (f:qVh)(d:yN4.den):=f d.1.2.2.1.1 d.1.2.2.2.1.1 d.1.2.2.2.2.1.1 d.2.2.1 d.2.2.2.1
def yAa:zT:=⟨[yN4],[(.exit 0,yW6)],qSy,fun k d=>vF6 (Gl k k) d,fun b x _ K=>K (.exit 0) (zN b yW6 (((),(),()),((),x.1,x.2,())))⟩
def vFz:zW:=⟨[],[(3,yAa)],[],false⟩
theorem vWv:zS prog 1000 2 23 (zQ (zR f194) 0) yAa:=lp (A:=vFz) yAa (fun d=>(d.2.2.1,d.2.2.2.1)) vF6 Gl Gm (e1 yJg) zF
def vZ7:=yH 194 [.c (.p (.dat false zG)),.fn 279 [(true,[.own .i])]] (.c (.own zG)) [[.own .i]] 0 (fun k d=>Yd k d.1 d.2.1) (fun x=>(x.1,x.2,())) (fun d=>(d.1,d.2.1))
theorem vN2:zD prog vZ7:=fX f194 vFz 2 (e1 yJg) (loops1 vWv)
def vL2:=zI 250 [.c (.dat false zG),.c (.dat false .i)] (.c (.own zG)) (fun k d=>Gk k d.1 d.2.1) (fun x=>(x,())) (fun d=>d.1)
theorem Ih:zD prog vL2:=fA f250 ⟨[],[],[],false⟩ (e2 vP2 vN2) zF
def yHf:zE:=⟨[sP 3 0,sO 6 1,sI 7,sO 8 2,sI 18,sI 19],[oB jW,oA .i,oA zG],[(6,none,.i,false)]⟩
def yXz:zE:=sp [sP 3 0,sO 6 1,sI 7,sO 8 2] [oB jW,oA .i,oA zG]
def yCy (f:qQ4)(d:yHf.den):=(vK (f d.1.2.2.1.1 d.1.2.2.2.2.1.1 d.1.2.2.2.2.2.1.1) d.2.1) d.2.2.1 d.2.2.2.1
def RN:zT:=⟨[yHf],[(.exit 0,yXz)],qWq,fun k d=>yCy (BV k k) d,fun b x _ K=>K (.exit 0) (zN b yXz (((),(),(x.1,()),(),()),((iJ x ()),x.2.2.2.2.2.1,x.2.2.2.2.2.2,())))⟩
def yL8:zE:=sp [sP 3 0,sO 6 1,sI 7,sO 8 2,sO 42 3,sI 43,sI 44] [oB jW,oA .i,oA zG,oA .i]
def yU4 (f:qQx)(d:yL8.den):=(vK (f d.1.2.2.1.1 d.1.2.2.2.2.2.1.1 d.1.2.2.2.2.2.2.1.1) d.2.1) d.2.2.1 d.2.2.2.1 d.2.2.2.2.1
def qO9:zT:=⟨[yL8],[(.exit 4,yXz)],qWq,fun k d=>yU4 (Gq k k) d,fun b x _ K=>K (.exit 4) (zN b yXz (((),(),(x.1,()),(),()),((iJ x ()),x.2.2.2.2.2.1,x.2.2.2.2.2.2,())))⟩
def yFc:zE:=sp [sO 6 0,sI 7] [oA .i]
def vE4 (f:qJr)(d:yXz.den):=(vK (f d.1.2.2.1.1) d.2.1) d.2.2.1 d.2.2.2.1
def RO:zT:=⟨[yXz],[(.ret,yFc)],(Int×AC),fun k d=>vE4 (K8 k k) d,fun b x _ K=>K .ret (zN b yFc (((),(x.1,()),()),(x.2,())))⟩
def RP:zW:=⟨[],[(3,RN),(12,qO9),(7,RO)],[],false⟩
theorem vK7:zS prog 1000 0 55 (zQ (zR f249) 0) RN:=lp (A:=RP) RN (fun d=>(d.1.2.2.1.1,(wB d.2.1 (d.2.2.1,d.2.2.2.1)))) yCy BV Gp (e4 CP MB Ih MG) zF
theorem vLi:zS prog 1000 0 55 (zQ (zQ (zR f249) 1) 0) qO9:=lp (A:=RP) qO9 (fun d=>(d.1.2.2.1.1,(wB d.2.1 (d.2.2.1,d.2.2.2.1)))) yU4 Gq Gr (e4 CP MB Ih MG) zF
theorem vJ6:zS prog 1000 0 55 (zQ (zR f249) 1) RO:=lp (A:=RP) RO (fun d=>(d.1.2.1.1,d.2.1)) vE4 K8 Gs (e4 CP MB Ih MG) (loops1 vLi)
def vTs:=zI 249 [.agg eK,.c (.dat false zG),.c .i] (.tup [(false,[.own .i]),(false,yW)]) (fun k d=>(kt (P0 k) d)) (fun x=>(x.1,x.2,())) (fun d=>(d.1,d.2.1))
theorem yXp:zD prog vTs:=fA f249 RP (e4 CP MB Ih MG) (nk (n:=2) (by kernel_rfl) fun i hi=>match i,hi with|0,_=>⟨RN,by kernel_rfl,vK7⟩|1,_=>⟨RO,by kernel_rfl,vJ6⟩|i+2,hi=>absurd hi (by omega))
def yWk:zE:=sp [sP 6 0,(7,.c (.dat true zG)),sO 11 1,sO 38 1,sI 39,sI 40] [oB wL,oA zG]
def yPg:zE:=sp [sP 6 0,(7,.c (.dat true zG)),sO 11 1] [oB wL,oA zG]
def yPv (f:qKk)(d:yWk.den):=(vK (f d.1.2.1.1 d.1.2.2.2.2.1.1 d.1.2.2.2.2.2.1.1) d.2.1) d.2.2.1
def qPt:zT:=⟨[yWk],[(.exit 0,yPg)],qOg,fun k d=>yPv (BW k k) d,fun b x _ K=>K (.exit 0) (zN b yPg (((),(x.1,()),(),()),((iJ x ()),x.2.2.2.2.2,())))⟩
def vCt:zW:=⟨[],[(8,qPt)],[],false⟩
theorem abT:zS prog 1000 0 56 (zQ (zR f214) 0) qPt:=lp (A:=vCt) qPt (fun d=>(d.1.2.1.1,(wB d.2.1 d.2.2.1))) yPv BW Gt (e5 yXp CP Ih CQ rC) zF
def vUi:=zI 214 [.agg ll,.c (.dat true zG),.c .i] (.tup [(true,nI),(false,[.fro zG]),(false,[.own zG])]) (fun k d=>(kt (BX k) d)) (fun x=>(oK x ())) (fun d=>(nJ d))
theorem vVc:zD prog vUi:=fA f214 vCt (e5 yXp CP Ih CQ rC) (loops1 abT)
def vJ3:=zI 164 [.agg ll,.c (.dat true zG),.c .i,.c .bool] (.tup [(true,nI),(false,[.fro zG]),(false,[.own zG])]) (fun k d=>(mH (uQ k) d)) (fun x=>(oK x ())) (fun d=>(nJ d))
theorem vN6:zD prog vJ3:=fA f164 ⟨[],[],[],false⟩ (e2 vVz vVc) zF
def yTz:zE:=⟨[sO 3 0,sP 5 1,(8,.c (.dat false zG)),sI 9,sI 10,sO 18 2,sI 19,sI 20],[oA qZ,oB wC,oA .i],[(3,none,qZ,false)]⟩
def yY6:zE:=sp [sO 3 0,(8,.c (.dat false zG)),sI 9,sI 10] [oA qZ]
def vD2 (f:qPm)(d:yTz.den):=(mH (f d.1.2.2.1.1 d.1.2.2.2.1.1 d.1.2.2.2.2.1.1 d.1.2.2.2.2.2.2.1.1 d.1.2.2.2.2.2.2.2.1.1 d.2.1) d.2.2.1) d.2.2.2.1
def qRj:zT:=⟨[yTz],[(.exit 2,yY6)],qN7,fun k d=>vD2 (xR k k) d,fun b x _ K=>K (.exit 2) (zN b yY6 (((),(x.1,()),(x.2.1,()),(x.2.2.1,()),()),(x.2.2.2,())))⟩
def yIa:zE:=⟨[sO 3 0,(8,.c (.dat false zG)),sI 9,sI 10],[oA qZ],[(3,none,qZ,false)]⟩
def yKv:zE:=sp [sO 3 0] [oA qZ]
def ySn (f:qXd)(d:yIa.den):=f d.1.2.1.1 d.1.2.2.1.1 d.1.2.2.2.1.1 d.2.1
def qUc:zT:=⟨[yIa],[(.exit 0,yKv)],qS8,fun k d=>ySn (Lb k k) d,fun b x _ K=>K (.exit 0) (zN b yKv (((),()),(x,())))⟩
def qSv:zW:=⟨[],[(6,qRj),(3,qUc)],[],false⟩
theorem vG1:zS prog 1000 0 41 (zQ (zQ (zR f165) 0) 0) qRj:=lp (A:=qSv) qRj (fun d=>(d.1.2.1.1,d.1.2.2.1.1,d.1.2.2.2.1.1,d.2.1)) vD2 xR xS (e1 zd) zF
theorem vHw:zS prog 1000 0 41 (zQ (zR f165) 0) qUc:=lp (A:=qSv) qUc (fun d=>d.2.1) ySn Lb Gv (e1 zd) (loops1 vG1)
def vN5:=zI 165 [.c (.dat false zG)] (.c (.own qZ)) (fun k d=>P4 k d.1) (fun x=>(x,())) (fun d=>d.1)
theorem vH1:zD prog vN5:=fA f165 qSv (e1 zd) (loops1 vHw)
def vJa:=zI 96 [.agg yx,.c .bool] (.tup [(true,yy),(false,[.own qZ])]) (fun k d=>(MJ (pF k) d)) (fun x=>(Ie x ())) (fun d=>(Ig d))
theorem qUa:zD prog vJa:=fA f96 ⟨[],[],[],false⟩ (e2 vN6 vH1) zF
def yRf:zE:=⟨[sP 2 0,sP 3 1,sP 4 2,sO 6 3,sO 7 4,(27,.c (.dat true zG)),sI 28,sI 29],[oB rA,oB jg,oB jX,oA qZ,oA zG],[(6,none,qZ,false),(7,none,zG,false)]⟩
def yNf:zE:=sp [sP 2 0,sP 3 1,sP 4 2,sO 6 3,sO 7 4] [oB rA,oB jg,oB jX,oA qZ,oA zG]
def ySz (f:qU1)(d:yRf.den):=(tt (lQ (f d.1.2.2.2.2.2.1.1 d.1.2.2.2.2.2.2.1.1 d.1.2.2.2.2.2.2.2.1.1) d.2.1) d.2.2.1) d.2.2.2.1.1 d.2.2.2.1.2.1 d.2.2.2.1.2.2.1 d.2.2.2.2.1 d.2.2.2.2.2.1
def qR8:zT:=⟨[yRf],[(.exit 0,yNf)],qOj,fun k d=>ySz (GC k k) d,fun b x _ K=>K (.exit 0) (zN b yNf (((),(),(),(),(),()),((pO x ()),(vHv x ()),(x.2.2.2.2.2.2.2.2.2.2.2.2.2.2.2.2.1,x.2.2.2.2.2.2.2.2.2.2.2.2.2.2.2.2.2.1,x.2.2.2.2.2.2.2.2.2.2.2.2.2.2.2.2.2.2.1,()),x.2.2.2.2.2.2.2.2.2.2.2.2.2.2.2.2.2.2.2.1,x.2.2.2.2.2.2.2.2.2.2.2.2.2.2.2.2.2.2.2.2,())))⟩
def yIr:zW:=⟨[],[(9,qR8)],[],false⟩
theorem abU:zS prog 1000 0 66 (zQ (zR f95) 0) qR8:=lp (A:=yIr) qR8 (fun d=>(pO d.2.1 (ze d.2.2.1 (d.2.2.2.1.1,d.2.2.2.1.2.1,d.2.2.2.1.2.2.1,d.2.2.2.2.1,d.2.2.2.2.2.1)))) ySz GC GD (e6 RD yHx vC0 zd yRw qUa) zF
def abV:=zI 95 [.agg kp,.agg yx] (.tup [(true,yy),(false,[.own qZ])]) (fun k d=>(yUu (uR k) d)) (fun x=>(Ie x ())) (fun d=>(Ig d))
theorem abW:zD prog abV:=fA f95 yIr (e6 RD yHx vC0 zd yRw qUa) (loops1 abU)
def vP5:=yH 154 [.ptr true yz,.agg MD] (.c .i) [lO] 0 (fun k d=>yVr k (lP d) (yDs d)) (fun x=>(x.1,(jP x.2 ()))) (fun d=>(d.1,(kq d)))
theorem vPu:zD prog vP5:=fX f154 n0 1 (e4 iI yGe yRl Rv) zF
def abX:=yH 155 [.ptr true yz,.agg vR] (.c .i) [lO] 0 (fun k d=>RQ k (lP d) (Ia d)) (fun x=>(x.1,(jP x.2 ()))) (fun d=>(d.1,(kq d)))
theorem vH3:zD prog abX:=fX f155 n0 1 (e8 yQi rC vDm iI qQ5 yV7 ySx yO8) zF
def vIf:=yH 156 [.ptr true yz,.agg vR] (.c .i) [lO] 0 (fun k d=>RR k (lP d) (Ia d)) (fun x=>(x.1,(jP x.2 ()))) (fun d=>(d.1,(kq d)))
theorem vI1:zD prog vIf:=fX f156 n0 1 (e3 pN yRh iI) zF
def vQx:=yH 157 [.ptr true yz,.c (.p .i),.c (.p .i)] (.c .i) [lO] 0 (fun k d=>vD5 k (lP d) d.2.2.2.2.2.2.2.2.2.2.2.2.2.2.2.2.2.2.1 d.2.2.2.2.2.2.2.2.2.2.2.2.2.2.2.2.2.2.2.1) (fun x=>(x.1,(jP x.2 ()))) (fun d=>(d.1,(kq d)))
theorem vLw:zD prog vQx:=fX f157 n0 1 (e6 Ib iI vGi Ic zc pN) zF
def vOy:=yH 158 [.ptr true yz,.c (.p .i),.c (.p .i),.c (.p .i)] (.c .i) [lO] 0 (fun k d=>B9 k (lP d) d.2.2.2.2.2.2.2.2.2.2.2.2.2.2.2.2.2.2.1 d.2.2.2.2.2.2.2.2.2.2.2.2.2.2.2.2.2.2.2.1 d.2.2.2.2.2.2.2.2.2.2.2.2.2.2.2.2.2.2.2.2.1) (fun x=>(x.1,(jP x.2 ()))) (fun d=>(d.1,(kq d)))
theorem abY:zD prog vOy:=fX f158 n0 1 (e5 iI yC6 yM1 vF9 pN) zF
def vF1:zE:=sp [sP 0 0,sO 7 1,sP 8 2,(40,.c (.dat true (.sl .i))),sI 41,sI 42] [oB qK6,oA .i,oB tu,oA qS,.mat,oA .i,.mat]
def vAz:zE:=sp [sP 0 0,sO 7 1,sP 8 2] [oB qK6,oA .i,oB tu,oA qS,.mat,oA .i,.mat]
def yKp:zE:=sp [sP 0 0,sI 6] [oB qK6]
def yNl (f:qPo)(d:vF1.den):=f d.1.2.2.2.1.1 d.1.2.2.2.2.1.1 d.1.2.2.2.2.2.1.1 (lP d.2.1) d.2.2.1 d.2.2.2.2.1 d.2.2.2.2.2.1 d.2.2.2.2.2.2.1 d.2.2.2.2.2.2.2.1
def qOl:zT:=⟨[vF1],[(.exit 0,vAz),(.ret,yKp)],qYo,fun k d=>yNl (uZ k k) d,fun b x _ K=>match x with|.inl x=>K (.exit 0) (zN b vAz (((),(),(),()),((vU x.1 ()),x.2.1,(),x.2.2.1,x.2.2.2.1,x.2.2.2.2.1,x.2.2.2.2.2,())))|.inr x=>K .ret (zN b yKp (((),(x.1,()),()),((vU x.2 ()),())))⟩
def yPd:zW:=⟨[],[(6,qOl)],[],true⟩
theorem vV1:zS prog 1000 1 81 (zQ (zR f159) 0) qOl:=lp (A:=yPd) qOl (fun d=>match d with|.inl d=>.inl ((lP d.2.1),d.2.2.1,d.2.2.2.2.1,d.2.2.2.2.2.1,d.2.2.2.2.2.2.1,d.2.2.2.2.2.2.2.1)|.inr d=>.inr (d.1.2.1.1,(lP d.2.1))) yNl uZ G2 (e5 Ib iI Ic pN zc) zF
def vQz:=yH 159 [.ptr true yz,.c (.p .i),.c (.p .i)] (.c .i) [lO] 0 (fun k d=>Qv k (lP d) d.2.2.2.2.2.2.2.2.2.2.2.2.2.2.2.2.2.2.1 d.2.2.2.2.2.2.2.2.2.2.2.2.2.2.2.2.2.2.2.1) (fun x=>(x.1,(jP x.2 ()))) (fun d=>(d.1,(kq d)))
theorem vPt:zD prog vQz:=fX f159 yPd 1 (e5 Ib iI Ic pN zc) (loops1 vV1)
def abZ:=yH 94 [.ptr true yz,.agg vR] (.c .i) [lO] 0 (fun k d=>yl k (lP d) (Ia d)) (fun x=>(x.1,(jP x.2 ()))) (fun d=>(d.1,(kq d)))
theorem vMt:zD prog abZ:=fX f94 n0 1 (e6 vPu vH3 vI1 vLw abY vPt) zF
def vIh:=zI 40 [.agg MK,.agg yx,.agg CO] (.tup [(true,yy),(false,[.own qZ]),(false,yW)]) (fun k d=>ig k (yR d) (rz d) (qZu d)) (fun x=>(vT x.1 (x.2.1,x.2.2,()))) (fun d=>((qQ d),d.2.2.2.2.2.2.2.2.2.2.2.1,d.2.2.2.2.2.2.2.2.2.2.2.2.1))
theorem qTh:zD prog vIh:=fA f40 n0 (e9 vKi aaP vDm abn abW qUa za yG5 vMt) zF
def ab0:=yH 41 [.chn [qX4,lN],.c (.p (.dat false (.int .u8)))] (.c .i) [[.link 1,.i,.i,.i,.bool],jh] 0 (fun k d=>vk k (Ii d) (RT d) d.2.2.2.2.2.2.2.2.2.2.2.2.2.2.2.1) (fun x=>(x.1,(),(fq x.2.1 (iH x.2.2 ())))) (fun d=>(d.1,(qZo d),(yA4 d)))
theorem RU:zD prog ab0:=fX f41 n0 0 (e1 yJ3) zF
def vYv:=zI 140 [.c .i] (.c .bool) (fun k d=>Zz k d.1) (fun x=>(x,())) (fun d=>d.1)
theorem vAe:zD prog vYv:=fA f140 n0 (e1 iI) zF
def ySh:zE:=sp [(0,.c (.dat false .i)),(1,.c (.lit (.fn 140 []))),sI 7,sI 8] []
def yK5 (f:qY7)(d:ySh.den):=f d.1.1.1 d.1.2.2.1.1 d.1.2.2.2.1.1
def qYb:zT:=⟨[ySh],[(.exit 0,yV1),(.ret,vC4)],(Unit⊕Int),fun k d=>yK5 (Cu k k) d,fun b x _ K=>match x with|.inl x=>K (.exit 0) (zN b yV1 ((),()))|.inr x=>K .ret (zN b vC4 (((x,()),()),()))⟩
def vBk:zW:=⟨[],[(2,qYb)],[],false⟩
theorem vNu:zS prog 1000 0 19 (zQ (zR f189) 0) qYb:=lp (A:=vBk) qYb (fun d=>match d with|.inl d=>.inl ()|.inr d=>.inr d.1.1.1) yK5 Cu HB (e1 vAe) zF
def vP1:=zI 189 [.c (.dat false .i),.c (.fn 140)] (.c .i) (fun k d=>ZA k d.1) (fun x=>(x,())) (fun d=>d.1)
theorem ab1:zD prog vP1:=fA f189 vBk (e1 vAe) (loops1 vNu)
def vLr:=zI 139 [.c (.dat false .i),.c (.fn 140)] (.c .bool) (fun k d=>L4 k d.1) (fun x=>(x,())) (fun d=>d.1)
theorem yRq:zD prog vLr:=fA f139 ⟨[],[],[],false⟩ (e1 ab1) zF
def vUq:=zI 142 [.c .i] (.c .bool) (fun k d=>ZC k d.1) (fun x=>(x,())) (fun d=>d.1)
theorem yVq:zD prog vUq:=fA f142 n0 e0 zF
def yS4:zE:=sp [(0,.c (.dat false .i)),(1,.c (.lit (.fn 142 []))),sI 7,sI 8] []
def yP5 (f:qY7)(d:yS4.den):=f d.1.1.1 d.1.2.2.1.1 d.1.2.2.2.1.1
def qZx:zT:=⟨[yS4],[(.exit 0,yV1),(.ret,vC4)],(Unit⊕Int),fun k d=>yP5 (Cv k k) d,fun b x _ K=>match x with|.inl x=>K (.exit 0) (zN b yV1 ((),()))|.inr x=>K .ret (zN b vC4 (((x,()),()),()))⟩
def yRx:zW:=⟨[],[(2,qZx)],[],false⟩
theorem vV4:zS prog 1000 0 19 (zQ (zR f189) 0) qZx:=lp (A:=yRx) qZx (fun d=>match d with|.inl d=>.inl ()|.inr d=>.inr d.1.1.1) yP5 Cv HC (e1 yVq) zF
def vJg:=zI 189 [.c (.dat false .i),.c (.fn 142)] (.c .i) (fun k d=>ZD k d.1) (fun x=>(x,())) (fun d=>d.1)
theorem vOt:zD prog vJg:=fA f189 yRx (e1 yVq) (loops1 vV4)
def vZo:=zI 139 [.c (.dat false .i),.c (.fn 142)] (.c .bool) (fun k d=>QS k d.1) (fun x=>(x,())) (fun d=>d.1)
theorem yYi:zD prog vZo:=fA f139 ⟨[],[],[],false⟩ (e1 vOt) zF
def yWo:zE:=sp [sP 2 0,sP 3 1,(28,.c (.dat false (.sl .i))),sI 29,sI 30] [oB rA,oB zh]
def yFh:zE:=sp [(4,.c .bool)] []
def vBp (f:qS4)(d:yWo.den):=f d.1.2.2.1.1 d.1.2.2.2.1.1 d.1.2.2.2.2.1.1 (yR d.2.1) (qQ d.2.2.1)
def qRz:zT:=⟨[yWo],[(.exit 0,yV1),(.ret,yFh)],(Unit⊕Bool),fun k d=>vBp (ym k k) d,fun b x _ K=>match x with|.inl x=>K (.exit 0) (zN b yV1 ((),()))|.inr x=>K .ret (zN b yFh (((x,()),()),()))⟩
def yPl:zW:=⟨[],[(6,qRz)],[],true⟩
theorem vZq:zS prog 1000 0 66 (zQ (zR f86) 0) qRz:=lp (A:=yPl) qRz (fun d=>match d with|.inl d=>.inl ()|.inr d=>.inr d.1.1.1) vBp ym HD (e3 yRq zc yYi) zF
def ab2:=zI 86 [.agg kp,.agg pM] (.c .bool) (fun k d=>L5 k (yR d) (rz d)) (fun x=>(x,())) (fun d=>d.1)
theorem yE2:zD prog ab2:=fA f86 yPl (e3 yRq zc yYi) (loops1 vZq)
def vEq:zE:=sp [(0,.c (.dat false zG)),(1,.c (.lit (.fn 193 []))),sI 5] []
def yQ0 (f:qJ9)(d:vEq.den):=f d.1.1.1 d.1.2.2.1.1
def qWa:zT:=⟨[vEq],[(.exit 0,yV1),(.ret,yFh)],(Unit⊕Bool),fun k d=>yQ0 (LV k k) d,fun b x _ K=>match x with|.inl x=>K (.exit 0) (zN b yV1 ((),()))|.inr x=>K .ret (zN b yFh (((x,()),()),()))⟩
def yFf:zW:=⟨[],[(2,qWa)],[],true⟩
theorem vS6:zS prog 1000 0 25 (zQ (zR f192) 0) qWa:=lp (A:=yFf) qWa (fun d=>match d with|.inl d=>.inl ()|.inr d=>.inr d.1.1.1) yQ0 LV QP (e1 H9) zF
def vTi:=zI 192 [.c (.dat false zG),.c (.fn 193)] (.c .bool) (fun k d=>QO k d.1) (fun x=>(x,())) (fun d=>d.1)
theorem yM4:zD prog vTi:=fA f192 yFf (e1 H9) (loops1 vS6)
def yE0:zE:=sp [(0,.c (.dat false zG)),(5,.c (.dat false zG)),sI 6,sI 7] []
def yL0:zE:=sp [(0,.c (.dat false zG))] []
def yHy (f:qVs)(d:yE0.den):=f d.1.1.1 d.1.2.1.1 d.1.2.2.1.1 d.1.2.2.2.1.1
def qJ5:zT:=⟨[yE0],[(.exit 0,yL0),(.ret,yRz)],qQ3,fun k d=>yHy (Cr k k) d,fun b x _ K=>match x with|.inl x=>K (.exit 0) (zN b yL0 (((x,()),()),()))|.inr x=>K .ret (zN b yRz (((x,()),()),()))⟩
def yEx:zW:=⟨[],[(2,qJ5)],[],false⟩
theorem vJj:zS prog 1000 0 26 (zQ (zR f146) 0) qJ5:=lp (A:=yEx) qJ5 (fun d=>match d with|.inl d=>.inl d.1.1.1|.inr d=>.inr d.1.1.1) yHy Cr Hy (e2 za yM4) zF
def vIy:=zI 146 [.c (.dat false zG)] (.c .bool) (fun k d=>LU k d.1) (fun x=>(x,())) (fun d=>d.1)
theorem ab3:zD prog vIy:=fA f146 yEx (e2 za yM4) (loops1 vJj)
def ySj:zE:=sp [(0,.c (.dat false .i)),sI 3,(6,.c (.dat false .i)),sI 7,sI 8] []
def yMy:zE:=sp [(0,.c (.dat false .i))] []
def yWl (f:qVk)(d:ySj.den):=f d.1.1.1 d.1.2.1.1 d.1.2.2.1.1 d.1.2.2.2.1.1 d.1.2.2.2.2.1.1
def qQm:zT:=⟨[ySj],[(.exit 0,yMy),(.ret,yRz)],(AC⊕Bool),fun k d=>yWl (LX k k) d,fun b x _ K=>match x with|.inl x=>K (.exit 0) (zN b yMy (((x,()),()),()))|.inr x=>K .ret (zN b yRz (((x,()),()),()))⟩
def yUr:zW:=⟨[],[(3,qQm)],[],true⟩
theorem ab4:zS prog 1000 0 20 (zQ (zR f147) 0) qQm:=lp (A:=yUr) qQm (fun d=>match d with|.inl d=>.inl d.1.1.1|.inr d=>.inr d.1.1.1) yWl LX Hz e0 zF
def vTz:=zI 147 [.c (.dat false .i)] (.c .bool) (fun k d=>LW k d.1) (fun x=>(x,())) (fun d=>d.1)
theorem ab5:zD prog vTz:=fA f147 yUr e0 (loops1 ab4)
def ab6:=zI 145 [.c (.dat false .i),.c .i] (.c .bool) (fun k d=>PJ k d.1 d.2.1) (fun x=>(x,())) (fun d=>d.1)
theorem ab7:zD prog ab6:=fA f145 n0 (e1 yWm) zF
def vXw:=zI 143 [.agg vR,.ptr pM] (.c .bool) (fun k d=>QR k (vY d) (ab8 d)) (fun x=>(x,())) (fun d=>d.1)
theorem yXt:zD prog vXw:=fA f143 n0 (e3 qV6 iI ab7) zF
def yH0:zE:=sp [(0,.c (.dat false zG)),(1,.c (.lit (.fn 143 [1001000]))),sI 7,sI 8] [.robox zh]
def yVu (f:yAh)(d:yH0.den):=(tt (f d.1.1.1 d.1.2.2.1.1 d.1.2.2.2.1.1) d.2.1)
def qL6:zT:=⟨[yH0],[(.exit 0,yV1),(.ret,vC4)],(Unit⊕Int),fun k d=>yVu (Ct k k) d,fun b x _ K=>match x with|.inl x=>K (.exit 0) (zN b yV1 ((),()))|.inr x=>K .ret (zN b vC4 (((x,()),()),()))⟩
def yMk:zW:=⟨[],[(2,qL6)],[],false⟩
theorem vUm:zS prog 1000 0 19 (zQ (zR f166) 0) qL6:=lp (A:=yMk) qL6 (fun d=>match d with|.inl d=>.inl ()|.inr d=>.inr d.1.1.1) yVu Ct HA (e1 yXt) zF
def vZj:=zI 166 [.c (.dat false zG),.fn 143 [pM]] (.c .i) (fun k d=>(MJ (Zy k) d)) (fun x=>(x,())) (fun d=>d.1)
theorem vYh:zD prog vZj:=fA f166 yMk (e1 yXt) (loops1 vUm)
def vUg:=zI 148 [.c (.dat false zG),.fn 143 [pM]] (.c .bool) (fun k d=>(MJ (QQ k) d)) (fun x=>(x,())) (fun d=>d.1)
theorem vHd:zD prog vUg:=fA f148 ⟨[],[],[],false⟩ (e1 vYh) zF
def ab9:=zI 87 [.agg pM] (.c .bool) (fun k d=>LY k (qQ d)) (fun x=>(x,())) (fun d=>d.1)
theorem vDs:zD prog ab9:=fA f87 n0 (e3 ab3 ab5 vHd) zF
def yFx:zE:=⟨[sP 2 0,sP 3 1,sO 5 2,(44,.c (.dat false qS)),sI 45,sI 46],[oB rA,oB zh,oA .i],[(5,none,.i,false)]⟩
def vEy:zE:=sp [sP 2 0,sP 3 1,sO 5 2] [oB rA,oB zh,oA .i]
def vBu (f:qM0)(d:yFx.den):=f d.1.2.2.2.1.1 d.1.2.2.2.2.1.1 d.1.2.2.2.2.2.1.1 (yR d.2.1) (qQ d.2.2.1) d.2.2.2.1
def yB8:zT:=⟨[yFx],[(.exit 0,vEy)],yAm,fun k d=>vBu (HE k k) d,fun b x _ K=>K (.exit 0) (zN b vEy (((),(),(),()),((jG x.1 ()),(vT x.2.1 ()),x.2.2,())))⟩
def vFj:zW:=⟨[],[(5,yB8)],[],true⟩
theorem vZe:zS prog 1000 0 92 (zQ (zR f38) 0) yB8:=lp (A:=vFj) yB8 (fun d=>((yR d.2.1),(qQ d.2.2.1),d.2.2.2.1)) vBu HE HF (e6 iI RI yE2 vDs RA RD) zF
def vWu:=zI 38 [.agg kp,.agg pM] (.c .bool) (fun k d=>L6 k (yR d) (rz d)) (fun x=>(x,())) (fun d=>d.1)
theorem yE1:zD prog vWu:=fA f38 vFj (e6 iI RI yE2 vDs RA RD) (loops1 vZe)
def yV9:zE:=⟨[sP 1 0,sI 2,sP 3 3,(12,.c .bool),sP 13 4,sP 17 5,(72,.c (.dat true (.sl (.int .u8)))),sI 73,sI 74],[oB vFe,oA (.int .u8),oA (.int .u8),oB Ij,oB [.lit (.ptr 1001000 0),.i,.i,.i,.bool],oB jg],[(17,some 1,.bool,true),(17,some 2,.bool,true),(17,some 3,.bool,true),(17,some 4,.bool,true),(17,some 5,.bool,true),(17,some 6,.bool,true),(17,some 7,.bool,true),(17,some 8,.bool,true)]⟩
def yTp:zE:=sp [sP 1 0,sI 2,sP 3 3,(12,.c .bool),sP 13 4,sP 17 5] [oB vFe,oA (.int .u8),oA (.int .u8),oB Ij,oB [.lit (.ptr 1001000 0),.i,.i,.i,.bool],oB jg]
def yYq (f:qJn)(d:yV9.den):=f d.1.2.1.1 d.1.2.2.2.1.1 d.1.2.2.2.2.2.2.1.1 d.1.2.2.2.2.2.2.2.1.1 d.1.2.2.2.2.2.2.2.2.1.1 (lM d.2.1) d.2.2.1 d.2.2.2.1 (yR d.2.2.2.2.1) (wS d.2.2.2.2.2.1) (qQ d.2.2.2.2.2.2.1)
def qTw:zT:=⟨[yV9],[(.exit 0,yTp)],qX1,fun k d=>yYq (yq k k) d,fun b x _ K=>K (.exit 0) (zN b yTp (((),(x.1,()),(),(x.2.1,()),(),(),()),((CN x.2.2.1 ()),x.2.2.2.1,x.2.2.2.2.1,(jG x.2.2.2.2.2.1 ()),(fq x.2.2.2.2.2.2.1 ()),(vT x.2.2.2.2.2.2.2 ()),())))⟩
def vB8:zW:=⟨[],[(11,qTw)],[],true⟩
theorem aca:zS prog 1000 2 112 (zQ (zR f10) 0) qTw:=lp (A:=vB8) qTw (fun d=>(d.1.2.1.1,d.1.2.2.2.1.1,(lM d.2.1),d.2.2.1,d.2.2.2.1,(yR d.2.2.2.2.1),(wS d.2.2.2.2.2.1),(qQ d.2.2.2.2.2.2.1))) yYq yq yr (e10 F7q qYw vGp CM yNo yUh yZu qTh RU yE1) zF
def qWk:=V8 10 [.agg MK,.ptr true lN,.c (.p .i)] (.tup [(false,[.link 1]),(false,yW)]) [jh,[.link 2,.i,.fro jC,.i,.i,.i,.i,.fro qS,.fro (.sl .i),.fro .i,.fro (.sl .i),.fro .i,.fro (.sl .i),.fro zG,.fro .i,.i,.bool,.i,.bool],[.link 0,.i,.i,.i,.bool]] 2 (.tup [(false,[.nilp]),(false,yW)]) [jh] 0 (fun k d=>fB k (yR d) (RT d) d.2.2.2.2.2.2.2.2.2.2.2.2.2.2.2.1) (fun x=>((),x.1,(iH x.2.1 ((),(jP x.2.2.1 ((),(fq x.2.2.2 ()))))))) (fun x=>((),x.1,(iH x.2 ()))) (fun d=>(d.2.1,(yH9 d),(vVv d),(vZk d))) (fun d=>(d.2.1,(yH9 d)))
theorem qNb:zD prog qWk:=fN f10 vB8 2 (e10 F7q qYw vGp CM yNo yUh yZu qTh RU yE1) (loops1 aca)
def yJ9:zE:=sp [sI 0,sI 1,sO 5 0,sI 6] [oA .i]
def yNm (f:qNw)(d:yJ9.den):=f d.1.1.1 d.1.2.1.1 d.1.2.2.2.1.1 d.2.1
def qT1:zT:=⟨[yJ9],[(.exit 0,yN0)],AC,fun k d=>yNm (RV k k) d,fun b x _ K=>K (.exit 0) (zN b yN0 (((),()),(x,())))⟩
def yZv:zW:=⟨[],[(5,qT1)],[],false⟩
theorem acb:zS prog 1000 0 25 (zQ (zR f43) 0) qT1:=lp (A:=yZv) qT1 (fun d=>d.2.1) yNm RV yWj e0 zF
def vVa:=zI 43 [.c .i,.c .i] (.c (.own .i)) (fun k d=>qSl k d.1 d.2.1) (fun x=>(x,())) (fun d=>d.1)
theorem ML:zD prog vVa:=fA f43 yZv e0 (loops1 acb)
def yWg:zE:=⟨[sI 0,sI 1,sO 5 0,sI 6],[.mat],[(5,none,(.sl .i),true)]⟩
def vD1 (f:qJl)(d:yWg.den):=f d.1.1.1 d.1.2.1.1 d.1.2.2.2.1.1 d.2.1
def qWs:zT:=⟨[yWg],[(.exit 0,yU5)],EQ,fun k d=>vD1 (RW k k) d,fun b x _ K=>K (.exit 0) (zN b yU5 (((),()),(x,())))⟩
def vFl:zW:=⟨[22,23],[(5,qWs)],[],false⟩
theorem vPf:zS prog 1000 0 25 (zQ (zR f42) 0) qWs:=lp (A:=vFl) qWs (fun d=>d.2.1) vD1 RW yLo (e1 ML) zF
def vQ9:=zI 42 [.c .i,.c .i] (.c (.mat)) (fun k d=>qWe k d.1 d.2.1) (fun x=>(x,())) (fun d=>d.1)
theorem qOm:zD prog vQ9:=fA f42 vFl (e1 ML) (loops1 vPf)
def vE1:zE:=⟨[sP 1 0,sP 2 1,sI 3,sP 4 2,sI 5],[oB rA,oB jX,oB Rg,oA qS,.mat,oA .i,.mat,oA .i],[(4,some 5,.i,false)]⟩
def yJw (f:qUq)(d:vE1.den):=f d.1.2.2.1.1 d.1.2.2.2.2.1.1 (yR d.2.1) (d.2.2.1.1,d.2.2.1.2.1,d.2.2.1.2.2.1) (d.2.2.2.1.1,d.2.2.2.1.2.1,d.2.2.2.1.2.2.1) d.2.2.2.2.1 d.2.2.2.2.2.1 d.2.2.2.2.2.2.1 d.2.2.2.2.2.2.2.1 d.2.2.2.2.2.2.2.2.1
def RX:zT:=⟨[vE1],[(.exit 0,yEt)],qO2,fun k d=>yJw (qLu k k) d,fun b x _ K=>K (.exit 0) (zN b yEt (((),(),(x.1,()),(),()),((jG x.2.1 ()),(x.2.2.1.1,x.2.2.1.2.1,x.2.2.1.2.2,()),(x.2.2.2.1.1,x.2.2.2.1.2.1,x.2.2.2.1.2.2,()),x.2.2.2.2.1,x.2.2.2.2.2.1,x.2.2.2.2.2.2.1,x.2.2.2.2.2.2.2.1,x.2.2.2.2.2.2.2.2,())))⟩
def vD7:zE:=⟨[sP 1 0,sP 2 1,sI 3,sP 4 2,sI 6],[oB rA,oB jX,oB yOy,oA qS,.mat,oA .i,.mat,oA .i,.mat],[(4,some 6,(.sl .i),true)]⟩
def yN1 (f:qQg)(d:vD7.den):=f d.1.2.2.1.1 d.1.2.2.2.2.1.1 (yR d.2.1) (d.2.2.1.1,d.2.2.1.2.1,d.2.2.1.2.2.1) (d.2.2.2.1.1,d.2.2.2.1.2.1,d.2.2.2.1.2.2.1) d.2.2.2.2.1 d.2.2.2.2.2.1 d.2.2.2.2.2.2.1 d.2.2.2.2.2.2.2.1 d.2.2.2.2.2.2.2.2.1 d.2.2.2.2.2.2.2.2.2.1
def RY:zT:=⟨[vD7],[(.exit 2,yLl)],yAl,fun k d=>yN1 (qNz k k) d,fun b x _ K=>K (.exit 2) (zN b yLl (((),(),()),((x.1.1,x.1.2.1,x.1.2.2,()),(x.2.1.1,x.2.1.2.1,x.2.1.2.2,()),x.2.2.1,x.2.2.2.1,x.2.2.2.2.1,x.2.2.2.2.2.1,x.2.2.2.2.2.2.1,x.2.2.2.2.2.2.2,())))⟩
def qU4:zW:=⟨[48,49],[(4,RX),(8,RY)],[],true⟩
theorem vWc:zS prog 1000 0 52 (zQ (zR f11) 0) RX:=lp (A:=qU4) RX (fun d=>(d.1.2.2.1.1,(yR d.2.1),(d.2.2.1.1,d.2.2.1.2.1,d.2.2.1.2.2.1),(d.2.2.2.1.1,d.2.2.2.1.2.1,d.2.2.2.1.2.2.1),d.2.2.2.2.1,d.2.2.2.2.2.1,d.2.2.2.2.2.2.1,d.2.2.2.2.2.2.2.1,d.2.2.2.2.2.2.2.2.1)) yJw qLu vC5 (e2 qOm ML) zF
theorem vHs:zS prog 1000 0 52 (zQ (zR f11) 1) RY:=lp (A:=qU4) RY (fun d=>((d.2.1.1,d.2.1.2.1,d.2.1.2.2.1),(d.2.2.1.1,d.2.2.1.2.1,d.2.2.1.2.2.1),d.2.2.2.1,d.2.2.2.2.1,d.2.2.2.2.2.1,d.2.2.2.2.2.2.1,d.2.2.2.2.2.2.2.1,d.2.2.2.2.2.2.2.2.1)) yN1 qNz yG6 (e2 qOm ML) zF
def qPn:=zI 11 [.agg kp] (.agg qKw) (fun k d=>qTy k (yR d)) (fun x=>(vT x ())) (fun d=>(qQ d))
theorem vGt:zD prog qPn:=fA f11 qU4 (e2 qOm ML) (nk (n:=2) (by kernel_rfl) fun i hi=>match i,hi with|0,_=>⟨RX,by kernel_rfl,vWc⟩|1,_=>⟨RY,by kernel_rfl,vHs⟩|i+2,hi=>absurd hi (by omega))
def qSu:=yH 12 [.ptr true lN,.agg [.i,.i]] (.tup []) [jh] 0 (fun k d=>RZ k (fU d) (d.2.2.2.2.2.2.2.2.2.2.1,d.2.2.2.2.2.2.2.2.2.2.2.1)) (fun x=>(iH x ())) (fun d=>(fU d))
theorem qVr:zD prog qSu:=fX f12 n0 1 e0 zF
def qNj:=yH 16 [.chn [R0,R1,lN]] (.c .bool) [R2,R3,jh] 0 (fun k d=>lk k (kq d) (R4 d) (R5 d)) (fun x=>(x.1,(),(jP x.2.1 ((),(fq x.2.2.1 (iH x.2.2.2 ())))))) (fun d=>(d.1,(qP3 d),(qSs d),(qM3 d)))
theorem Rb:zD prog qNj:=fX f16 n0 0 e0 zF
def vYg:=zI 45 [.c .i,.c .i] (.c (.own qZ)) (fun k d=>MM k d.1 d.2.1) (fun x=>(x,())) (fun d=>d.1)
theorem vGh:zD prog vYg:=fA f45 n0 e0 zF
def vWx:=zI 100 [.agg vR] (.c (.own (.int .u8))) (fun k d=>YA k (vY d)) (fun x=>(x,())) (fun d=>d.1)
theorem vUv:zD prog vWx:=fA f100 ⟨[1],[],[],true⟩ (e3 vD9 Rq Rj) zF
def acd:=zI 47 [.agg CO] (.c (.own (.int .u8))) (fun k d=>Qd k (lM d)) (fun x=>(x,())) (fun d=>d.1)
theorem vP3:zD prog acd:=fA f47 n0 (e2 vUv Rj) zF
def vMd:=yH 99 [.chn [qX4,lN],.c (.p (.dat false (.int .u8)))] (.c .i) [[.link 1,.i,.i,.i,.bool],jh] 0 (fun k d=>Md k (Ii d) (RT d) d.2.2.2.2.2.2.2.2.2.2.2.2.2.2.2.1) (fun x=>(x.1,(),(fq x.2.1 (iH x.2.2 ())))) (fun d=>(d.1,(qZo d),(yA4 d)))
theorem vXx:zD prog vMd:=fX f99 n0 0 (e3 yX2 vBz yEy) zF
def vUu:=yH 46 [.chn [R0,R1,lN],.c (.p (.dat false (.int .u8)))] (.c .i) [R2,R3,jh] 0 (fun k d=>Q1 k (kq d) (R4 d) (R5 d) d.2.2.2.2.2.2.2.2.2.2.2.2.2.2.2.2.2.2.2.2.2.2.2.2.2.2.2.2.2.2.2.2.2.2.1) (fun x=>(x.1,(),(jP x.2.1 ((),(fq x.2.2.1 (iH x.2.2.2 ())))))) (fun d=>(d.1,(qP3 d),(qSs d),(qM3 d)))
theorem vRc:zD prog vUu:=fX f46 n0 0 (e3 vXx CM RU) zF
def ace:=yH 48 [.chn [qX4,lN]] (.c .i) [[.link 1,.i,.i,.i,.bool],jh] 0 (fun k d=>Q2 k (Ii d) (RT d)) (fun x=>(x.1,(),(fq x.2.1 (iH x.2.2 ())))) (fun d=>(d.1,(qZo d),(yA4 d)))
theorem acf:zD prog ace:=fX f48 n0 0 e0 zF
def qS5:=yH 13 [.chn [R0,R1,lN],.c (.p .i),.c (.p (.dat false (.int .u8)))] (.c (.own qZ)) [R2,R3,jh] 0 (fun k d=>Mn k (kq d) (R4 d) (R5 d) d.2.2.2.2.2.2.2.2.2.2.2.2.2.2.2.2.2.2.2.2.2.2.2.2.2.2.2.2.2.2.2.2.2.2.1 d.2.2.2.2.2.2.2.2.2.2.2.2.2.2.2.2.2.2.2.2.2.2.2.2.2.2.2.2.2.2.2.2.2.2.2.1) (fun x=>(x.1,(),(jP x.2.1 ((),(fq x.2.2.1 (iH x.2.2.2 ())))))) (fun d=>(d.1,(qP3 d),(qSs d),(qM3 d)))
theorem qZz:zD prog qS5:=fX f13 n0 0 (e9 Rb MA vGh qTh vP3 vRc acf CM RU) zF
def yHz:zE:=sp [(0,.c (.dat false (.int .u8))),(3,.c (.int .u64)),sI 4] []
def vDe:zE:=sp [(3,.c (.int .u64))] []
def yZb (f:AC→Int→Int→Option Int)(d:yHz.den):=f d.1.1.1 d.1.2.1.1 d.1.2.2.1.1
def qOi:zT:=⟨[yHz],[(.exit 0,vDe)],Int,fun k d=>yZb (JO k k) d,fun b x _ K=>K (.exit 0) (zN b vDe (((x,()),()),()))⟩
def yJd:zW:=⟨[],[(3,qOi)],[],true⟩
theorem vQv:zS prog 1000 0 19 (zQ (zR f102) 0) qOi:=lp (A:=yJd) qOi (fun d=>d.1.1.1) yZb JO OB e0 zF
def vQr:=zI 102 [.c (.dat false (.int .u8))] (.c .i) (fun k d=>JN k d.1) (fun x=>(x,())) (fun d=>d.1)
theorem qOp:zD prog vQr:=fA f102 yJd e0 (loops1 vQv)
def yCx:zE:=⟨[(0,.c (.dat false (.int .u8))),sO 4 0,sI 5],[oA .i],[(4,none,.i,false)]⟩
def yXx (f:qNd)(d:yCx.den):=f d.1.1.1 d.1.2.2.1.1 d.2.1
def qY2:zT:=⟨[yCx],[(.exit 0,yY3)],AC,fun k d=>yXx (Br k k) d,fun b x _ K=>K (.exit 0) (zN b yY3 (((),()),(x,())))⟩
def yNd:zW:=⟨[],[(5,qY2)],[],true⟩
theorem vLb:zS prog 1000 0 26 (zQ (zR f49) 0) qY2:=lp (A:=yNd) qY2 (fun d=>d.2.1) yXx Br Ew (e1 qOp) zF
def vPw:=zI 49 [.c (.dat false (.int .u8))] (.tup [(false,[.own .i]),(false,yW)]) (fun k d=>JP k d.1) (fun x=>(x.1,x.2,())) (fun d=>(d.1,d.2.1))
theorem qJ8:zD prog vPw:=fA f49 yNd (e1 qOp) (loops1 vLb)
def vJz:=zI 50 [.c .i] (.c .i) (fun k d=>Bt k d.1) (fun x=>(x,())) (fun d=>d.1)
theorem MN:zD prog vJz:=fA f50 n0 e0 zF
def vC7:zE:=sp [sP 2 0,sP 4 1,sO 5 2,sI 7] [oB wC,oB wC,oA .i]
def yYt:zE:=sp [sP 2 0,sP 4 1] [oB wC,oB wC]
def yJ7 (f:qJp)(d:vC7.den):=f d.1.2.2.2.1.1 (vY d.2.1) (vY d.2.2.1) d.2.2.2.1
def qTa:zT:=⟨[vC7],[(.exit 0,yYt)],yA7,fun k d=>yJ7 (OF k k) d,fun b x _ K=>K (.exit 0) (zN b yYt (((),(),()),((gl x.1 ()),(gl x.2 ()),())))⟩
def yIy:zW:=⟨[],[(8,qTa)],[],true⟩
theorem vM1:zS prog 1000 0 48 (zQ (zR f14) 0) qTa:=lp (A:=yIy) qTa (fun d=>((vY d.2.1),(vY d.2.2.1))) yJ7 OF yG4 (e2 qJ8 MN) zF
def qKg:=zI 14 [.c (.dat false (.int .u8))] (.tup [(true,pL),(false,yW)]) (fun k d=>JQ k d.1) (fun x=>(gl x.1 (x.2,()))) (fun d=>((vY d),d.2.2.2.2.2.2.2.1))
theorem vPm:zD prog qKg:=fA f14 yIy (e2 qJ8 MN) (loops1 vM1)
def vIs:=zI 103 [.c .i] (.c .bool) (fun k d=>QL k d.1) (fun x=>(x,())) (fun d=>d.1)
theorem vIt:zD prog vIs:=fA f103 n0 e0 zF
def vCm:zE:=sp [sP 1 0,sI 3,sI 4] [oB wC]
def yMt (f:qVm)(d:vCm.den):=f d.1.2.1.1 d.1.2.2.1.1 (vY d.2.1)
def qPx:zT:=⟨[vCm],[(.exit 0,yD6),(.ret,yRz)],(Int⊕Bool),fun k d=>yMt (Hs k k) d,fun b x _ K=>match x with|.inl x=>K (.exit 0) (zN b yD6 (((x,()),()),()))|.inr x=>K .ret (zN b yRz (((x,()),()),()))⟩
def yR3:zW:=⟨[],[(3,qPx)],[],true⟩
theorem vNv:zS prog 1000 0 21 (zQ (zR f65) 0) qPx:=lp (A:=yR3) qPx (fun d=>match d with|.inl d=>.inl d.1.1.1|.inr d=>.inr d.1.1.1) yMt Hs Zr (e1 MN) zF
def acg:=zI 65 [.agg vR] (.c .bool) (fun k d=>Cl k (vY d)) (fun x=>(x,())) (fun d=>d.1)
theorem vEx:zD prog acg:=fA f65 yR3 (e1 MN) (loops1 vNv)
def vJs:=zI 104 [.c .i] (.c .bool) (fun k d=>QM k d.1) (fun x=>(x,())) (fun d=>d.1)
theorem vTh:zD prog vJs:=fA f104 n0 e0 zF
def vHh:=zI 51 [.agg kp,.agg CO] (.c .bool) (fun k d=>Cm k (yR d) (vO3 d)) (fun x=>(x,())) (fun d=>d.1)
theorem vY3:zD prog vHh:=fA f51 n0 (e3 vIt vEx vTh) zF
def yO4:zE:=⟨[(0,.c (.dat false zG)),sI 1,sO 5 0,sI 6],[oA zG],[(5,none,zG,false)]⟩
def vCz (f:qWb)(d:yO4.den):=f d.1.1.1 d.1.2.1.1 d.1.2.2.2.1.1 d.2.1
def qPv:zT:=⟨[yO4],[(.exit 0,vEv)],yCb,fun k d=>vCz (KF k k) d,fun b x _ K=>K (.exit 0) (zN b vEv (((),()),(x,())))⟩
def yKk:zW:=⟨[],[(3,qPv)],[],false⟩
theorem vK6:zS prog 1000 0 28 (zQ (zR f52) 0) qPv:=lp (A:=yKk) qPv (fun d=>d.2.1) vCz KF FE e0 zF
def qUx:=zI 52 [.c (.dat false zG),.c .i] (.c (.own zG)) (fun k d=>uH k d.1 d.2.1) (fun x=>(x,())) (fun d=>d.1)
theorem zi:zD prog qUx:=fA f52 yKk e0 (loops1 vK6)
def ySe:zE:=sp [(1,.c (.dat false .i)),sP 4 0,sP 5 1,sI 6] [oB wC,oB wC]
def yEe:zE:=sp [sP 4 0,sP 5 1] [oB wC,oB wC]
def vCh (f:qNl)(d:ySe.den):=(mH (mH (f d.1.1.1 d.1.2.2.2.1.1) d.2.1) d.2.2.1)
def yCj:zT:=⟨[ySe],[(.exit 0,yEe)],qQj,fun k d=>vCh (R6 k k) d,fun b x _ K=>K (.exit 0) (zN b yEe (((),(),()),((kl x ()),(vDk x ()),())))⟩
def vF5:zW:=⟨[],[(3,yCj)],[],false⟩
theorem vXi:zS prog 1000 0 27 (zQ (zR f24) 0) yCj:=lp (A:=vF5) yCj (fun d=>(kl d.2.1 (vY d.2.2.1))) vCh R6 yPe e0 zF
def vMn:=zI 24 [.c .i,.c (.dat false .i)] (.agg pL) (fun k d=>fT k d.1 d.2.1) (fun x=>(gl x ())) (fun d=>(vY d))
theorem vp:zD prog vMn:=fA f24 vF5 e0 (loops1 vXi)
def vTq:=zI 105 [.agg kp,.c .i] (.c .bool) (fun k d=>QJ k (yR d) d.2.2.2.2.2.1) (fun x=>(x,())) (fun d=>d.1)
theorem R7:zD prog vTq:=fA f105 n0 e0 zF
def ach:=zI 106 [.agg vR,.c .i] (.c .bool) (fun k d=>(mG (Zn k) d)) (fun x=>(x,())) (fun d=>d.1)
theorem R8:zD prog ach:=fA f106 ⟨[],[],[],false⟩ e0 zF
def yHq:zE:=sp [(0,.c (.dat false zG)),sI 1,sI 5] []
def yRc (f:yBm)(d:yHq.den):=f d.1.1.1 d.1.2.1.1 d.1.2.2.1.1
def qYl:zT:=⟨[yHq],[(.exit 0,yV1),(.ret,vC4)],(Unit⊕Int),fun k d=>yRc (FL k k) d,fun b x _ K=>match x with|.inl x=>K (.exit 0) (zN b yV1 ((),()))|.inr x=>K .ret (zN b vC4 (((x,()),()),()))⟩
def vAw:zW:=⟨[],[(2,qYl)],[],false⟩
theorem aci:zS prog 1000 0 20 (zQ (zR f56) 0) qYl:=lp (A:=vAw) qYl (fun d=>match d with|.inl d=>.inl ()|.inr d=>.inr d.1.1.1) yRc FL FM e0 zF
def vVy:=zI 56 [.c (.dat false zG),.c .i] (.c .i) (fun k d=>nv k d.1 d.2.1) (fun x=>(x,())) (fun d=>d.1)
theorem R9:zD prog vVy:=fA f56 vAw e0 (loops1 aci)
def vM3:=zI 107 [.c (.dat true zG),.c .i] (.tup [(false,[.fro zG]),(true,pL),(false,yW)]) (fun k d=>oF k d.1 d.2.1) (fun x=>(Rw x ())) (fun d=>(Rx d))
theorem mI:zD prog vM3:=fA f107 ⟨[],[],[],false⟩ (e1 R9) zF
def acj:=zI 108 [.agg kp,.c .i] (.c .bool) (fun k d=>LP k (yR d) d.2.2.2.2.2.1) (fun x=>(x,())) (fun d=>d.1)
theorem Sa:zD prog acj:=fA f108 n0 e0 zF
def vVp:=zI 260 [.agg vR,.c .i] (.c .bool) (fun k d=>(mG (Xt k) d)) (fun x=>(x,())) (fun d=>d.1)
theorem vDn:zD prog vVp:=fA f260 ⟨[],[],[],false⟩ e0 zF
def yO3 (f:qWb)(d:yO4.den):=f d.1.1.1 d.1.2.1.1 d.1.2.2.2.1.1 d.2.1
def yA2:zT:=⟨[yO4],[(.exit 0,vEv)],yCb,fun k d=>yO3 (KE k k) d,fun b x _ K=>K (.exit 0) (zN b vEv (((),()),(x,())))⟩
def yHp:zW:=⟨[],[(3,yA2)],[],false⟩
theorem vJd:zS prog 1000 0 27 (zQ (zR f227) 0) yA2:=lp (A:=yHp) yA2 (fun d=>d.2.1) yO3 KE FD (e1 vDn) zF
def qXa:=zI 227 [.c (.dat false zG),.c .i] (.c (.own zG)) (fun k d=>FC k d.1 d.2.1) (fun x=>(x,())) (fun d=>d.1)
theorem CR:zD prog qXa:=fA f227 yHp (e1 vDn) (loops1 vJd)
def vB3:zE:=sp [sO 5 0,sO 6 1,sI 7,sO 8 2,(9,.c .bool),sI 10] [oA zG,oA zG,oA zG]
def yJ4:zE:=sp [sO 5 0,sO 6 1,sI 7,sO 8 2,(9,.c .bool)] [oA zG,oA zG,oA zG]
def vAb (f:qQq)(d:vB3.den):=f d.1.2.2.1.1 d.1.2.2.2.2.1.1 d.1.2.2.2.2.2.1.1 d.2.1 d.2.2.1 d.2.2.2.1
def qL7:zT:=⟨[vB3],[(.exit 2,yJ4)],qKx,fun k d=>vAb (FF k k) d,fun b x _ K=>K (.exit 2) (zN b yJ4 (((),(),(x.1,()),(),(x.2.1,()),()),(x.2.2.1,x.2.2.2.1,x.2.2.2.2,())))⟩
def yVp:zE:=⟨[sO 5 0,sO 6 1,sI 7],[oA zG,oA zG],[(6,none,zG,false)]⟩
def yN7:zE:=sp [sO 6 0] [oA zG]
def yH2 (f:qTj)(d:yVp.den):=f d.1.2.2.1.1 d.2.1 d.2.2.1
def qKn:zT:=⟨[yVp],[(.exit 0,yN7)],yCb,fun k d=>yH2 (KH k k) d,fun b x _ K=>K (.exit 0) (zN b yN7 (((),()),(x,())))⟩
def vK8:Env:=⟨prog,fun t=>[142].any (Nat.beq t),fO [qXa,qUx]⟩
theorem qPd:jS vK8:=On (l:=[qXa,qUx]) (eqT:=fun t=>[142].any (Nat.beq t)) (TW (fun t h=>VA (p:=fun t=>prog.keyTypeAt 8 t&& !prog.eqGuardType prog.depth t) (l:=[142]) (List.forall_mem_cons.2 ⟨by kernel_rfl,List.forall_mem_nil _⟩) t h)) ij ⟨CR,zi,trivial⟩
def qK3:zW:=⟨[],[(9,qL7),(4,qKn)],[],false⟩
theorem ack:zS prog 1000 0 61 (zQ (zQ (zR f285) 0) 0) qL7:=lp (A:=qK3) qL7 (fun d=>(d.1.2.2.1.1,d.1.2.2.2.2.1.1,d.2.1,d.2.2.1,d.2.2.2.1)) vAb FF FG qPd zF
theorem vRk:zS prog 1000 0 61 (zQ (zR f285) 0) qKn:=lp (A:=qK3) qKn (fun d=>d.2.1) yH2 KH FH qPd (loops1 ack)
def acm:=zI 285 [.c (.dat false zG),.c .i] (.c (.own zG)) (fun k d=>KG k d.1 d.2.1) (fun x=>(x,())) (fun d=>d.1)
theorem MO:zD prog acm:=fA f285 qK3 qPd (loops1 vRk)
def vNi:=zI 288 [.agg eK,.agg vR] (.c .bool) (fun k d=>(tt (WV k) d)) (fun x=>(x,())) (fun d=>d.1)
theorem yP9:zD prog vNi:=fA f288 ⟨[],[],[],false⟩ e0 zF
def yQ5:zE:=sp [(1,.c (.dat false zG)),sP 2 0,sI 5] [oB jW]
def vDu:zE:=sp [(1,.c (.dat false zG))] []
def yJ6 (f:qWm)(d:yQ5.den):=(vK (f d.1.1.1 d.1.2.2.1.1) d.2.1)
def qLy:zT:=⟨[yQ5],[(.exit 0,vDu),(.ret,yFh)],qQ3,fun k d=>yJ6 (Kl k k) d,fun b x _ K=>match x with|.inl x=>K (.exit 0) (zN b vDu (((x,()),()),()))|.inr x=>K .ret (zN b yFh (((x,()),()),()))⟩
def yI6:zW:=⟨[],[(2,qLy)],[],false⟩
theorem vZb:zS prog 1000 0 22 (zQ (zR f261) 0) qLy:=lp (A:=yI6) qLy (fun d=>match d with|.inl d=>.inl d.1.1.1|.inr d=>.inr d.1.1.1) yJ6 Kl E4 (e1 yP9) zF
def vG8:=zI 261 [.agg eK,.c (.dat false zG)] (.c .bool) (fun k d=>(lQ (Kk k) d)) (fun x=>(x,())) (fun d=>d.1)
theorem Sb:zD prog vG8:=fA f261 yI6 (e1 yP9) (loops1 vZb)
def yFe:zE:=⟨[(0,.c (.dat false (.sl .i))),sO 3 0,sI 4],[.mat],[(3,none,(.sl .i),true)]⟩
def yXw:zE:=sp [sO 3 0] [.mat]
def yYj (f:yBz)(d:yFe.den):=f d.1.1.1 d.1.2.2.1.1 d.2.1
def qUz:zT:=⟨[yFe],[(.exit 0,yXw)],EQ,fun k d=>yYj (J7 k k) d,fun b x _ K=>K (.exit 0) (zN b yXw (((),()),(x,())))⟩
def yGv:zW:=⟨[18,19],[(3,qUz)],[],false⟩
theorem vM0:zS prog 1000 0 21 (zQ (zR f219) 0) qUz:=lp (A:=yGv) qUz (fun d=>d.2.1) yYj J7 EV e0 zF
def vJv:=zI 219 [.c (.dat false (.sl .i))] (.c (.mat)) (fun k d=>J8 k d.1) (fun x=>(x,())) (fun d=>d.1)
theorem vXl:zD prog vJv:=fA f219 yGv e0 (loops1 vM0)
def vHa:=zI 177 [.agg eK] (.agg [.own qS,.mat,.own .i,.mat]) (fun k d=>(vK (px k) d)) (fun x=>(fq x ())) (fun d=>(wS d))
theorem zj:zD prog vHa:=fA f177 ⟨[],[],[],false⟩ (e1 vXl) zF
def yPj:zE:=sp [(0,.c (.dat false zG)),sI 1,sI 6,sI 7,sI 8] []
def yD0:zE:=sp [sI 6,sI 7] []
def yF6 (f:qQ6)(d:yPj.den):=f d.1.1.1 d.1.2.1.1 d.1.2.2.1.1 d.1.2.2.2.1.1 d.1.2.2.2.2.1.1
def yB1:zT:=⟨[yPj],[(.exit 0,yD0)],wD,fun k d=>yF6 (Ko k k) d,fun b x _ K=>K (.exit 0) (zN b yD0 (((x.1,()),(x.2,()),()),()))⟩
def yQ2:zW:=⟨[],[(3,yB1)],[],false⟩
theorem vRf:zS prog 1000 0 46 (zQ (zR f289) 0) yB1:=lp (A:=yQ2) yB1 (fun d=>(d.1.1.1,d.1.2.1.1)) yF6 Ko E9 e0 zF
def acn:=zI 289 [.c (.dat false zG),.c .i] (.tup [(false,yW),(false,yW)]) (fun k d=>Kn k d.1 d.2.1) (fun x=>(x.1,x.2,())) (fun d=>(d.1,d.2.1))
theorem qKs:zD prog acn:=fA f289 yQ2 e0 (loops1 vRf)
def vOh:=zI 263 [.c (.dat false zG),.c .i] (.c .i) (fun k d=>Pb k d.1 d.2.1) (fun x=>(x,())) (fun d=>d.1)
theorem qLv:zD prog vOh:=fA f263 ⟨[],[],[],false⟩ (e1 qKs) zF
def vTd:=zI 262 [.agg oI,.c .i] (.c .i) (fun k d=>(vK (Kp k) d)) (fun x=>(x,())) (fun d=>d.1)
theorem MP:zD prog vTd:=fA f262 ⟨[],[],[],false⟩ e0 zF
def vAa:zE:=sp [(0,.c (.dat false zG)),sI 1,sI 2,sI 7,sI 8] []
def yX9:zE:=sp [sI 7] []
def yK0 (f:qJu)(d:vAa.den):=f d.1.1.1 d.1.2.1.1 d.1.2.2.1.1 d.1.2.2.2.1.1 d.1.2.2.2.2.1.1
def qZc:zT:=⟨[vAa],[(.exit 0,yX9)],Int,fun k d=>yK0 (Km k k) d,fun b x _ K=>K (.exit 0) (zN b yX9 (((x,()),()),()))⟩
def vD6:zW:=⟨[],[(3,qZc)],[],false⟩
theorem vSq:zS prog 1000 0 39 (zQ (zR f290) 0) qZc:=lp (A:=vD6) qZc (fun d=>d.1.1.1) yK0 Km E8 e0 zF
def vXh:=zI 290 [.c (.dat false zG),.c .i,.c .i] (.c .i) (fun k d=>xC k d.1 d.2.1 d.2.2.1) (fun x=>(x,())) (fun d=>d.1)
theorem yAw:zD prog vXh:=fA f290 vD6 e0 (loops1 vSq)
def vI6:=zI 264 [.c (.dat false zG),.c .i,.c .i] (.c .i) (fun k d=>O8 k d.1 d.2.1 d.2.2.1) (fun x=>(x,())) (fun d=>d.1)
theorem qYd:zD prog vI6:=fA f264 ⟨[],[],[],false⟩ (e1 yAw) zF
def yDg:zE:=sp [(0,.c (.dat false (.sl .i))),sI 1,sI 5] []
def yZz (f:qQy)(d:yDg.den):=f d.1.1.1 d.1.2.1.1 d.1.2.2.1.1
def qVq:zT:=⟨[yDg],[(.exit 0,yV1),(.ret,yFh)],(Unit⊕Bool),fun k d=>yZz (JZ k k) d,fun b x _ K=>match x with|.inl x=>K (.exit 0) (zN b yV1 ((),()))|.inr x=>K .ret (zN b yFh (((x,()),()),()))⟩
def yHt:zW:=⟨[],[(4,qVq)],[],false⟩
theorem vO9:zS prog 1000 0 22 (zQ (zR f291) 0) qVq:=lp (A:=yHt) qVq (fun d=>match d with|.inl d=>.inl ()|.inr d=>.inr d.1.1.1) yZz JZ EH e0 zF
def vSj:=zI 291 [.c (.dat false (.sl .i)),.c .i] (.c .bool) (fun k d=>JY k d.1 d.2.1) (fun x=>(x,())) (fun d=>d.1)
theorem qW6:zD prog vSj:=fA f291 yHt e0 (loops1 vO9)
def aco:=zI 222 [.agg oI] (.c .bool) (fun k d=>JW k d.1 d.2.1 d.2.2.1) (fun x=>(x,())) (fun d=>d.1)
theorem Sc:zD prog aco:=fA f222 ⟨[],[],[],false⟩ e0 zF
def vJ5:=zI 292 [.c .i] (.c .bool) (fun k d=>JX k d.1) (fun x=>(x,())) (fun d=>d.1)
theorem yAj:zD prog vJ5:=fA f292 ⟨[],[],[],false⟩ e0 zF
def yDd:zE:=sp [sP 1 0,sI 3,sI 4,sI 5] [oB jW]
def vDb:zE:=sp [sP 1 0,sI 3,sI 4] [oB jW]
def yXj (f:yA0)(d:yDd.den):=(vK (f d.1.2.1.1 d.1.2.2.1.1 d.1.2.2.2.1.1) d.2.1)
def qQ2:zT:=⟨[yDd],[(.exit 2,vDb),(.ret,yRz)],qNm,fun k d=>yXj (EI k k) d,fun b x _ K=>match x with|.inl x=>K (.exit 2) (zN b vDb (((),(x.1,()),(x.2.1,()),()),((Cb x ()),())))|.inr x=>K .ret (zN b yRz (((x,()),()),()))⟩
def yUg (f:qJq)(d:vDb.den):=(vK (f d.1.2.1.1 d.1.2.2.1.1) d.2.1)
def qU8:zT:=⟨[vDb],[(.exit 0,yV1),(.ret,yRz)],(Unit⊕Bool),fun k d=>yUg (EK k k) d,fun b x _ K=>match x with|.inl x=>K (.exit 0) (zN b yV1 ((),()))|.inr x=>K .ret (zN b yRz (((x,()),()),()))⟩
def qP8:zW:=⟨[],[(10,qQ2),(5,qU8)],[],false⟩
theorem vTc:zS prog 1000 0 114 (zQ (zQ (zR f265) 0) 0) qQ2:=lp (A:=qP8) qQ2 (fun d=>match d with|.inl d=>.inl (d.1.2.1.1,d.1.2.2.1.1,(wS d.2.1))|.inr d=>.inr d.1.1.1) yXj EI EJ (e3 qW6 Sc yAj) zF
theorem vG3:zS prog 1000 0 114 (zQ (zR f265) 0) qU8:=lp (A:=qP8) qU8 (fun d=>match d with|.inl d=>.inl ()|.inr d=>.inr d.1.1.1) yUg EK EL (e3 qW6 Sc yAj) (loops1 vTc)
def acp:=zI 265 [.agg eK] (.c .bool) (fun k d=>(vK (OQ k) d)) (fun x=>(x,())) (fun d=>d.1)
theorem yBo:zD prog acp:=fA f265 qP8 (e3 qW6 Sc yAj) (loops1 vG3)
def yQs:zE:=sp [(1,.c (.dat false zG)),sP 2 0,sP 4 1,sP 6 2,sI 7,sI 8] [oB wL,oB oJ,oB tu,oA qS,.mat,oA .i,.mat]
def vGm:zE:=sp [(1,.c (.dat false zG)),sP 2 0,sP 4 1,sP 6 2,sI 7] [oB wL,oB oJ,oB tu,oA qS,.mat,oA .i,.mat]
def yNn (f:yBs)(d:yQs.den):=(vK (f d.1.1.1 d.1.2.2.2.2.1.1 d.1.2.2.2.2.2.1.1) d.2.1) d.2.2.2.2.1 d.2.2.2.2.2.1 d.2.2.2.2.2.2.1 d.2.2.2.2.2.2.2.1
def qV1:zT:=⟨[yQs],[(.exit 2,vGm)],qL3,fun k d=>yNn (Fa k k) d,fun b x _ K=>K (.exit 2) (zN b vGm (((x.1,()),(),(),(),(x.2.1,()),()),((Rr x ()),(),(),x.2.2.2.2.2.2.1,x.2.2.2.2.2.2.2.1,x.2.2.2.2.2.2.2.2.1,x.2.2.2.2.2.2.2.2.2,())))⟩
def vAq:zE:=sp [sP 2 0,sP 4 1,sP 6 2] [oB wL,oB oJ,oB tu,oA qS,.mat,oA .i,.mat]
def yJm (f:qKm)(d:vGm.den):=(vK (f d.1.1.1 d.1.2.2.2.2.1.1) d.2.1) d.2.2.2.2.1 d.2.2.2.2.2.1 d.2.2.2.2.2.2.1 d.2.2.2.2.2.2.2.1
def qNe:zT:=⟨[vGm],[(.exit 0,vAq)],qU3,fun k d=>yJm (Fe k k) d,fun b x _ K=>K (.exit 0) (zN b vAq (((),(),(),()),((wB x ()),(),(),x.2.2.2.2.1,x.2.2.2.2.2.1,x.2.2.2.2.2.2.1,x.2.2.2.2.2.2.2,())))⟩
def yBx:zW:=⟨[],[(9,qV1),(5,qNe)],[],false⟩
theorem acq:zS prog 1000 0 84 (zQ (zQ (zR f228) 0) 0) qV1:=lp (A:=yBx) qV1 (fun d=>(d.1.1.1,d.1.2.2.2.2.1.1,(wB d.2.1 (d.2.2.2.2.1,d.2.2.2.2.2.1,d.2.2.2.2.2.2.1,d.2.2.2.2.2.2.2.1)))) yNn Fa Fc (e6 Sb zj qLv MP qYd yBo) zF
theorem vPx:zS prog 1000 0 84 (zQ (zR f228) 0) qNe:=lp (A:=yBx) qNe (fun d=>(wB d.2.1 (d.2.2.2.2.1,d.2.2.2.2.2.1,d.2.2.2.2.2.2.1,d.2.2.2.2.2.2.2.1))) yJm Fe Ff (e6 Sb zj qLv MP qYd yBo) (loops1 acq)
def acr:=zI 228 [.agg ll,.c (.dat false zG)] (.tup [(true,nI),(false,yW)]) (fun k d=>(lQ (BC k) d)) (fun x=>(jG x ())) (fun d=>(yR d))
theorem yAz:zD prog acr:=fA f228 yBx (e6 Sb zj qLv MP qYd yBo) (loops1 vPx)
def yY9:zE:=sp [sI 1,sP 2 0,sI 5,sI 6] [oB jW]
def yW1 (f:qQs)(d:yY9.den):=(vK (f d.1.1.1 d.1.2.2.1.1 d.1.2.2.2.1.1) d.2.1)
def qRn:zT:=⟨[yY9],[(.exit 0,yDc)],Int,fun k d=>yW1 (Fg k k) d,fun b x _ K=>K (.exit 0) (zN b yDc (((x,()),()),()))⟩
def yFi:zW:=⟨[],[(3,qRn)],[],false⟩
theorem vY7:zS prog 1000 0 28 (zQ (zR f301) 0) qRn:=lp (A:=yFi) qRn (fun d=>d.1.1.1) yW1 Fg Fh e0 zF
def acs:=zI 301 [.agg eK,.c .i] (.c .i) (fun k d=>(lQ (Pe k) d)) (fun x=>(x,())) (fun d=>d.1)
theorem yQc:zD prog acs:=fA f301 yFi e0 (loops1 vY7)
def yI4:zE:=sp [(1,.c (.dat false zG)),sI 2,sP 3 0,sI 7,sI 8,sI 9,sI 10,sI 11] [oB jW]
def yKb:zE:=sp [sI 2,sP 3 0,sI 7,sI 8,sI 9,sI 10] [oB jW]
def yKe (f:qKh)(d:yI4.den):=(vK (f d.1.1.1 d.1.2.1.1 d.1.2.2.2.1.1 d.1.2.2.2.2.1.1 d.1.2.2.2.2.2.1.1 d.1.2.2.2.2.2.2.1.1 d.1.2.2.2.2.2.2.2.1.1) d.2.1)
def yCi:zT:=⟨[yI4],[(.exit 0,yKb),(.ret,yPo)],qRh,fun k d=>yKe (sW k k) d,fun b x _ K=>match x with|.inl x=>K (.exit 0) (zN b yKb (((x.1,()),(),(x.2.1,()),(x.2.2.1,()),(x.2.2.2.1,()),(x.2.2.2.2.1,()),()),((acu x ()),())))|.inr x=>K .ret (zN b yPo (((x,()),()),()))⟩
def yV4:zW:=⟨[],[(7,yCi)],[],false⟩
theorem acv:zS prog 1000 0 130 (zQ (zR f287) 0) yCi:=lp (A:=yV4) yCi (fun d=>match d with|.inl d=>.inl (d.1.1.1,d.1.2.2.1.1,d.1.2.2.2.1.1,d.1.2.2.2.2.1.1,d.1.2.2.2.2.2.1.1,(wS d.2.1))|.inr d=>.inr d.1.1.1) yKe sW Fj (e4 qKs yQc yAw MP) zF
def vV0:=zI 287 [.agg eK,.c (.dat false zG),.c .i] (.c .bool) (fun k d=>(kt (Pj k) d)) (fun x=>(x,())) (fun d=>d.1)
theorem vFc:zD prog vV0:=fA f287 yV4 (e4 qKs yQc yAw MP) (loops1 acv)
def yI2:zE:=⟨[(1,.c (.dat false zG)),sP 2 0,sO 5 1,sI 6],[oB jW,oA .i],[(5,none,.i,false)]⟩
def yUx (f:qZ6)(d:yI2.den):=(vK (f d.1.1.1 d.1.2.2.2.1.1) d.2.1) d.2.2.1
def qT6:zT:=⟨[yI2],[(.exit 0,yN0)],AC,fun k d=>yUx (uF k k) d,fun b x _ K=>K (.exit 0) (zN b yN0 (((),()),(x,())))⟩
def yGf:zW:=⟨[],[(3,qT6)],[],false⟩
theorem vOm:zS prog 1000 0 23 (zQ (zR f259) 0) qT6:=lp (A:=yGf) qT6 (fun d=>d.2.1) yUx uF sX (e1 vFc) zF
def vP7:=zI 259 [.agg eK,.c (.dat false zG)] (.c (.own .i)) (fun k d=>(lQ (uE k) d)) (fun x=>(x,())) (fun d=>d.1)
theorem MQ:zD prog vP7:=fA f259 yGf (e1 vFc) (loops1 vOm)
def vSv:=zI 286 [.agg eK,.c (.dat false zG)] (.c .bool) (fun k d=>(lQ (Kr k) d)) (fun x=>(x,())) (fun d=>d.1)
theorem acw:zD prog vSv:=fA f286 ⟨[],[],[],false⟩ (e2 Sb MQ) zF
def vZi:=zI 257 [.agg ll,.c (.dat false zG)] (.tup [(true,nI),(false,[.bool])]) (fun k d=>(lQ (vg k) d)) (fun x=>(jG x ())) (fun d=>(yR d))
theorem vq:zD prog vZi:=fA f257 ⟨[],[],[],false⟩ (e2 yAz acw) zF
def yEa:zE:=sp [sP 3 0,sP 6 1,sO 8 2,sI 9] [oB wL,oB wC,oA zG]
def yL1:zE:=sp [sP 6 0] [oB wC]
def yL9:zE:=sp [sP 6 0,(7,.c .bool)] [oB wC]
def yXf (f:qYh)(d:yEa.den):=(mH (vK (f d.1.2.2.2.1.1) d.2.1) d.2.2.1) d.2.2.2.1
def yBk:zT:=⟨[yEa],[(.exit 0,yL1),(.ret,yL9)],qTc,fun k d=>yXf (LF k k) d,fun b x _ K=>match x with|.inl x=>K (.exit 0) (zN b yL1 (((),()),((gl x ()),())))|.inr x=>K .ret (zN b yL9 (((),(x.1,()),()),((yJs x ()),())))⟩
def yTo:zW:=⟨[],[(3,yBk)],[],false⟩
theorem acx:zS prog 1000 0 37 (zQ (zR f256) 0) yBk:=lp (A:=yTo) yBk (fun d=>match d with|.inl d=>.inl (vY d.2.1)|.inr d=>.inr (d.1.2.1.1,(vY d.2.1))) yXf LF G8 (e2 MO vq) zF
def vG2:=zI 256 [.agg ll,.c (.dat true zG),.c .i] (.tup [(true,pL),(false,[.bool])]) (fun k d=>(kt (QC k) d)) (fun x=>(CN x ())) (fun d=>(lM d))
theorem yQb:zD prog vG2:=fA f256 yTo (e2 MO vq) (loops1 acx)
def yM3:zE:=⟨[(1,.c (.dat true zG)),sI 2,sP 3 0,sP 6 1,sO 9 2],[oB wL,oB oJ,oA zG],[(9,none,zG,false)]⟩
def vAx (f:qQw)(d:yM3.den):=(vK (f d.1.1.1 d.1.2.1.1) d.2.1) d.2.2.2.1
def qTf:zT:=⟨[yM3],[(.ret,yTr)],qOg,fun k d=>vAx (LG k k) d,fun b x _ K=>K .ret (zN b yTr (((),(x.1,()),(),()),((iJ x ()),x.2.2.2.2.2,())))⟩
def yZi:zW:=⟨[],[(2,qTf)],[],false⟩
theorem acy:zS prog 1000 0 43 (zQ (zR f223) 0) qTf:=lp (A:=yZi) qTf (fun d=>(d.1.2.1.1,(wB d.2.1 d.2.2.1))) vAx LG G9 (e3 yQb vq mI) zF
def vYb:=zI 223 [.agg ll,.c (.dat true zG),.c .i] (.tup [(true,nI),(false,[.fro zG]),(false,[.own zG])]) (fun k d=>(kt (QD k) d)) (fun x=>(oK x ())) (fun d=>(nJ d))
theorem yP6:zD prog vYb:=fA f223 yZi (e3 yQb vq mI) (loops1 acy)
def yDt:zE:=sp [sP 3 0,sP 6 1,sP 7 2,sO 9 3,sI 10,sI 11] [oB wL,oB wC,oB wC,oA zG]
def yVb:zE:=sp [sP 3 0,sP 6 1,sP 7 2,sO 9 3,sI 10] [oB wL,oB wC,oB wC,oA zG]
def vE7:zE:=sp [sP 6 0,sP 7 1,(8,.c .bool)] [oB wC,oB wC]
def yNc (f:qLd)(d:yDt.den):=(mH (mH (vK (f d.1.2.2.2.2.1.1 d.1.2.2.2.2.2.1.1) d.2.1) d.2.2.1) d.2.2.2.1) d.2.2.2.2.1
def qNp:zT:=⟨[yDt],[(.exit 2,yVb),(.ret,vE7)],qWf,fun k d=>yNc (LI k k) d,fun b x _ K=>match x with|.inl x=>K (.exit 2) (zN b yVb (((),(),(),(),(x.1,()),()),((iJ x ()),(acz x ()),(vIk x ()),x.2.2.2.2.2.2.2.2.2.2.2.2.2.2.2.2.2.2.2,())))|.inr x=>K .ret (zN b vE7 (((),(),(x.1,()),()),((qUy x ()),(yNw x ()),())))⟩
def yQo:zE:=sp [sP 6 0,sP 7 1] [oB wC,oB wC]
def yH8 (f:qKo)(d:yVb.den):=(mH (mH (vK (f d.1.2.2.2.2.1.1) d.2.1) d.2.2.1) d.2.2.2.1) d.2.2.2.2.1
def qTp:zT:=⟨[yVb],[(.exit 0,yQo),(.ret,vE7)],qRe,fun k d=>yH8 (LJ k k) d,fun b x _ K=>match x with|.inl x=>K (.exit 0) (zN b yQo (((),(),()),((kl x ()),(vDk x ()),())))|.inr x=>K .ret (zN b vE7 (((),(),(x.1,()),()),((qUy x ()),(yNw x ()),())))⟩
def qOs:zW:=⟨[],[(6,qNp),(3,qTp)],[],false⟩
theorem vLz:zS prog 1000 0 71 (zQ (zQ (zR f258) 0) 0) qNp:=lp (A:=qOs) qNp (fun d=>match d with|.inl d=>.inl (d.1.2.2.2.2.1.1,(wB d.2.1 (kl d.2.2.1 (kl d.2.2.2.1 d.2.2.2.2.1))))|.inr d=>.inr (d.1.2.2.1.1,(kl d.2.1 (vY d.2.2.1)))) yNc LI Ha (e2 MO vq) zF
theorem vTb:zS prog 1000 0 71 (zQ (zR f258) 0) qTp:=lp (A:=qOs) qTp (fun d=>match d with|.inl d=>.inl (kl d.2.1 (vY d.2.2.1))|.inr d=>.inr (d.1.2.2.1.1,(kl d.2.1 (vY d.2.2.1)))) yH8 LJ Hb (e2 MO vq) (loops1 vLz)
def acA:=zI 258 [.agg ll,.c (.dat true zG),.c .i] (.tup [(true,pL),(true,pL),(false,[.bool])]) (fun k d=>(kt (QE k) d)) (fun x=>(vBj x ())) (fun d=>(vAj d))
theorem yJi:zD prog acA:=fA f258 qOs (e2 MO vq) (loops1 vTb)
def vEg (f:qQw)(d:yM3.den):=(vK (f d.1.1.1 d.1.2.1.1) d.2.1) d.2.2.2.1
def qPb:zT:=⟨[yM3],[(.ret,yTr)],qOg,fun k d=>vEg (LK k k) d,fun b x _ K=>K .ret (zN b yTr (((),(x.1,()),(),()),((iJ x ()),x.2.2.2.2.2,())))⟩
def yEf:zW:=⟨[],[(2,qPb)],[],false⟩
theorem vK3:zS prog 1000 0 55 (zQ (zR f224) 0) qPb:=lp (A:=yEf) qPb (fun d=>(d.1.2.1.1,(wB d.2.1 d.2.2.1))) vEg LK Hc (e3 yJi vq mI) zF
def acB:=zI 224 [.agg ll,.c (.dat true zG),.c .i] (.tup [(true,nI),(false,[.fro zG]),(false,[.own zG])]) (fun k d=>(kt (QF k) d)) (fun x=>(oK x ())) (fun d=>(nJ d))
theorem yD3:zD prog acB:=fA f224 yEf (e3 yJi vq mI) (loops1 vK3)
def yEc (f:qQw)(d:yM3.den):=(vK (f d.1.1.1 d.1.2.1.1) d.2.1) d.2.2.2.1
def qW2:zT:=⟨[yM3],[(.ret,yTr)],qOg,fun k d=>yEc (LN k k) d,fun b x _ K=>K .ret (zN b yTr (((),(x.1,()),(),()),((iJ x ()),x.2.2.2.2.2,())))⟩
def vEz:zW:=⟨[],[(2,qW2)],[],false⟩
theorem vN7:zS prog 1000 0 45 (zQ (zR f181) 0) qW2:=lp (A:=vEz) qW2 (fun d=>(d.1.2.1.1,(wB d.2.1 d.2.2.1))) yEc LN Hl (e2 yP6 yD3) zF
def vJh:=zI 181 [.agg ll,.c (.dat true zG),.c .i] (.tup [(true,nI),(false,[.fro zG]),(false,[.own zG])]) (fun k d=>(kt (LO k) d)) (fun x=>(oK x ())) (fun d=>(nJ d))
theorem vUp:zD prog vJh:=fA f181 vEz (e2 yP6 yD3) (loops1 vN7)
def yUq:zE:=⟨[(0,.c (.dat false zG)),(1,.c (.dat false .i)),sO 5 0,sI 6],[oA zG],[(5,none,zG,false)]⟩
def yK3 (f:qXy)(d:yUq.den):=f d.1.1.1 d.1.2.1.1 d.1.2.2.2.1.1 d.2.1
def yBi:zT:=⟨[yUq],[(.exit 0,vEv)],yCb,fun k d=>yK3 (He k k) d,fun b x _ K=>K (.exit 0) (zN b vEv (((),()),(x,())))⟩
def yE3:zW:=⟨[],[(3,yBi)],[],false⟩
theorem acC:zS prog 1000 0 60 (zQ (zR f226) 0) yBi:=lp (A:=yE3) yBi (fun d=>d.2.1) yK3 He Hf (e1 zi) zF
def acD:=zI 226 [.c (.dat false zG),.c (.dat false .i)] (.c (.own zG)) (fun k d=>Hd k d.1 d.2.1) (fun x=>(x,())) (fun d=>d.1)
theorem Ik:zD prog acD:=fA f226 yE3 (e1 zi) (loops1 acC)
def yLx:zE:=⟨[sP 3 0,sO 8 1,sO 9 2,sI 10],[oB jW,oA zG,oA .i],[(9,none,.i,false)]⟩
def vA3:zE:=sp [sP 3 0,sO 8 1,sO 9 2] [oB jW,oA zG,oA .i]
def yKd (f:qN1)(d:yLx.den):=(vK (f d.1.2.2.2.1.1) d.2.1) d.2.2.1 d.2.2.2.1
def Sd:zT:=⟨[yLx],[(.exit 0,vA3)],qSg,fun k d=>yKd (Ch k k) d,fun b x _ K=>K (.exit 0) (zN b vA3 (((),(),(),()),((wB x ()),x.2.2.2.2.1,x.2.2.2.2.2,())))⟩
def yN8:zE:=sp [sP 3 0,sO 8 1,sO 9 2,sI 11,sO 12 3,sI 13] [oB jW,oA zG,oA .i,oA .i]
def yQg:zE:=sp [sP 3 0,sO 8 1,sO 9 2,sI 11] [oB jW,oA zG,oA .i]
def yP0 (f:yAe)(d:yN8.den):=(vK (f d.1.2.2.2.1.1 d.1.2.2.2.2.2.1.1) d.2.1) d.2.2.1 d.2.2.2.1 d.2.2.2.2.1
def qWx:zT:=⟨[yN8],[(.exit 4,yQg)],qLw,fun k d=>yP0 (Hh k k) d,fun b x _ K=>K (.exit 4) (zN b yQg (((),(),(),(x.1,()),()),((iJ x ()),x.2.2.2.2.2.1,x.2.2.2.2.2.2,())))⟩
def vFf (f:qMr)(d:yQg.den):=(vK (f d.1.2.2.2.1.1) d.2.1) d.2.2.1 d.2.2.2.1
def Se:zT:=⟨[yQg],[(.ret,yFc)],(Int×AC),fun k d=>vFf (LL k k) d,fun b x _ K=>K .ret (zN b yFc (((),(x.1,()),()),(x.2,())))⟩
def Sf:zW:=⟨[],[(4,Sd),(13,qWx),(9,Se)],[],false⟩
theorem vRa:zS prog 1000 0 58 (zQ (zR f225) 0) Sd:=lp (A:=Sf) Sd (fun d=>(wB d.2.1 (d.2.2.1,d.2.2.2.1))) yKd Ch Hg (e4 CR zi Ik MQ) zF
theorem vN4:zS prog 1000 0 58 (zQ (zQ (zR f225) 1) 0) qWx:=lp (A:=Sf) qWx (fun d=>(d.1.2.2.2.1.1,(wB d.2.1 (d.2.2.1,d.2.2.2.1)))) yP0 Hh Hi (e4 CR zi Ik MQ) zF
theorem acE:zS prog 1000 0 58 (zQ (zR f225) 1) Se:=lp (A:=Sf) Se (fun d=>(d.1.2.1.1,d.2.1)) vFf LL Hj (e4 CR zi Ik MQ) (loops1 vN4)
def vT6:=zI 225 [.agg eK,.c (.dat false zG),.c .i] (.tup [(false,[.own .i]),(false,yW)]) (fun k d=>(kt (QG k) d)) (fun x=>(x.1,x.2,())) (fun d=>(d.1,d.2.1))
theorem vEb:zD prog vT6:=fA f225 Sf (e4 CR zi Ik MQ) (nk (n:=2) (by kernel_rfl) fun i hi=>match i,hi with|0,_=>⟨Sd,by kernel_rfl,vRa⟩|1,_=>⟨Se,by kernel_rfl,acE⟩|i+2,hi=>absurd hi (by omega))
def yNy:zE:=sp [(1,.c (.dat true zG)),sP 6 0,sO 11 1,sP 12 2,sI 14] [oB oJ,oA zG,oB wL]
def yU2:zE:=sp [(1,.c (.dat true zG)),sP 6 0,sO 11 1,sP 12 2] [oB oJ,oA zG,oB wL]
def yTv (f:qWr)(d:yNy.den):=(vK (f d.1.1.1 d.1.2.2.2.2.1.1 d.2.2.1) d.2.2.2.1)
def qOd:zT:=⟨[yNy],[(.exit 0,yU2)],qXt,fun k d=>yTv (Ck k k) d,fun b x _ K=>K (.exit 0) (zN b yU2 (((x.1,()),(),(),(),()),((),x.2.1,(Cb x ()),())))⟩
def yK6:zW:=⟨[],[(7,qOd)],[],false⟩
theorem acF:zS prog 1000 0 57 (zQ (zR f182) 0) qOd:=lp (A:=yK6) qOd (fun d=>(d.1.1.1,d.2.2.1,(wS d.2.2.2.1))) yTv Ck Hk (e5 vEb CR Ik yAz mI) zF
def vYn:=zI 182 [.agg ll,.c (.dat true zG),.c .i] (.tup [(true,nI),(false,[.fro zG]),(false,[.own zG])]) (fun k d=>(kt (LM k) d)) (fun x=>(oK x ())) (fun d=>(nJ d))
theorem vJy:zD prog vYn:=fA f182 yK6 (e5 vEb CR Ik yAz mI) (loops1 acF)
def vHf:=zI 115 [.agg ll,.c (.dat true zG),.c .i,.c .bool] (.tup [(true,nI),(false,[.fro zG]),(false,[.own zG])]) (fun k d=>(mH (QH k) d)) (fun x=>(oK x ())) (fun d=>(nJ d))
theorem vUj:zD prog vHf:=fA f115 ⟨[],[],[],false⟩ (e2 vUp vJy) zF
def yF2:zE:=⟨[(0,.c (.dat false zG)),sO 3 0,sI 4],[oA qZ],[(3,none,qZ,false)]⟩
def yHl (f:yAq)(d:yF2.den):=f d.1.1.1 d.1.2.2.1.1 d.2.1
def qMo:zT:=⟨[yF2],[(.exit 0,yKv)],qS8,fun k d=>yHl (Lc k k) d,fun b x _ K=>K (.exit 0) (zN b yKv (((),()),(x,())))⟩
def yWb:zW:=⟨[],[(3,qMo)],[],false⟩
theorem acG:zS prog 1000 0 39 (zQ (zR f116) 0) qMo:=lp (A:=yWb) qMo (fun d=>d.2.1) yHl Lc Gw (e1 vp) zF
def vPb:=zI 116 [.c (.dat false zG)] (.c (.own qZ)) (fun k d=>P5 k d.1) (fun x=>(x,())) (fun d=>d.1)
theorem vKh:zD prog vPb:=fA f116 yWb (e1 vp) (loops1 acG)
def acH:=zI 55 [.agg yx,.c .bool] (.tup [(true,yy),(false,[.own qZ])]) (fun k d=>(MJ (oG k) d)) (fun x=>(Ie x ())) (fun d=>(Ig d))
theorem MR:zD prog acH:=fA f55 ⟨[],[],[],false⟩ (e2 vUj vKh) zF
def yMs:zE:=⟨[sP 3 0,sP 4 1,sO 6 2,(7,.c (.dat true zG)),sI 8],[oB jg,oB jX,oA qZ],[(6,none,qZ,false)]⟩
def yIx:zE:=sp [sP 3 0,sP 4 1,sO 6 2] [oB jg,oB jX,oA qZ]
def yTk (f:qZh)(d:yMs.den):=f d.1.2.2.2.1.1 d.1.2.2.2.2.1.1 (qQ d.2.1) (d.2.2.1.1,d.2.2.1.2.1,d.2.2.1.2.2.1) d.2.2.2.1
def Sg:zT:=⟨[yMs],[(.exit 0,yIx)],qVn,fun k d=>yTk (yi k k) d,fun b x _ K=>K (.exit 0) (zN b yIx (((),(),(),()),((vT x.1 ()),(x.2.1.1,x.2.1.2.1,x.2.1.2.2,()),x.2.2,())))⟩
def yOm:zE:=sp [sP 3 0,sP 4 1,sO 6 2,sI 9] [oB jg,oB jX,oA qZ]
def yJl (f:qSk)(d:yOm.den):=f d.1.2.2.2.1.1 (qQ d.2.1) (d.2.2.1.1,d.2.2.1.2.1,d.2.2.1.2.2.1) d.2.2.2.1
def Sh:zT:=⟨[yOm],[(.exit 2,yIx)],qVn,fun k d=>yJl (yj k k) d,fun b x _ K=>K (.exit 2) (zN b yIx (((),(),(),()),((vT x.1 ()),(x.2.1.1,x.2.1.2.1,x.2.1.2.2,()),x.2.2,())))⟩
def yGi:zE:=⟨[sP 2 0,sP 3 1,sP 4 2,sO 6 3,(7,.c (.dat true zG)),sI 10],[oB Ij,oB jg,oB jX,oA qZ],[(6,none,qZ,false)]⟩
def yKo:zE:=sp [sP 2 0,sP 3 1,sP 4 2,sO 6 3] [oB Ij,oB jg,oB jX,oA qZ]
def vC6 (f:qL9)(d:yGi.den):=f d.1.2.2.2.2.1.1 d.1.2.2.2.2.2.1.1 (yR d.2.1) (qQ d.2.2.1) (d.2.2.2.1.1,d.2.2.2.1.2.1,d.2.2.2.1.2.2.1) d.2.2.2.2.1
def Si:zT:=⟨[yGi],[(.exit 4,yKo)],qUg,fun k d=>vC6 (vh k k) d,fun b x _ K=>K (.exit 4) (zN b yKo (((),(),(),(),()),((jG x.1 ()),(vT x.2.1 ()),(x.2.2.1.1,x.2.2.1.2.1,x.2.2.1.2.2,()),x.2.2.2,())))⟩
def Sj:zW:=⟨[],[(8,Sg),(12,Sh),(18,Si)],[],true⟩
theorem vZ2:zS prog 1000 0 129 (zQ (zR f53) 0) Sg:=lp (A:=Sj) Sg (fun d=>((qQ d.2.1),(d.2.2.1.1,d.2.2.1.2.1,d.2.2.1.2.2.1),d.2.2.2.1)) yTk yi Hm (e6 R7 vp R8 mI Sa MR) zF
theorem vM7:zS prog 1000 0 129 (zQ (zR f53) 1) Sh:=lp (A:=Sj) Sh (fun d=>((qQ d.2.1),(d.2.2.1.1,d.2.2.1.2.1,d.2.2.1.2.2.1),d.2.2.2.1)) yJl yj Hn (e6 R7 vp R8 mI Sa MR) zF
theorem vKv:zS prog 1000 0 129 (zQ (zR f53) 2) Si:=lp (A:=Sj) Si (fun d=>((yR d.2.1),(qQ d.2.2.1),(d.2.2.2.1.1,d.2.2.2.1.2.1,d.2.2.2.1.2.2.1),d.2.2.2.2.1)) vC6 vh Ho (e6 R7 vp R8 mI Sa MR) zF
def acI:=zI 53 [.agg MK,.agg yx] (.tup [(true,yy),(false,[.own qZ])]) (fun k d=>Hq k (yR d) (rz d)) (fun x=>(vT x.1 (x.2,()))) (fun d=>((qQ d),d.2.2.2.2.2.2.2.2.2.2.2.1))
theorem vJn:zD prog acI:=fA f53 Sj (e6 R7 vp R8 mI Sa MR) (nk (n:=3) (by kernel_rfl) fun i hi=>match i,hi with|0,_=>⟨Sg,by kernel_rfl,vZ2⟩|1,_=>⟨Sh,by kernel_rfl,vM7⟩|2,_=>⟨Si,by kernel_rfl,vKv⟩|i+3,hi=>absurd hi (by omega))
def vNz:=zI 168 [.ptr yWv,.c .i] (.c .i) (fun k d=>u9 k (RM d) d.2.2.2.2.2.2.2.2.2.2.2.2.2.2.2.2.2.2.2.1) (fun x=>(x,())) (fun d=>d.1)
theorem yAp:zD prog vNz:=fA f168 n0 e0 zF
def vJw:=zI 175 [.agg kp,.c .i,.c .i] (.c .i) (fun k d=>G4 k (yR d) d.2.2.2.2.2.1 d.2.2.2.2.2.2.1) (fun x=>(x,())) (fun d=>d.1)
theorem yJ0:zD prog vJw:=fA f175 n0 e0 zF
def vU1:=zI 169 [.agg kp,.c .i,.agg vR] (.c .i) (fun k d=>Cd k (yR d) d.2.2.2.2.2.1 (qV7 d)) (fun x=>(x,())) (fun d=>d.1)
theorem vIm:zD prog vU1:=fA f169 n0 (e1 yJ0) zF
def yUt:zE:=sp [(0,.c (.dat false .i)),sI 1,sI 5] []
def vBl (f:qS1)(d:yUt.den):=f d.1.1.1 d.1.2.1.1 d.1.2.2.1.1
def qXm:zT:=⟨[yUt],[(.exit 0,yV1),(.ret,yFh)],(Unit⊕Bool),fun k d=>vBl (GU k k) d,fun b x _ K=>match x with|.inl x=>K (.exit 0) (zN b yV1 ((),()))|.inr x=>K .ret (zN b yFh (((x,()),()),()))⟩
def yDn:zW:=⟨[],[(2,qXm)],[],true⟩
theorem acJ:zS prog 1000 0 18 (zQ (zR f215) 0) qXm:=lp (A:=yDn) qXm (fun d=>match d with|.inl d=>.inl ()|.inr d=>.inr d.1.1.1) vBl GU GV e0 zF
def acK:=zI 215 [.c (.dat false .i),.c .i] (.c .bool) (fun k d=>Qs k d.1 d.2.1) (fun x=>(x,())) (fun d=>d.1)
theorem yEp:zD prog acK:=fA f215 yDn e0 (loops1 acJ)
def yTi:zE:=sp [(0,.c (.dat true .i)),sI 1,sI 6] []
def vFt (f:yBj)(d:yTi.den):=f d.1.1.1 d.1.2.1.1 d.1.2.2.1.1
def qZk:zT:=⟨[yTi],[(.exit 0,yTi)],(AC×Int×Int),fun k d=>vFt (Lx k k) d,fun b x _ K=>K (.exit 0) (zN b yTi (((x.1,()),(x.2.1,()),(x.2.2,()),()),()))⟩
def yXk:zW:=⟨[],[(6,qZk)],[],true⟩
theorem acL:zS prog 1000 0 41 (zQ (zR f170) 0) qZk:=lp (A:=yXk) qZk (fun d=>(d.1.1.1,d.1.2.1.1,d.1.2.2.1.1)) vFt Lx GW (e1 yEp) zF
def vVl:=zI 170 [.c (.dat true .i),.c .i] (.tup [(false,[.fro .i]),(false,yW)]) (fun k d=>B8 k d.1 d.2.1) (fun x=>(x.1,x.2,())) (fun d=>(d.1,d.2.1))
theorem acM:zD prog vVl:=fA f170 yXk (e1 yEp) (loops1 acL)
def vWg:=zI 218 [.agg vR,.agg vR] (.c .bool) (fun k d=>(H8 (Lq k) d)) (fun x=>(x,())) (fun d=>d.1)
theorem Sk:zD prog vWg:=fA f218 ⟨[],[],[],false⟩ e0 zF
def vDl:zE:=sp [(0,.c (.dat false zG)),sP 3 0,sI 5] [oB wC]
def vEs (f:qM6)(d:vDl.den):=(mH (f d.1.1.1 d.1.2.2.1.1) d.2.1)
def qLa:zT:=⟨[vDl],[(.exit 0,yDc)],Int,fun k d=>vEs (GQ k k) d,fun b x _ K=>K (.exit 0) (zN b yDc (((x,()),()),()))⟩
def yRu:zW:=⟨[],[(2,qLa)],[],false⟩
theorem vOw:zS prog 1000 0 21 (zQ (zR f217) 0) qLa:=lp (A:=yRu) qLa (fun d=>d.1.1.1) vEs GQ GR (e1 Sk) zF
def vXs:=zI 217 [.c (.dat false zG),.agg vR] (.c .i) (fun k d=>(mG (GP k) d)) (fun x=>(x,())) (fun d=>d.1)
theorem qKj:zD prog vXs:=fA f217 yRu (e1 Sk) (loops1 vOw)
def vQg:=zI 216 [.c (.dat false zG),.c .i,.agg vR] (.c (.own zG)) (fun k d=>(RG (B6 k) d)) (fun x=>(x,())) (fun d=>d.1)
theorem MS:zD prog vQg:=fA f216 ⟨[],[],[],false⟩ e0 zF
def vSn:=zI 171 [.c (.dat true zG),.agg vR] (.tup [(false,[.fro zG]),(false,yW)]) (fun k d=>(mG (B7 k) d)) (fun x=>(x.1,x.2,())) (fun d=>(d.1,d.2.1))
theorem acN:zD prog vSn:=fA f171 ⟨[],[],[],false⟩ (e3 R9 qKj MS) zF
def vL9:=yH 109 [.ptr true CT,.agg MD] (.c .i) [CU] 0 (fun k d=>Qy k (yE d d.2.2.2.2.2.2.2.2.2.2.2.2.2.2.2.2.2.2.1) (vX9 d)) (fun x=>(x.1,(zg x.2 ()))) (fun d=>(d.1,(CV d)))
theorem vMj:zD prog vL9:=fX f109 n0 1 (e4 yAp vIm acM acN) zF
def acO:=zI 172 [.ptr yWv,.c .i] (.tup [(true,pL),(false,[.bool])]) (fun k d=>vFx k (RM d) d.2.2.2.2.2.2.2.2.2.2.2.2.2.2.2.2.2.2.2.1) (fun x=>(gl x.1 (x.2,()))) (fun d=>((vY d),d.2.2.2.2.2.2.2.1))
theorem vSh:zD prog acO:=fA f172 n0 (e1 R9) zF
def yT0:zE:=sp [(6,.c (.dat true zG)),sP 7 0,sI 9] [oB wC]
def yKa (f:yAy)(d:yT0.den):=f d.1.1.1 d.1.2.2.1.1 (vY d.2.1)
def qJw:zT:=⟨[yT0],[(.exit 0,yT0)],qLi,fun k d=>yKa (Lw k k) d,fun b x _ K=>K (.exit 0) (zN b yT0 (((x.1,()),(),(x.2.1,()),()),((gl x.2.2 ()),())))⟩
def yZq:zW:=⟨[],[(5,qJw)],[],true⟩
theorem vMk:zS prog 1000 0 40 (zQ (zR f173) 0) qJw:=lp (A:=yZq) qJw (fun d=>(d.1.1.1,d.1.2.2.1.1,(vY d.2.1))) yKa Lw GS (e3 mI Sk MS) zF
def vNx:=zI 173 [.c (.dat true zG),.c .i] (.tup [(false,[.fro zG]),(false,yW)]) (fun k d=>Lv k d.1 d.2.1) (fun x=>(x.1,x.2,())) (fun d=>(d.1,d.2.1))
theorem acP:zD prog vNx:=fA f173 yZq (e3 mI Sk MS) (loops1 vMk)
def vVj:=zI 174 [.c (.dat true zG),.c .i] (.tup [(false,[.fro zG]),(false,yW)]) (fun k d=>Lu k d.1 d.2.1) (fun x=>(x.1,x.2,())) (fun d=>(d.1,d.2.1))
theorem acQ:zD prog vVj:=fA f174 n0 (e3 mI qKj MS) zF
def vVm:=zI 176 [.c (.dat true zG),.c .i,.c .i] (.tup [(false,[.fro zG]),(false,yW)]) (fun k d=>Lt k d.1 d.2.1 d.2.2.1) (fun x=>(x.1,x.2,())) (fun d=>(d.1,d.2.1))
theorem acR:zD prog vVm:=fA f176 n0 (e3 mI qKj MS) zF
def acS:=yH 110 [.ptr true CT,.c (.p .i),.agg MD] (.c .i) [CU] 0 (fun k d=>Cf k (yE d d.2.2.2.2.2.2.2.2.2.2.2.2.2.2.2.2.2.2.1) d.2.2.2.2.2.2.2.2.2.2.2.2.2.2.2.2.2.2.2.1 (yGh d)) (fun x=>(x.1,(zg x.2 ()))) (fun d=>(d.1,(CV d)))
theorem acT:zD prog acS:=fX f110 n0 1 (e7 vSh mI vp acP acQ yJ0 acR) zF
def acU:=yH 111 [.ptr true CT,.c (.p .i),.agg MD] (.c .i) [CU] 0 (fun k d=>Cg k (yE d d.2.2.2.2.2.2.2.2.2.2.2.2.2.2.2.2.2.2.1) d.2.2.2.2.2.2.2.2.2.2.2.2.2.2.2.2.2.2.2.1 (yGh d)) (fun x=>(x.1,(zg x.2 ()))) (fun d=>(d.1,(CV d)))
theorem vO6:zD prog acU:=fX f111 n0 1 (e2 zj yAp) zF
def acV:=zI 178 [.c (.dat false .i),.c .i,.c .i] (.c (.own .i)) (fun k d=>vd k d.1 d.2.1 d.2.2.1) (fun x=>(x,())) (fun d=>d.1)
theorem qX3:zD prog acV:=fA f178 n0 e0 zF
def acW:=zI 283 [.c .i] (.c (.own .i)) (fun k d=>Qk k d.1) (fun x=>(x,())) (fun d=>d.1)
theorem qK4:zD prog acW:=fA f283 n0 e0 zF
def yVc:zE:=sp [sO 0 0,sI 3] [oA .i]
def yS8:zE:=sp [sO 0 0] [oA .i]
def vD8 (f:Int→AC→Option AC)(d:yVc.den):=f d.1.2.1.1 d.2.1
def qPa:zT:=⟨[yVc],[(.exit 0,yS8)],AC,fun k d=>vD8 (qPw k k) d,fun b x _ K=>K (.exit 0) (zN b yS8 (((),()),(x,())))⟩
def yOw:zW:=⟨[],[(2,qPa)],[],true⟩
theorem vIw:zS prog 1000 0 35 (zQ (zR f284) 0) qPa:=lp (A:=yOw) qPa (fun d=>d.2.1) vD8 qPw vDt e0 zF
def acX:=yH 284 [.c (.own .i)] (.c (.own .i)) [] 0 (fun k d=>GJ k d.1) (fun x=>(x,())) (fun d=>d.1)
theorem MU:zD prog acX:=fX f284 yOw 0 e0 (loops1 vIw)
def vE2:zE:=sp [sI 1,sO 5 0,sO 6 1,sI 7,sI 8] [oA .i,oA .i]
def ySm:zE:=sp [sI 1,sO 5 0,sO 6 1,sI 7] [oA .i,oA .i]
def yIp (f:qMl)(d:vE2.den):=f d.1.1.1 d.1.2.2.2.1.1 d.1.2.2.2.2.1.1 d.2.1 d.2.2.1
def qKz:zT:=⟨[vE2],[(.exit 2,ySm)],qO7,fun k d=>yIp (qQn k k) d,fun b x _ K=>K (.exit 2) (zN b ySm (((x.1,()),(),(),(x.2.1,()),()),(x.2.2.1,x.2.2.2,())))⟩
def vAf (f:yAo)(d:ySm.den):=f d.1.1.1 d.1.2.2.2.1.1 d.2.1 d.2.2.1
def yCa:zT:=⟨[ySm],[(.exit 0,yZj)],AC,fun k d=>vAf (Qi k k) d,fun b x _ K=>K (.exit 0) (zN b yZj (((),()),(x,())))⟩
def qRd:zW:=⟨[],[(7,qKz),(4,yCa)],[],true⟩
theorem vK2:zS prog 1000 0 47 (zQ (zQ (zR f253) 0) 0) qKz:=lp (A:=qRd) qKz (fun d=>(d.1.1.1,d.1.2.2.2.1.1,d.2.1,d.2.2.1)) yIp qQn yTd (e2 qK4 MU) zF
theorem vJl:zS prog 1000 0 47 (zQ (zR f253) 0) yCa:=lp (A:=qRd) yCa (fun d=>d.2.1) vAf Qi yUw (e2 qK4 MU) (loops1 vK2)
def acY:=zI 253 [.c .i,.c .i] (.c (.own .i)) (fun k d=>Qj k d.1 d.2.1) (fun x=>(x,())) (fun d=>d.1)
theorem vHe:zD prog acY:=fA f253 qRd (e2 qK4 MU) (loops1 vJl)
def yDp:zE:=sp [sO 0 0,sI 1,sI 5] [oA .i]
def yVw (f:Int→Int→AC→Option AC)(d:yDp.den):=f d.1.2.1.1 d.1.2.2.1.1 d.2.1
def qOc:zT:=⟨[yDp],[(.exit 0,yS8)],AC,fun k d=>yVw (Qg k k) d,fun b x _ K=>K (.exit 0) (zN b yS8 (((),()),(x,())))⟩
def yEi:zW:=⟨[],[(2,qOc)],[],true⟩
theorem acZ:zS prog 1000 0 23 (zQ (zR f254) 0) qOc:=lp (A:=yEi) qOc (fun d=>d.2.1) yVw Qg yJo (e1 MU) zF
def vUs:=yH 254 [.c (.own .i),.c (.p .i)] (.c (.own .i)) [] 0 (fun k d=>Qf k d.1 d.2.1) (fun x=>(x,())) (fun d=>d.1)
theorem vR8:zD prog vUs:=fX f254 yEi 0 (e1 MU) (loops1 acZ)
def yWf:zE:=sp [sO 0 0,sI 1,sI 6,sI 7] [oA .i]
def yZf (f:qNw)(d:yWf.den):=f d.1.2.1.1 d.1.2.2.1.1 d.1.2.2.2.1.1 d.2.1
def Sl:zT:=⟨[yWf],[(.exit 0,yS8)],AC,fun k d=>yZf (Ll k k) d,fun b x _ K=>K (.exit 0) (zN b yS8 (((),()),(x,())))⟩
def yW7:zE:=sp [sO 0 0,sI 9] [oA .i]
def yOf:zE:=sp [sI 4,(5,.c .bool)] []
def yC4 (f:yCh)(d:yW7.den):=f d.1.2.1.1 d.2.1
def Sm:zT:=⟨[yW7],[(.exit 2,yS8),(.ret,yOf)],(AC⊕fD),fun k d=>yC4 (GK k k) d,fun b x _ K=>match x with|.inl x=>K (.exit 2) (zN b yS8 (((),()),(x,())))|.inr x=>K .ret (zN b yOf (((x.1,()),(x.2,()),()),()))⟩
def qOh:zW:=⟨[],[(3,Sl),(9,Sm)],[],true⟩
theorem vGx:zS prog 1000 0 66 (zQ (zR f255) 0) Sl:=lp (A:=qOh) Sl (fun d=>d.2.1) yZf Ll yGq e0 zF
theorem vUf:zS prog 1000 0 66 (zQ (zR f255) 1) Sm:=lp (A:=qOh) Sm (fun d=>match d with|.inl d=>.inl d.2.1|.inr d=>.inr (d.1.1.1,d.1.2.1.1)) yC4 GK yLf e0 zF
def vWj:=yH 255 [.c (.own .i),.c (.p .i)] (.tup [(false,yW),(false,[.bool])]) [] 0 (fun k d=>Qh k d.1 d.2.1) (fun x=>(x.1,x.2,())) (fun d=>(d.1,d.2.1))
theorem vVt:zD prog vWj:=fX f255 qOh 0 e0 (nk (n:=2) (by kernel_rfl) fun i hi=>match i,hi with|0,_=>⟨Sl,by kernel_rfl,vGx⟩|1,_=>⟨Sm,by kernel_rfl,vUf⟩|i+2,hi=>absurd hi (by omega))
def vLp:=zI 220 [.c .i,.c .i,.c .i] (.tup [(false,yW),(false,[.bool])]) (fun k d=>Qq k d.1 d.2.1 d.2.2.1) (fun x=>(x.1,x.2,())) (fun d=>(d.1,d.2.1))
theorem vCs:zD prog vLp:=fA f220 n0 (e3 vHe vR8 vVt) zF
def vPy:=zI 221 [.c .i,.c .i] (.tup [(false,yW),(false,[.bool])]) (fun k d=>GM k d.1 d.2.1) (fun x=>(x.1,x.2,())) (fun d=>(d.1,d.2.1))
theorem qRx:zD prog vPy:=fA f221 n0 e0 zF
def yUn:zE:=sp [(0,.c (.dat false jC)),(1,.c (.dat false .i)),(2,.c (.dat false .i)),sI 8,sI 9] []
def yDv:zE:=sp [sI 8] []
def yGs (f:yBp)(d:yUn.den):=f d.1.1.1 d.1.2.1.1 d.1.2.2.1.1 d.1.2.2.2.1.1 d.1.2.2.2.2.1.1
def qU5:zT:=⟨[yUn],[(.exit 0,yDv),(.ret,yPr)],(Int⊕fD),fun k d=>yGs (Lr k k) d,fun b x _ K=>match x with|.inl x=>K (.exit 0) (zN b yDv (((x,()),()),()))|.inr x=>K .ret (zN b yPr (((x.1,()),(x.2,()),()),()))⟩
def yLq:zW:=⟨[],[(5,qU5)],[],true⟩
theorem ac0:zS prog 1000 0 63 (zQ (zR f179) 0) qU5:=lp (A:=yLq) qU5 (fun d=>match d with|.inl d=>.inl d.1.1.1|.inr d=>.inr (d.1.1.1,d.1.2.1.1)) yGs Lr GN (e2 vCs qRx) zF
def vR3:=zI 179 [.c (.dat false jC),.c (.dat false .i),.c (.dat false .i)] (.tup [(false,yW),(false,[.bool])]) (fun k d=>B5 k d.1 d.2.1 d.2.2.1) (fun x=>(x.1,x.2,())) (fun d=>(d.1,d.2.1))
theorem qN8:zD prog vR3:=fA f179 yLq (e2 vCs qRx) (loops1 ac0)
def vG5:=yH 112 [.ptr true CT,.c (.p .i),.c (.p .i)] (.c .i) [CU] 0 (fun k d=>Qz k (yE d d.2.2.2.2.2.2.2.2.2.2.2.2.2.2.2.2.2.2.1) d.2.2.2.2.2.2.2.2.2.2.2.2.2.2.2.2.2.2.2.1 d.2.2.2.2.2.2.2.2.2.2.2.2.2.2.2.2.2.2.2.2.1) (fun x=>(x.1,(zg x.2 ()))) (fun d=>(d.1,(CV d)))
theorem vH0:zD prog vG5:=fX f112 n0 1 (e3 qX3 qN8 zj) zF
def ac1:=zI 180 [.agg oI,.c .i] (.tup [(true,[.i,.i,.i]),(false,yW)]) (fun k d=>G5 k (d.1,d.2.1,d.2.2.1) d.2.2.2.1) (fun x=>(x.1.1,x.1.2.1,x.1.2.2,x.2,())) (fun d=>((d.1,d.2.1,d.2.2.1),d.2.2.2.1))
theorem vIn:zD prog ac1:=fA f180 n0 (e2 qRx Sc) zF
def ac2:=yH 113 [.ptr true CT,.c (.p .bool),.c (.p .i),.c (.p .i)] (.c .i) [CU] 0 (fun k d=>G6 k (yE d d.2.2.2.2.2.2.2.2.2.2.2.2.2.2.2.2.2.2.1) d.2.2.2.2.2.2.2.2.2.2.2.2.2.2.2.2.2.2.2.1 d.2.2.2.2.2.2.2.2.2.2.2.2.2.2.2.2.2.2.2.2.1 d.2.2.2.2.2.2.2.2.2.2.2.2.2.2.2.2.2.2.2.2.2.1) (fun x=>(x.1,(zg x.2 ()))) (fun d=>(d.1,(CV d)))
theorem vJ2:zD prog ac2:=fX f113 n0 1 (e3 yAp zj vIn) zF
def vEt:zE:=sp [sP 0 0,sO 7 1,sP 8 2,sI 9] [oB qZl,oA .i,oB tu,oA qS,.mat,oA .i,.mat]
def yPk:zE:=sp [sP 0 0,sO 7 1,sP 8 2] [oB qZl,oA .i,oB tu,oA qS,.mat,oA .i,.mat]
def yC0:zE:=sp [sP 0 0,sI 6] [oB qZl]
def vBq (f:qYt)(d:vEt.den):=f d.1.2.2.2.1.1 (eJ d.2.1) d.2.2.1 d.2.2.2.2.1 d.2.2.2.2.2.1 d.2.2.2.2.2.2.1 d.2.2.2.2.2.2.2.1
def qY5:zT:=⟨[vEt],[(.exit 0,yPk),(.ret,yC0)],qV3,fun k d=>vBq (vf k k) d,fun b x _ K=>match x with|.inl x=>K (.exit 0) (zN b yPk (((),(),(),()),((jP x.1 ()),x.2.1,(),x.2.2.1,x.2.2.2.1,x.2.2.2.2.1,x.2.2.2.2.2,())))|.inr x=>K .ret (zN b yC0 (((),(x.1,()),()),((jP x.2 ()),())))⟩
def yHi:zW:=⟨[],[(6,qY5)],[],true⟩
theorem vM2:zS prog 1000 1 93 (zQ (zR f114) 0) qY5:=lp (A:=yHi) qY5 (fun d=>match d with|.inl d=>.inl ((eJ d.2.1),d.2.2.1,d.2.2.2.2.1,d.2.2.2.2.2.1,d.2.2.2.2.2.2.1,d.2.2.2.2.2.2.2.1)|.inr d=>.inr (d.1.2.1.1,(eJ d.2.1))) vBq vf G7 (e3 qX3 zj qN8) zF
def ac3:=yH 114 [.ptr true CT,.c (.p .i),.c (.p .i)] (.c .i) [CU] 0 (fun k d=>QA k (yE d d.2.2.2.2.2.2.2.2.2.2.2.2.2.2.2.2.2.2.1) d.2.2.2.2.2.2.2.2.2.2.2.2.2.2.2.2.2.2.2.1 d.2.2.2.2.2.2.2.2.2.2.2.2.2.2.2.2.2.2.2.2.1) (fun x=>(x.1,(zg x.2 ()))) (fun d=>(d.1,(CV d)))
theorem ac4:zD prog ac3:=fX f114 yHi 1 (e3 qX3 zj qN8) (loops1 vM2)
def vQt:=yH 54 [.ptr true CT,.agg vR] (.c .i) [CU] 0 (fun k d=>yk k (yE d d.2.2.2.2.2.2.2.2.2.2.2.2.2.2.2.2.2.2.1) (ac5 d)) (fun x=>(x.1,(zg x.2 ()))) (fun d=>(d.1,(CV d)))
theorem vIz:zD prog vQt:=fX f54 n0 1 (e6 vMj acT vO6 vH0 vJ2 ac4) zF
def qZe:=zI 15 [.agg MK,.agg yx,.agg CO] (.tup [(true,yy),(false,[.own qZ]),(false,yW)]) (fun k d=>LR k (yR d) (rz d) (qZu d)) (fun x=>(vT x.1 (x.2.1,x.2.2,()))) (fun d=>((qQ d),d.2.2.2.2.2.2.2.2.2.2.2.1,d.2.2.2.2.2.2.2.2.2.2.2.2.1))
theorem aae:zD prog qZe:=fA f15 n0 (e7 vY3 zi vp vJn vIz MR R9) zF
def qNf:=yH 18 [.chn [R0,R1,lN]] (.agg yy) [R2,R3,jh] 0 (fun k d=>vP k (kq d) (R4 d) (R5 d)) (fun x=>(vT x.1 ((),(jP x.2.1 ((),(fq x.2.2.1 (iH x.2.2.2 ()))))))) (fun d=>((qQ d),(ac6 d),(ac7 d),(ac8 d)))
theorem qYa:zD prog qNf:=fX f18 n0 0 e0 zF
def yJj:zE:=sp [(0,.c (.dat false .i)),(1,.c (.dat false .i)),sI 5] []
def yZ0 (f:qL8)(d:yJj.den):=f d.1.1.1 d.1.2.1.1 d.1.2.2.1.1
def qLf:zT:=⟨[yJj],[(.exit 0,yV1),(.ret,yFh)],(Unit⊕Bool),fun k d=>yZ0 (Kg k k) d,fun b x _ K=>match x with|.inl x=>K (.exit 0) (zN b yV1 ((),()))|.inr x=>K .ret (zN b yFh (((x,()),()),()))⟩
def vFo:zW:=⟨[],[(4,qLf)],[],false⟩
theorem vUw:zS prog 1000 0 26 (zQ (zR f58) 0) qLf:=lp (A:=vFo) qLf (fun d=>match d with|.inl d=>.inl ()|.inr d=>.inr d.1.1.1) yZ0 Kg EY e0 zF
def qNh:=zI 58 [.c (.dat false .i),.c (.dat false .i)] (.c .bool) (fun k d=>oq k d.1 d.2.1) (fun x=>(x,())) (fun d=>d.1)
theorem Sn:zD prog qNh:=fA f58 vFo e0 (loops1 vUw)
def yGb:zE:=sp [(0,.c (.dat false (.sl .i))),(1,.c (.dat false (.sl .i))),sI 5] []
def vFy (f:qWu)(d:yGb.den):=f d.1.1.1 d.1.2.1.1 d.1.2.2.1.1
def qV2:zT:=⟨[yGb],[(.exit 0,yV1),(.ret,yFh)],(Unit⊕Bool),fun k d=>vFy (Kh k k) d,fun b x _ K=>match x with|.inl x=>K (.exit 0) (zN b yV1 ((),()))|.inr x=>K .ret (zN b yFh (((x,()),()),()))⟩
def yMg:zW:=⟨[],[(4,qV2)],[],false⟩
theorem vLk:zS prog 1000 0 27 (zQ (zR f59) 0) qV2:=lp (A:=yMg) qV2 (fun d=>match d with|.inl d=>.inl ()|.inr d=>.inr d.1.1.1) vFy Kh EZ (e1 Sn) zF
def qYi:=zI 59 [.c (.dat false (.sl .i)),.c (.dat false (.sl .i))] (.c .bool) (fun k d=>uA k d.1 d.2.1) (fun x=>(x,())) (fun d=>d.1)
theorem yXg:zD prog qYi:=fA f59 yMg (e1 Sn) (loops1 vLk)
def yNu:zE:=sp [sP 2 0,sP 3 1,sI 5] [oB jW,oB jW]
def yC3 (f:qYr)(d:yNu.den):=(vK (vK (f d.1.2.2.1.1) d.2.1) d.2.2.1)
def qSz:zT:=⟨[yNu],[(.exit 0,yV1),(.ret,yFh)],(Unit⊕Bool),fun k d=>yC3 (Ki k k) d,fun b x _ K=>match x with|.inl x=>K (.exit 0) (zN b yV1 ((),()))|.inr x=>K .ret (zN b yFh (((x,()),()),()))⟩
def vOe:Env:=⟨prog,fun t=>[119].any (Nat.beq t),fO [qYi,qNh]⟩
theorem yMd:jS vOe:=On (l:=[qYi,qNh]) (eqT:=fun t=>[119].any (Nat.beq t)) (TW (fun t h=>VA (p:=fun t=>prog.keyTypeAt 8 t&& !prog.eqGuardType prog.depth t) (l:=[119]) (List.forall_mem_cons.2 ⟨by kernel_rfl,List.forall_mem_nil _⟩) t h)) ij ⟨yXg,Sn,trivial⟩
def vC1:zW:=⟨[],[(4,qSz)],[],false⟩
theorem vOv:zS prog 1000 0 55 (zQ (zR f57) 0) qSz:=lp (A:=vC1) qSz (fun d=>match d with|.inl d=>.inl ()|.inr d=>.inr d.1.1.1) yC3 Ki E1 yMd zF
def vRm:=zI 57 [.agg eK,.agg eK] (.c .bool) (fun k d=>(mG (E0 k) d)) (fun x=>(x,())) (fun d=>d.1)
theorem vTm:zD prog vRm:=fA f57 vC1 yMd (loops1 vOv)
def yRj:zE:=sp [(0,.c (.dat false zG)),(1,.c (.dat false zG)),sI 5] []
def yT5 (f:qLl)(d:yRj.den):=f d.1.1.1 d.1.2.1.1 d.1.2.2.1.1
def qL2:zT:=⟨[yRj],[(.exit 0,yV1),(.ret,yFh)],(Unit⊕Bool),fun k d=>yT5 (L8 k k) d,fun b x _ K=>match x with|.inl x=>K (.exit 0) (zN b yV1 ((),()))|.inr x=>K .ret (zN b yFh (((x,()),()),()))⟩
def vG4:Env:=⟨prog,fun t=>[142].any (Nat.beq t),fO []⟩
theorem yRe:jS vG4:=On (l:=[]) (eqT:=fun t=>[142].any (Nat.beq t)) (TW (fun t h=>VA (p:=fun t=>prog.keyTypeAt 8 t&& !prog.eqGuardType prog.depth t) (l:=[142]) (List.forall_mem_cons.2 ⟨by kernel_rfl,List.forall_mem_nil _⟩) t h)) ij trivial
def yYb:zW:=⟨[],[(4,qL2)],[],false⟩
theorem vQ5:zS prog 1000 0 26 (zQ (zR f60) 0) qL2:=lp (A:=yYb) qL2 (fun d=>match d with|.inl d=>.inl ()|.inr d=>.inr d.1.1.1) yT5 L8 HG yRe zF
def vW0:=zI 60 [.c (.dat false zG),.c (.dat false zG)] (.c .bool) (fun k d=>Cx k d.1 d.2.1) (fun x=>(x,())) (fun d=>d.1)
theorem vNw:zD prog vW0:=fA f60 yYb yRe (loops1 vQ5)
def qZ3:=zI 17 [.agg pM,.agg pM] (.c .bool) (fun k d=>jN k (qQ d) (ac9 d)) (fun x=>(x,())) (fun d=>d.1)
theorem vHq:zD prog qZ3:=fA f17 n0 (e4 vTm Sn yXg vNw) zF
def qS0:=yH 19 [.ptr true lN] (.tup []) [jh] 0 (fun k d=>nH k (fU d)) (fun x=>(iH x ())) (fun d=>(fU d))
theorem qNy:zD prog qS0:=fX f19 ⟨[],[],[(2,3)],true⟩ 1 e0 (Jl (n:=1) (by kernel_rfl) fun i hi=>match i,hi with|0,_=>.inr ⟨by kernel_rfl,zF⟩|i+1,hi=>absurd hi (by omega))
def yYe:zE:=sp [(0,.c (.dat false .i)),sO 3 0,sI 4,sI 5] [oA (.int .u8)]
def yX6:zE:=sp [(0,.c (.dat false .i)),sO 3 0,sI 4] [oA (.int .u8)]
def vEp (f:yCd)(d:yYe.den):=f d.1.1.1 d.1.2.2.1.1 d.1.2.2.2.1.1 d.2.1
def yBf:zT:=⟨[yYe],[(.exit 2,yX6)],qL0,fun k d=>vEp (Mo k k) d,fun b x _ K=>K (.exit 2) (zN b yX6 (((x.1,()),(),(x.2.1,()),()),(x.2.2,())))⟩
def yXe (f:qNd)(d:yX6.den):=f d.1.1.1 d.1.2.2.1.1 d.2.1
def yCu:zT:=⟨[yX6],[(.exit 0,yPt)],AC,fun k d=>yXe (CF k k) d,fun b x _ K=>K (.exit 0) (zN b yPt (((),()),(x,())))⟩
def qOx:zW:=⟨[],[(6,yBf),(3,yCu)],[],true⟩
theorem ada:zS prog 1000 0 30 (zQ (zQ (zR f28) 0) 0) yBf:=lp (A:=qOx) yBf (fun d=>(d.1.1.1,d.1.2.2.1.1,d.2.1)) vEp Mo Q6 e0 zF
theorem vR7:zS prog 1000 0 30 (zQ (zR f28) 0) yCu:=lp (A:=qOx) yCu (fun d=>d.2.1) yXe CF HN e0 (loops1 ada)
def adb:=zI 28 [.c (.dat false .i)] (.c (.own (.int .u8))) (fun k d=>HM k d.1) (fun x=>(x,())) (fun d=>d.1)
theorem yH5:zD prog adb:=fA f28 qOx e0 (loops1 vR7)
def ade:=zI 66 [.c (.dat false .i)] (.c (.own (.int .u8))) (fun k d=>ko k d.1) (fun x=>(x,())) (fun d=>d.1)
theorem MV:zD prog ade:=fA f66 n0 (e1 yH5) zF
def vE6:zE:=⟨[(0,.c (.dat false (.sl .i))),sO 3 0,sI 4],[oA (.int .u8)],[(3,none,(.int .u8),false)]⟩
def vDz (f:qTe)(d:vE6.den):=f d.1.1.1 d.1.2.2.1.1 d.2.1
def qT3:zT:=⟨[vE6],[(.exit 0,yPt)],AC,fun k d=>vDz (HO k k) d,fun b x _ K=>K (.exit 0) (zN b yPt (((),()),(x,())))⟩
def yQt:zW:=⟨[],[(3,qT3)],[],true⟩
theorem vI9:zS prog 1000 0 19 (zQ (zR f67) 0) qT3:=lp (A:=yQt) qT3 (fun d=>d.2.1) vDz HO HP (e1 MV) zF
def adf:=zI 67 [.c (.dat false (.sl .i))] (.c (.own (.int .u8))) (fun k d=>pJ k d.1) (fun x=>(x,())) (fun d=>d.1)
theorem qU0:zD prog adf:=fA f67 yQt (e1 MV) (loops1 vI9)
def yTy:zE:=sp [sP 1 0,sP 4 1,sO 5 2,sI 6] [oB zh,oB jW,oA (.int .u8)]
def yR5:zE:=sp [sP 1 0,sP 4 1,sO 5 2] [oB zh,oB jW,oA (.int .u8)]
def yOt (f:qPr)(d:yTy.den):=f d.1.2.2.2.1.1 (qQ d.2.1) (wS d.2.2.1) d.2.2.2.1
def So:zT:=⟨[yTy],[(.exit 0,yR5)],qUv,fun k d=>yOt (vl k k) d,fun b x _ K=>K (.exit 0) (zN b yR5 (((),(),(),()),((vT x.1 ()),(fq x.2.1 ()),x.2.2,())))⟩
def yVm:zE:=sp [sP 1 0,sO 5 1,sI 7] [oB zh,oA (.int .u8)]
def yMr:zE:=sp [sP 1 0,sO 5 1] [oB zh,oA (.int .u8)]
def yZg (f:qZy)(d:yVm.den):=f d.1.2.2.1.1 (qQ d.2.1) d.2.2.1
def Sp:zT:=⟨[yVm],[(.exit 2,yMr)],qUl,fun k d=>yZg (vm k k) d,fun b x _ K=>K (.exit 2) (zN b yMr (((),(),()),((vT x.1 ()),x.2,())))⟩
def qVl:zW:=⟨[],[(7,So),(16,Sp)],[],true⟩
theorem vH5:zS prog 1000 0 127 (zQ (zR f29) 0) So:=lp (A:=qVl) So (fun d=>((qQ d.2.1),(wS d.2.2.1),d.2.2.2.1)) yOt vl HQ (e2 MV qU0) zF
theorem adg:zS prog 1000 0 127 (zQ (zR f29) 1) Sp:=lp (A:=qVl) Sp (fun d=>((qQ d.2.1),d.2.2.1)) yZg vm HR (e2 MV qU0) zF
def adh:=zI 29 [.agg pM] (.c (.own (.int .u8))) (fun k d=>HS k (qQ d)) (fun x=>(x,())) (fun d=>d.1)
theorem Sq:zD prog adh:=fA f29 qVl (e2 MV qU0) (nk (n:=2) (by kernel_rfl) fun i hi=>match i,hi with|0,_=>⟨So,by kernel_rfl,vH5⟩|1,_=>⟨Sp,by kernel_rfl,adg⟩|i+2,hi=>absurd hi (by omega))
def vL7:=zI 183 [.c (.dat true (.int .u8))] (.tup [(false,[.own .i]),(false,[.fro (.int .u8)]),(false,[.bool])]) (fun k d=>Q7 k d.1) (fun x=>(x.1,x.2.1,x.2.2,())) (fun d=>(d.1,d.2.1,d.2.2.1))
theorem vH6:zD prog vL7:=fA f183 n0 (e2 qOp qJ8) zF
def adi:=yH 119 [.ptr true H6] (.c (.own .i)) [[.fro (.int .u8),.bool]] 0 (fun k d=>yu k (d.1,d.2.1)) (fun x=>(x.1,x.2.1,x.2.2,())) (fun d=>(d.1,(d.2.1,d.2.2.1)))
theorem Il:zD prog adi:=fX f119 n0 1 (e1 vH6) zF
def adj:=yH 117 [.ptr true H6,.c (.p .i)] (.c (.own .i)) [[.fro (.int .u8),.bool]] 0 (fun k d=>HT k (d.1,d.2.1) d.2.2.1) (fun x=>(x.1,x.2.1,x.2.2,())) (fun d=>(d.1,(d.2.1,d.2.2.1)))
theorem qTg:zD prog adj:=fX f117 n0 1 (e1 Il) zF
def yYo:zE:=⟨[sP 0 0,sI 1,sO 5 1,sI 6],[oB pK,oA (.sl .i)],[(5,none,(.sl .i),false)]⟩
def yPp (f:yAu)(d:yYo.den):=f d.1.2.1.1 d.1.2.2.2.1.1 (d.2.1.1,d.2.1.2.1) d.2.2.1
def qPk:zT:=⟨[yYo],[(.exit 0,yIh)],qRf,fun k d=>yPp (CH k k) d,fun b x _ K=>K (.exit 0) (zN b yIh (((),(),()),((x.1.1,x.1.2,()),x.2,())))⟩
def yE8:zW:=⟨[],[(3,qPk)],[],true⟩
theorem vHi:zS prog 1000 1 24 (zQ (zR f118) 0) qPk:=lp (A:=yE8) qPk (fun d=>((d.2.1.1,d.2.1.2.1),d.2.2.1)) yPp CH HV (e1 Il) zF
def vKz:=yH 118 [.ptr true H6,.c (.p .i)] (.c (.own (.sl .i))) [[.fro (.int .u8),.bool]] 0 (fun k d=>HU k (d.1,d.2.1) d.2.2.1) (fun x=>(x.1,x.2.1,x.2.2,())) (fun d=>(d.1,(d.2.1,d.2.2.1)))
theorem qP5:zD prog vKz:=fX f118 yE8 1 (e1 Il) (loops1 vHi)
def yE4 (f:qXp)(d:yPx.den):=f d.1.1.1 d.1.2.2.2.2.2.1.1 (d.2.1.1,d.2.1.2.1,d.2.1.2.2.1) (d.2.2.1.1,d.2.2.1.2.1) d.2.2.2.1 (d.2.2.2.2.1.1,d.2.2.2.2.1.2.1,d.2.2.2.2.1.2.2.1) d.2.2.2.2.2.1
def Sr:zT:=⟨[yPx],[(.exit 0,yMx)],qXr,fun k d=>yE4 (CI k k) d,fun b x _ K=>K (.exit 0) (zN b yMx (((x.1,()),(),(),(),(),()),((x.2.1.1,x.2.1.2.1,x.2.1.2.2,()),(x.2.2.1.1,x.2.2.1.2,()),x.2.2.2.1,(x.2.2.2.2.1.1,x.2.2.2.2.1.2.1,x.2.2.2.2.1.2.2,()),x.2.2.2.2.2,())))⟩
def yOb:zE:=⟨[(0,.c (.dat true (.int .u8))),sP 2 0,sP 4 1,sO 5 2,sP 6 3,sI 9],[oB jX,oB pK,oA .i,oB [.i,.lit (.osl 1001004 none),.lit (.osl 1001005 none),.lit (.osl 1001006 none),.lit (.osl 1001007 none),.lit (.osl 1001008 none),.lit (.osl 1001009 none),.lit (.osl 1001010 none),.lit .nsl,.i,.bool],oA qS,oA (.sl .i),oA .i,oA (.sl .i),oA .i,oA (.sl .i),oA zG],[(6,some 7,zG,false)]⟩
def yLd (f:qMz)(d:yOb.den):=f d.1.1.1 d.1.2.2.2.2.2.1.1 (d.2.1.1,d.2.1.2.1,d.2.1.2.2.1) (d.2.2.1.1,d.2.2.1.2.1) d.2.2.2.1 (d.2.2.2.2.1.1,d.2.2.2.2.1.2.1,d.2.2.2.2.1.2.2.1) d.2.2.2.2.2.1 d.2.2.2.2.2.2.1 d.2.2.2.2.2.2.2.1 d.2.2.2.2.2.2.2.2.1 d.2.2.2.2.2.2.2.2.2.1 d.2.2.2.2.2.2.2.2.2.2.1 d.2.2.2.2.2.2.2.2.2.2.2.1
def Ss:zT:=⟨[yOb],[(.exit 2,yD7)],qJd,fun k d=>yLd (CJ k k) d,fun b x _ K=>K (.exit 2) (zN b yD7 (((x.1,()),(),(),(),()),((x.2.1.1,x.2.1.2.1,x.2.1.2.2,()),(x.2.2.1.1,x.2.2.1.2,()),(x.2.2.2.1.1,x.2.2.2.1.2.1,x.2.2.2.1.2.2,()),x.2.2.2.2.1,x.2.2.2.2.2.1,x.2.2.2.2.2.2.1,x.2.2.2.2.2.2.2.1,x.2.2.2.2.2.2.2.2.1,x.2.2.2.2.2.2.2.2.2.1,x.2.2.2.2.2.2.2.2.2.2,())))⟩
def qP7:zW:=⟨[],[(5,Sr),(15,Ss)],[],true⟩
theorem adk:zS prog 1000 0 154 (zQ (zR f61) 0) Sr:=lp (A:=qP7) Sr (fun d=>(d.1.1.1,(d.2.1.1,d.2.1.2.1,d.2.1.2.2.1),(d.2.2.1.1,d.2.2.1.2.1),d.2.2.2.1,(d.2.2.2.2.1.1,d.2.2.2.2.1.2.1,d.2.2.2.2.1.2.2.1),d.2.2.2.2.2.1)) yE4 CI HW (e4 qTg qP5 Il Sq) zF
theorem adl:zS prog 1000 0 154 (zQ (zR f61) 1) Ss:=lp (A:=qP7) Ss (fun d=>(d.1.1.1,(d.2.1.1,d.2.1.2.1,d.2.1.2.2.1),(d.2.2.1.1,d.2.2.1.2.1),(d.2.2.2.1.1,d.2.2.2.1.2.1,d.2.2.2.1.2.2.1),d.2.2.2.2.1,d.2.2.2.2.2.1,d.2.2.2.2.2.2.1,d.2.2.2.2.2.2.2.1,d.2.2.2.2.2.2.2.2.1,d.2.2.2.2.2.2.2.2.2.1,d.2.2.2.2.2.2.2.2.2.2.1)) yLd CJ HX (e4 qTg qP5 Il Sq) zF
def vJf:=zI 61 [.c (.dat true (.int .u8))] (.tup [(true,yVo),(false,[.bool])]) (fun k d=>Mr k d.1) (fun x=>(vT x.1 (x.2,()))) (fun d=>((qQ d),d.2.2.2.2.2.2.2.2.2.2.2.1))
theorem vYp:zD prog vJf:=fA f61 qP7 (e4 qTg qP5 Il Sq) (nk (n:=2) (by kernel_rfl) fun i hi=>match i,hi with|0,_=>⟨Sr,by kernel_rfl,adk⟩|1,_=>⟨Ss,by kernel_rfl,adl⟩|i+2,hi=>absurd hi (by omega))
def qJ2:=zI 20 [.agg pM] (.agg yVo) (fun k d=>jc k (qQ d)) (fun x=>(vT x ())) (fun d=>(qQ d))
theorem vW1:zD prog qJ2:=fA f20 n0 (e2 Sq vYp) zF
def vV7:=zI 64 [.c .i,.c .i,.c (.dat false .i)] (.agg qRs) (fun k d=>MW k d.1 d.2.1 d.2.2.1) (fun x=>(CN x ())) (fun d=>(lM d))
theorem vN9:zD prog vV7:=fA f64 n0 (e1 vp) zF
def adm:=zI 23 [.agg vR] (.c (.own (.int .u8))) (fun k d=>yR8 k (vY d)) (fun x=>(x,())) (fun d=>d.1)
theorem adn:zD prog adm:=fA f23 ⟨[1],[],[],true⟩ (e3 vEx MN yH5) zF
def vZh:=zI 63 [.agg CO] (.agg [.i,.i,.own (.int .u8),.i,.i]) (fun k d=>MX k (lM d)) (fun x=>(jG x ())) (fun d=>(yR d))
theorem ado:zD prog vZh:=fA f63 n0 (e1 adn) zF
def vRu:=zI 185 [.agg CO] (.c .bool) (fun k d=>yS6 k (lM d)) (fun x=>(x,())) (fun d=>d.1)
theorem vEu:zD prog vRu:=fA f185 n0 e0 zF
def yOk:zE:=sp [(0,.c (.dat false qZ)),(1,.c (.lit (.fn 185 []))),sI 7,sI 8] []
def vFi (f:qTo)(d:yOk.den):=f d.1.1.1 d.1.2.2.1.1 d.1.2.2.2.1.1
def qM2:zT:=⟨[yOk],[(.exit 0,yV1),(.ret,vC4)],(Unit⊕Int),fun k d=>vFi (qKv k k) d,fun b x _ K=>match x with|.inl x=>K (.exit 0) (zN b yV1 ((),()))|.inr x=>K .ret (zN b vC4 (((x,()),()),()))⟩
def vA8:zW:=⟨[],[(2,qM2)],[],true⟩
theorem adp:zS prog 1000 0 19 (zQ (zR f229) 0) qM2:=lp (A:=vA8) qM2 (fun d=>match d with|.inl d=>.inl ()|.inr d=>.inr d.1.1.1) vFi qKv vDq (e1 vEu) zF
def vVx:=zI 229 [.c (.dat false qZ),.c (.fn 185)] (.c .i) (fun k d=>yLt k d.1) (fun x=>(x,())) (fun d=>d.1)
theorem vJ8:zD prog vVx:=fA f229 vA8 (e1 vEu) (loops1 adp)
def vWk:=zI 184 [.c (.dat false qZ),.c (.fn 185)] (.c .bool) (fun k d=>yHn k d.1) (fun x=>(x,())) (fun d=>d.1)
theorem vU0:zD prog vWk:=fA f184 n0 (e1 vJ8) zF
def vZx:=zI 120 [.c (.dat false qZ)] (.c .bool) (fun k d=>qYe k d.1) (fun x=>(x,())) (fun d=>d.1)
theorem vB4:zD prog vZx:=fA f120 n0 (e1 vU0) zF
def adq:=zI 16 [.c (.nilp)] (.c .bool) (fun k d=>MY k) (fun x=>(x,())) (fun d=>d.1)
theorem qSm:zD prog adq:=fA f16 n0 e0 zF
def adr:=zI 13 [.c (.nilp),.c .i,.c (.dat false (.int .u8))] (.c (.own qZ)) (fun k d=>yK8 k d.2.1 d.2.2.1) (fun x=>(x,())) (fun d=>d.1)
theorem vE9:zD prog adr:=fA f13 n0 (e3 qSm MA vGh) zF
def vKt:=zI 18 [.c (.nilp)] (.agg qKw) (fun k d=>qNr k) (fun x=>(vT x ())) (fun d=>(qQ d))
theorem yC7:zD prog vKt:=fA f18 n0 e0 zF
def yEb:zE:=⟨[sI 2,sP 4 0,sP 8 1,sP 9 2,sP 10 5,sP 12 7,(30,.c (.dat false yw)),sI 31,sI 32],[oB Ij,oB Su,oB qQ7,oA (.int .u8),oA (.int .u8),oB yIq,oB [.lit (.ptr 1001002 0),.i,.i,.i,.bool],oB [.lit (.osl 1001008 none),.lit (.osl 1001009 none),.i,.lit .nsl,.lit .nsl,.lit .nsl,.lit .nsl,.lit .nsl,.lit .nsl,.lit .nsl,.lit .nsl,.i,.bool,.bool],oA (.sl qZ),oA qZ],[(12,some 0,(.sl qZ),false),(12,some 1,qZ,false)]⟩
def vEc:zE:=⟨[sI 2,sP 4 0,sP 8 1,sP 9 2,(10,.c (.lit .nilp)),sP 12 5,(30,.c (.dat false yw)),sI 31,sI 32],[oB Ij,oB Su,oB qQ7,oA (.int .u8),oA (.int .u8),oB [.lit (.osl 1001006 none),.lit (.osl 1001007 none),.i,.lit .nsl,.lit .nsl,.lit .nsl,.lit .nsl,.lit .nsl,.lit .nsl,.lit .nsl,.lit .nsl,.i,.bool,.bool],oA (.sl qZ),oA qZ],[(12,some 0,(.sl qZ),false),(12,some 1,qZ,false)]⟩
def yWd:zE:=sp [sP 8 0,(10,.c (.lit .nilp)),sP 12 1] [oB Su,oB [.lit (.osl 1001002 none),.lit (.osl 1001003 none),.i,.lit .nsl,.lit .nsl,.lit .nsl,.lit .nsl,.lit .nsl,.lit .nsl,.lit .nsl,.lit .nsl,.i,.bool,.bool],oA (.sl qZ),oA qZ]
def yKl:zE:=sp [sP 8 0,sP 10 1,sP 12 6] [oB Su,oB [.lit (.ptr 1001002 0),.i,.dat true jC,.i,.i,.i,.i,.dat true qS,.dat true (.sl .i),.dat true .i,.dat true (.sl .i),.dat true .i,.dat true (.sl .i),.dat true zG,.dat true .i,.i,.bool,.i,.bool],oB [.lit (.ptr 1001003 0),.i,.i,.i,.bool],oB [.i,.lit (.osl 1001004 none),.i,.lit (.osl 1001005 none),.i,.i,.i,.bool,.bool,.i],oA (.int .u8),oA (.int .u8),oB [.lit (.osl 1001007 none),.lit (.osl 1001008 none),.i,.lit .nsl,.lit .nsl,.lit .nsl,.lit .nsl,.lit .nsl,.lit .nsl,.lit .nsl,.lit .nsl,.i,.bool,.bool],oA (.sl qZ),oA qZ]
def yR1 (f:qT2)(d:rW [yEb,vEc]):Option Sv:=match d with|.inl d=>f (.inl (d.1.1.1,d.1.2.2.2.2.2.2.1.1,d.1.2.2.2.2.2.2.2.1.1,d.1.2.2.2.2.2.2.2.2.1.1,(yR d.2.1),(wS d.2.2.1),(lM d.2.2.2.1),d.2.2.2.2.1,d.2.2.2.2.2.1,(eJ d.2.2.2.2.2.2.1),(wS d.2.2.2.2.2.2.2.1),(wS d.2.2.2.2.2.2.2.2.1),d.2.2.2.2.2.2.2.2.2.1,d.2.2.2.2.2.2.2.2.2.2.1))|.inr d=>f (.inr (d.1.1.1,d.1.2.2.2.2.2.2.1.1,d.1.2.2.2.2.2.2.2.1.1,d.1.2.2.2.2.2.2.2.2.1.1,(yR d.2.1),(wS d.2.2.1),(lM d.2.2.2.1),d.2.2.2.2.1,d.2.2.2.2.2.1,(wS d.2.2.2.2.2.2.1),d.2.2.2.2.2.2.2.1,d.2.2.2.2.2.2.2.2.1))
def qTz:zT:=⟨[yEb,vEc],[(.exit 0,yWd),(.exit 0,yKl)],Sv,fun k d=>yR1 (Sw k k) d,fun b x _ K=>match x with|.inl x=>K (.exit 0) (zN b yWd (((),(),(),()),((fq x.1 ()),(fq x.2.1 ()),x.2.2.1,x.2.2.2,())))|.inr x=>K (.exit 0) (zN b yKl (((),(),(),()),((fq x.1 ()),(jP x.2.1 ()),(fq x.2.2.1 ()),(CN x.2.2.2.1 ()),x.2.2.2.2.1,x.2.2.2.2.2.1,(fq x.2.2.2.2.2.2.1 ()),x.2.2.2.2.2.2.2.1,x.2.2.2.2.2.2.2.2,())))⟩
def yX7:zW:=⟨[],[(7,qTz)],[],true⟩
theorem vN0:zS prog 1000 0 110 (zQ (zR f62) 0) qTz:=lp (A:=yX7) qTz (fun d=>match d with|.inl d=>.inl ((wS d.2.1),(wS d.2.2.1),d.2.2.2.1,d.2.2.2.2.1)|.inr d=>.inr ((wS d.2.1),(eJ d.2.2.1),(wS d.2.2.2.1),(lM d.2.2.2.2.1),d.2.2.2.2.2.1,d.2.2.2.2.2.2.1,(wS d.2.2.2.2.2.2.2.1),d.2.2.2.2.2.2.2.2.1,d.2.2.2.2.2.2.2.2.2.1)) yR1 Sw yD8 (e12 F2q qNb qZz MA vB4 Rb qVr qNy vE9 qSm yC7 qYa) zF (hs:=by intro k rec d;rcases d with d|d<;>kernel_rfl) (h0:=by intro k d;rcases d with d|d<;>rfl)
def ads:=zI 62 [.agg MK,.c .i,.c .i,.c (.dat false yw)] (.agg [.own (.sl qZ),.own qZ,.i,.fro qS,.fro (.sl .i),.fro .i,.fro (.sl .i),.fro .i,.fro (.sl .i),.fro zG,.fro .i,.i,.bool,.bool]) (fun k d=>yK1 k (yR d) d.2.2.2.2.2.1 d.2.2.2.2.2.2.1 d.2.2.2.2.2.2.2.1) (fun x=>(RK x ())) (fun d=>(qRv d))
theorem vX2:zD prog ads:=fA f62 yX7 (e12 F2q qNb qZz MA vB4 Rb qVr qNy vE9 qSm yC7 qYa) (loops1 vN0)
def yAs:=zI 21 [] (.c .bool) (fun k d=>qSn k) (fun x=>(x,())) (fun d=>d.1)
theorem vXf:zD prog yAs:=fA f21 n0 (e4 F1q vN9 ado vX2) zF
end
end Go.Ab.Gi
