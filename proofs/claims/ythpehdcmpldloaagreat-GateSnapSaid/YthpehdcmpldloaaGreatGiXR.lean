/- part 100 -/
import Derived.Test.YthpehdcmpldloaaGreatGiXS
import Derived.Test.YthpehdcmpldloaaGreatGiAbE
import Derived.Test.YthpehdcmpldloaaGreatProg
set_option linter.unusedVariables false
set_option maxRecDepth 100000
set_option maxHeartbeats 4000000
namespace Go.Ab.Gi
open Go.RowKit Go.Lib Go.Proofs Go.Proofs.Tryz
noncomputable section
theorem gE:prog.follows .mixedOrders=true:=by kernel_rfl
abbrev n0:zY:=⟨[],[],[],true⟩
theorem e0:jJ ⟨prog,fun _=>false,fg []⟩:=nh (l:=[]) gE trivial
theorem e1 {a0}(h0:zD prog a0):jJ ⟨prog,fun _=>false,fg [a0]⟩:=nh (l:=[a0]) gE ⟨h0,trivial⟩
theorem e2 {a0 a1}(h0:zD prog a0)(h1:zD prog a1):jJ ⟨prog,fun _=>false,fg [a0,a1]⟩:=nh (l:=[a0,a1]) gE ⟨h0,h1,trivial⟩
theorem e3 {a0 a1 a2}(h0:zD prog a0)(h1:zD prog a1)(h2:zD prog a2):jJ ⟨prog,fun _=>false,fg [a0,a1,a2]⟩:=nh (l:=[a0,a1,a2]) gE ⟨h0,h1,h2,trivial⟩
theorem e4 {a0 a1 a2 a3}(h0:zD prog a0)(h1:zD prog a1)(h2:zD prog a2)(h3:zD prog a3):jJ ⟨prog,fun _=>false,fg [a0,a1,a2,a3]⟩:=nh (l:=[a0,a1,a2,a3]) gE ⟨h0,h1,h2,h3,trivial⟩
theorem e5 {a0 a1 a2 a3 a4}(h0:zD prog a0)(h1:zD prog a1)(h2:zD prog a2)(h3:zD prog a3)(h4:zD prog a4):jJ ⟨prog,fun _=>false,fg [a0,a1,a2,a3,a4]⟩:=nh (l:=[a0,a1,a2,a3,a4]) gE ⟨h0,h1,h2,h3,h4,trivial⟩
theorem e6 {a0 a1 a2 a3 a4 a5}(h0:zD prog a0)(h1:zD prog a1)(h2:zD prog a2)(h3:zD prog a3)(h4:zD prog a4)(h5:zD prog a5):jJ ⟨prog,fun _=>false,fg [a0,a1,a2,a3,a4,a5]⟩:=nh (l:=[a0,a1,a2,a3,a4,a5]) gE ⟨h0,h1,h2,h3,h4,h5,trivial⟩
theorem e7 {a0 a1 a2 a3 a4 a5 a6}(h0:zD prog a0)(h1:zD prog a1)(h2:zD prog a2)(h3:zD prog a3)(h4:zD prog a4)(h5:zD prog a5)(h6:zD prog a6):jJ ⟨prog,fun _=>false,fg [a0,a1,a2,a3,a4,a5,a6]⟩:=nh (l:=[a0,a1,a2,a3,a4,a5,a6]) gE ⟨h0,h1,h2,h3,h4,h5,h6,trivial⟩
theorem e8 {a0 a1 a2 a3 a4 a5 a6 a7}(h0:zD prog a0)(h1:zD prog a1)(h2:zD prog a2)(h3:zD prog a3)(h4:zD prog a4)(h5:zD prog a5)(h6:zD prog a6)(h7:zD prog a7):jJ ⟨prog,fun _=>false,fg [a0,a1,a2,a3,a4,a5,a6,a7]⟩:=nh (l:=[a0,a1,a2,a3,a4,a5,a6,a7]) gE ⟨h0,h1,h2,h3,h4,h5,h6,h7,trivial⟩
theorem e9 {a0 a1 a2 a3 a4 a5 a6 a7 a8}(h0:zD prog a0)(h1:zD prog a1)(h2:zD prog a2)(h3:zD prog a3)(h4:zD prog a4)(h5:zD prog a5)(h6:zD prog a6)(h7:zD prog a7)(h8:zD prog a8):jJ ⟨prog,fun _=>false,fg [a0,a1,a2,a3,a4,a5,a6,a7,a8]⟩:=nh (l:=[a0,a1,a2,a3,a4,a5,a6,a7,a8]) gE ⟨h0,h1,h2,h3,h4,h5,h6,h7,h8,trivial⟩
theorem e10 {a0 a1 a2 a3 a4 a5 a6 a7 a8 a9}(h0:zD prog a0)(h1:zD prog a1)(h2:zD prog a2)(h3:zD prog a3)(h4:zD prog a4)(h5:zD prog a5)(h6:zD prog a6)(h7:zD prog a7)(h8:zD prog a8)(h9:zD prog a9):jJ ⟨prog,fun _=>false,fg [a0,a1,a2,a3,a4,a5,a6,a7,a8,a9]⟩:=nh (l:=[a0,a1,a2,a3,a4,a5,a6,a7,a8,a9]) gE ⟨h0,h1,h2,h3,h4,h5,h6,h7,h8,h9,trivial⟩
theorem e11 {a0 a1 a2 a3 a4 a5 a6 a7 a8 a9 Il}(h0:zD prog a0)(h1:zD prog a1)(h2:zD prog a2)(h3:zD prog a3)(h4:zD prog a4)(h5:zD prog a5)(h6:zD prog a6)(h7:zD prog a7)(h8:zD prog a8)(h9:zD prog a9)(UZ:zD prog Il):jJ ⟨prog,fun _=>false,fg [a0,a1,a2,a3,a4,a5,a6,a7,a8,a9,Il]⟩:=nh (l:=[a0,a1,a2,a3,a4,a5,a6,a7,a8,a9,Il]) gE ⟨h0,h1,h2,h3,h4,h5,h6,h7,h8,h9,UZ,trivial⟩
def R2q:=yW 9 [.c (.p .i)] (.c (.link 0)) [kG] 1 (fun k d=>PH k d.1) (fun x=>((),(jt x ()))) (fun d=>(GL d))
theorem F2q:zD prog R2q:=fX f9 n0 0 e0 zF
def R3q:=zJ 72 [.c .i,.c .i,.c .i] (.c .bool) (fun k d=>rU k d.1 d.2.1 d.2.2.1) (fun x=>(x,())) (fun d=>d.1)
theorem F3q:zD prog R3q:=fA f72 n0 e0 zF
def R4q:=zJ 71 [.agg [.i,.i]] (.c .bool) (fun k d=>yU3 k (d.1,d.2.1)) (fun x=>(x,())) (fun d=>d.1)
theorem F4q:zD prog R4q:=fA f71 n0 (e1 F3q) zF
def yG9:zE:=sp [(0,.c (.dat false jK)),(1,.c (.lit (.fn 71 []))),sI 7,sI 8] []
def yQs:zE:=sp [] []
def yBi:zE:=sp [sI 4] []
def yC5 (f:Yk)(d:yG9.den):=f d.1.1.1 d.1.2.2.1.1 d.1.2.2.2.1.1
def Yl:zT:=⟨[yG9],[(.exit 0,yQs),(.ret,yBi)],(Unit⊕Int),fun k d=>yC5 (Ym k k) d,fun b x _ K=>match x with|.inl x=>K (.exit 0) (zM b yQs ((),()))|.inr x=>K .ret (zM b yBi (((x,()),()),()))⟩
def A5q:zY:=⟨[],[(2,Yl)],[],true⟩
theorem vQx:zS prog 1000 0 19 (zQ (zR f121) 0) Yl:=lp (A:=A5q) Yl (fun d=>match d with|.inl d=>.inl ()|.inr d=>.inr d.1.1.1) yC5 Ym yYp (e1 F4q) zF
def R5q:=zJ 121 [.c (.dat false jK),.c (.fn 71)] (.c .i) (fun k d=>yYs k d.1) (fun x=>(x,())) (fun d=>d.1)
theorem F5q:zD prog R5q:=fA f121 A5q (e1 F4q) (qD vQx)
def R6q:=zJ 73 [.c (.dat false jK),.c (.fn 71)] (.c .bool) (fun k d=>yVo k d.1) (fun x=>(x,())) (fun d=>d.1)
theorem F6q:zD prog R6q:=fA f73 n0 (e1 F5q) zF
def R7q:=zJ 32 [.agg ju] (.c .bool) (fun k d=>xz k (yR d)) (fun x=>(x,())) (fun d=>d.1)
theorem F7q:zD prog R7q:=fA f32 n0 (e2 F3q F6q) zF
def R8q:=zJ 69 [.c .i] (.c .bool) (fun k d=>PQ k d.1) (fun x=>(x,())) (fun d=>d.1)
theorem Yn:zD prog R8q:=fA f69 n0 e0 zF
def R9q:=vm 186 false (.int .u8) (.own (.int .u8)) Bv
theorem F9q:zD prog R9q:=fC f186 n0 e0 zF
def vX4:=zJ 123 [.ptr K5,.c .i] (.c (.own (.int .u8))) (fun k d=>X4 k (ic d) d.2.2.2.2.2.2.2.2.2.2.1) (fun x=>(x,())) (fun d=>d.1)
theorem vWp:zD prog vX4:=fA f123 n0 (e2 Yn F9q) zF
def yWs:zE:=⟨[(0,.c (.dat false (.int .u8))),sO 2 0],[oA (.sl (.int .u8))],[(2,none,(.sl (.int .u8)),false)]⟩
def yB5:zE:=sp [(0,.c (.dat false (.int .u8))),sO 2 0] [oA (.sl (.int .u8))]
def yF2 (f:Yo)(d:yWs.den):=f d.1.1.1 d.2.1
def Yp:zT:=⟨[yWs],[(.exit 0,yB5)],Yq,fun k d=>yF2 (Dw k k) d,fun b x _ K=>K (.exit 0) (zM b yB5 (((x.1,()),(),()),(x.2,())))⟩
def yHh:zY:=⟨[],[(1,Yp)],[],true⟩
theorem vSx:zS prog 1000 0 43 (zQ (zR f122) 0) Yp:=lp (A:=yHh) Yp (fun d=>(d.1.1.1,d.2.1)) yF2 Dw Dx e0 zF
def vTf:=zJ 122 [.c (.dat false (.int .u8))] (.tup [(false,[.own (.sl (.int .u8))]),(false,vC)]) (fun k d=>Nh k d.1) (fun x=>(x.1,x.2,())) (fun d=>(d.1,d.2.1))
theorem vPt:zD prog vTf:=fA f122 yHh e0 (qD vSx)
def yD7:zE:=sp [(0,.c (.dat false (.int .u8))),sO 4 0,(5,.c (.int .u64)),(16,.c (.dat false (.int .u8))),sI 17,sI 18] [oA .i]
def yT9:zE:=sp [(0,.c (.dat false (.int .u8))),sO 4 0,(5,.c (.int .u64))] [oA .i]
def yU5 (f:Yr)(d:yD7.den):=f d.1.1.1 d.1.2.2.1.1 d.1.2.2.2.1.1 d.1.2.2.2.2.1.1 d.1.2.2.2.2.2.1.1 d.2.1
def Ys:zT:=⟨[yD7],[(.exit 2,yT9)],Yt,fun k d=>yU5 (Dc k k) d,fun b x _ K=>K (.exit 2) (zM b yT9 (((x.1,()),(),(x.2.1,()),()),(x.2.2,())))⟩
def yDj:zE:=⟨[(0,.c (.dat false (.int .u8))),sO 4 0],[oA .i],[(4,none,.i,false)]⟩
def yEu:zE:=sp [sO 4 0] [oA .i]
def yRc (f:AC→AC→Option AC)(d:yDj.den):=f d.1.1.1 d.2.1
def Yu:zT:=⟨[yDj],[(.exit 0,yEu)],AC,fun k d=>yRc (Dd k k) d,fun b x _ K=>K (.exit 0) (zM b yEu (((),()),(x,())))⟩
def Yv:zY:=⟨[],[(7,Ys),(4,Yu)],[],true⟩
theorem vNm:zS prog 1000 0 36 (zQ (zQ (zR f90) 0) 0) Ys:=lp (A:=Yv) Ys (fun d=>(d.1.1.1,d.1.2.2.1.1,d.2.1)) yU5 Dc M8 e0 zF
theorem vFd:zS prog 1000 0 36 (zQ (zR f90) 0) Yu:=lp (A:=Yv) Yu (fun d=>d.2.1) yRc Dd De e0 (qD vNm)
def vWj:=zJ 90 [.c (.dat false (.int .u8))] (.tup [(false,[.own .i]),(false,vC)]) (fun k d=>rF k d.1) (fun x=>(x.1,x.2,())) (fun d=>(d.1,d.2.1))
theorem PR:zD prog vWj:=fA f90 Yv e0 (qD vFd)
def vIo:=zJ 74 [.ptr K5,.c .i] (.tup [(false,vC),(false,[.fro (.int .u8)]),(false,[.fro (.sl (.int .u8))])]) (fun k d=>xw k (ic d) d.2.2.2.2.2.2.2.2.2.2.1) (fun x=>(x.1,x.2.1,x.2.2,())) (fun d=>(d.1,d.2.1,d.2.2.1))
theorem vHu:zD prog vIo:=fA f74 n0 (e3 vWp vPt PR) zF
def vG3:=zJ 33 [.ptr K5] (.tup [(false,vC),(false,vC),(false,[.fro (.int .u8)]),(false,[.fro (.sl (.int .u8))]),(false,[.bool])]) (fun k d=>KY k (ic d)) (fun x=>(jD x ())) (fun d=>(d.1,d.2.1,d.2.2.1,d.2.2.2.1,d.2.2.2.2.1))
theorem Yw:zD prog vG3:=fA f33 ⟨[],[],[(2,3)],true⟩ (e1 vHu) (MG (n:=1) (by kernel_rfl) fun i hi=>match i,hi with|0,_=>.inr ⟨by kernel_rfl,zF⟩|i+1,hi=>absurd hi (by omega))
def vXy:=zJ 129 [.c .i] (.c .bool) (fun k d=>I9 k d.1) (fun x=>(x,())) (fun d=>d.1)
theorem PT:zD prog vXy:=fA f129 ⟨[],[],[],false⟩ e0 zF
def yNn:zE:=sp [sI 1,sO 5 0,sI 13,sI 14] [oA .i]
def yOo:zE:=sp [sO 5 0] [oA .i]
def yPt (f:Yx)(d:yNn.den):=f d.1.1.1 d.1.2.2.1.1 d.1.2.2.2.1.1 d.2.1
def Yy:zT:=⟨[yNn],[(.exit 0,yOo)],AC,fun k d=>yPt (Ja k k) d,fun b x _ K=>K (.exit 0) (zM b yOo (((),()),(x,())))⟩
def yRi:zY:=⟨[],[(5,Yy)],[],false⟩
theorem Yz:zS prog 1000 0 23 (zQ (zR f79) 0) Yy:=lp (A:=yRi) Yy (fun d=>d.2.1) yPt Ja Eb (e1 PT) zF
def vTo:=zJ 79 [.c .i,.c .i] (.c (.own .i)) (fun k d=>AB k d.1 d.2.1) (fun x=>(x,())) (fun d=>d.1)
theorem BC:zD prog vTo:=fA f79 yRi (e1 PT) (qD Yz)
def yZp:zE:=sp [sI 0,sI 1,sO 5 0,sI 13,sI 14] [.mat]
def yYq:zE:=sp [sO 5 0] [.mat]
def yT3 (f:YA)(d:yZp.den):=f d.1.1.1 d.1.2.1.1 d.1.2.2.2.1.1 d.1.2.2.2.2.1.1 d.2.1
def YB:zT:=⟨[yZp],[(.exit 0,yYq)],EQ,fun k d=>yT3 (Jb k k) d,fun b x _ K=>K (.exit 0) (zM b yYq (((),()),(x,())))⟩
def yFp:zY:=⟨[11],[(5,YB)],[],false⟩
theorem YC:zS prog 1000 0 25 (zQ (zR f78) 0) YB:=lp (A:=yFp) YB (fun d=>d.2.1) yT3 Jb Ed (e2 PT BC) zF
def YD:=zJ 78 [.c .i,.c .i] (.c (.mat)) (fun k d=>Ec k d.1 d.2.1) (fun x=>(x,())) (fun d=>d.1)
theorem K6:zD prog YD:=fA f78 yFp (e2 PT BC) (qD YC)
def yWk:zE:=⟨[sP 1 0,sP 2 1,sI 3,sP 4 2,(20,.c (.dat false jK)),sI 21,sI 22],[oB pG,oB fq,oB PU,oA qX,.mat,oA .i,.mat,oA .i],[(4,some 5,.i,false)]⟩
def vAl:zE:=sp [sP 1 0,sP 2 1,sI 3,sP 4 2] [oB pG,oB fq,oB PU,oA qX,.mat,oA .i,.mat,oA .i]
def yD0 (f:YE)(d:yWk.den):=f d.1.2.2.1.1 d.1.2.2.2.2.1.1 d.1.2.2.2.2.2.1.1 d.1.2.2.2.2.2.2.1.1 (yR d.2.1) (d.2.2.1.1,d.2.2.1.2.1,d.2.2.1.2.2.1) (d.2.2.2.1.1,d.2.2.2.1.2.1,d.2.2.2.1.2.2.1) d.2.2.2.2.1 d.2.2.2.2.2.1 d.2.2.2.2.2.2.1 d.2.2.2.2.2.2.2.1 d.2.2.2.2.2.2.2.2.1
def PV:zT:=⟨[yWk],[(.exit 0,vAl)],YF,fun k d=>yD0 (YG k k) d,fun b x _ K=>K (.exit 0) (zM b vAl (((),(),(x.1,()),(),()),((jD x.2.1 ()),(x.2.2.1.1,x.2.2.1.2.1,x.2.2.1.2.2,()),(x.2.2.2.1.1,x.2.2.2.1.2.1,x.2.2.2.1.2.2,()),x.2.2.2.2.1,x.2.2.2.2.2.1,x.2.2.2.2.2.2.1,x.2.2.2.2.2.2.2.1,x.2.2.2.2.2.2.2.2,())))⟩
def yEt:zE:=⟨[sP 1 0,sP 2 1,sP 4 2,sI 34,sI 35],[oB pG,oB fq,oB yW5,oA qX,.mat,oA .i,.mat,oA .i,.mat],[(4,some 6,(.sl .i),true)]⟩
def vCr:zE:=sp [sP 2 0,sP 4 1] [oB fq,oB yD2,oA qX,.mat,oA .i,.mat,oA .i,.mat]
def yVd (f:YH)(d:yEt.den):=f d.1.2.2.2.1.1 d.1.2.2.2.2.1.1 (yR d.2.1) (d.2.2.1.1,d.2.2.1.2.1,d.2.2.1.2.2.1) (d.2.2.2.1.1,d.2.2.2.1.2.1,d.2.2.2.1.2.2.1) d.2.2.2.2.1 d.2.2.2.2.2.1 d.2.2.2.2.2.2.1 d.2.2.2.2.2.2.2.1 d.2.2.2.2.2.2.2.2.1 d.2.2.2.2.2.2.2.2.2.1
def PW:zT:=⟨[yEt],[(.exit 2,vCr)],YI,fun k d=>yVd (YJ k k) d,fun b x _ K=>K (.exit 2) (zM b vCr (((),(),()),((x.1.1,x.1.2.1,x.1.2.2,()),(x.2.1.1,x.2.1.2.1,x.2.1.2.2,()),x.2.2.1,x.2.2.2.1,x.2.2.2.2.1,x.2.2.2.2.2.1,x.2.2.2.2.2.2.1,x.2.2.2.2.2.2.2,())))⟩
def YK:zY:=⟨[43,44],[(4,PV),(9,PW)],[],true⟩
theorem vZk:zS prog 1000 0 48 (zQ (zR f36) 0) PV:=lp (A:=YK) PV (fun d=>(d.1.2.2.1.1,(yR d.2.1),(d.2.2.1.1,d.2.2.1.2.1,d.2.2.1.2.2.1),(d.2.2.2.1.1,d.2.2.2.1.2.1,d.2.2.2.1.2.2.1),d.2.2.2.2.1,d.2.2.2.2.2.1,d.2.2.2.2.2.2.1,d.2.2.2.2.2.2.2.1,d.2.2.2.2.2.2.2.2.1)) yD0 YG yVr (e2 K6 BC) zF
theorem vH9:zS prog 1000 0 48 (zQ (zR f36) 1) PW:=lp (A:=YK) PW (fun d=>((d.2.1.1,d.2.1.2.1,d.2.1.2.2.1),(d.2.2.1.1,d.2.2.1.2.1,d.2.2.1.2.2.1),d.2.2.2.1,d.2.2.2.2.1,d.2.2.2.2.2.1,d.2.2.2.2.2.2.1,d.2.2.2.2.2.2.2.1,d.2.2.2.2.2.2.2.2.1)) yVd YJ yOh (e2 K6 BC) zF
def vSo:=zJ 36 [.agg ju] (.agg YL) (fun k d=>uf k (yR d)) (fun x=>(wO x ())) (fun d=>(qS d))
theorem yK6:zD prog vSo:=fA f36 YK (e2 K6 BC) (loopsOK_of (n:=2) (by kernel_rfl) fun i hi=>match i,hi with|0,_=>⟨PV,by kernel_rfl,vZk⟩|1,_=>⟨PW,by kernel_rfl,vH9⟩|i+2,hi=>absurd hi (by omega))
def vQd:=zJ 76 [.c .bool] (.c .i) (fun k d=>Nf k d.1) (fun x=>(x,())) (fun d=>d.1)
theorem YM:zD prog vQd:=fA f76 n0 e0 zF
def yMx:zE:=sp [sO 3 0,sI 5,sI 6,(11,.c (.dat false .i)),sI 12,sI 13] [oA (.int .u8)]
def vCv:zE:=sp [sO 3 0,(11,.c (.dat false .i)),sI 12,sI 13] [oA (.int .u8)]
def yPx (f:YN)(d:yMx.den):=f d.1.2.1.1 d.1.2.2.1.1 d.1.2.2.2.1.1 d.1.2.2.2.2.1.1 d.1.2.2.2.2.2.1.1 d.2.1
def YO:zT:=⟨[yMx],[(.exit 2,vCv)],YP,fun k d=>yPx (vv k k) d,fun b x _ K=>K (.exit 2) (zM b vCv (((),(x.1,()),(x.2.1,()),(x.2.2.1,()),()),(x.2.2.2,())))⟩
def yQ0:zE:=sp [sO 3 0] [oA (.int .u8)]
def yX5 (f:YQ)(d:vCv.den):=f d.1.2.1.1 d.1.2.2.1.1 d.1.2.2.2.1.1 d.2.1
def YR:zT:=⟨[vCv],[(.exit 0,yQ0)],AC,fun k d=>yX5 (zy k k) d,fun b x _ K=>K (.exit 0) (zM b yQ0 (((),()),(x,())))⟩
def YS:zY:=⟨[],[(6,YO),(3,YR)],[],true⟩
theorem YT:zS prog 1000 0 31 (zQ (zQ (zR f101) 0) 0) YO:=lp (A:=YS) YO (fun d=>(d.1.2.1.1,d.1.2.2.1.1,d.1.2.2.2.1.1,d.2.1)) yPx vv Nb e0 zF
theorem vRp:zS prog 1000 0 31 (zQ (zR f101) 0) YR:=lp (A:=YS) YR (fun d=>d.2.1) yX5 zy Dn e0 (qD YT)
def vH0:=zJ 101 [.c (.dat false .i)] (.c (.own (.int .u8))) (fun k d=>vw k d.1) (fun x=>(x,())) (fun d=>d.1)
theorem PX:zD prog vH0:=fA f101 YS e0 (qD vRp)
def vY4:=zJ 128 [.c (.dat false .i)] (.c (.own (.int .u8))) (fun k d=>Nc k d.1) (fun x=>(x,())) (fun d=>d.1)
theorem yKk:zD prog vY4:=fA f128 n0 (e1 PX) zF
def yFn:zE:=⟨[sO 3 0,(6,.c (.dat false (.sl .i))),sI 7,sI 8],[oA (.int .u8)],[(3,none,(.int .u8),false)]⟩
def yLj (f:YU)(d:yFn.den):=f d.1.2.1.1 d.1.2.2.1.1 d.1.2.2.2.1.1 d.2.1
def qOp:zT:=⟨[yFn],[(.exit 0,yQ0)],AC,fun k d=>yLj (Dr k k) d,fun b x _ K=>K (.exit 0) (zM b yQ0 (((),()),(x,())))⟩
def yG6:zY:=⟨[],[(3,qOp)],[],true⟩
theorem vUc:zS prog 1000 0 18 (zQ (zR f77) 0) qOp:=lp (A:=yG6) qOp (fun d=>d.2.1) yLj Dr Ds (e1 yKk) zF
def YV:=zJ 77 [.c (.dat false (.sl .i))] (.c (.own (.int .u8))) (fun k d=>IB k d.1) (fun x=>(x,())) (fun d=>d.1)
theorem YW:zD prog YV:=fA f77 yG6 (e1 yKk) (qD vUc)
def yGj:zE:=sp [sP 1 0,sP 3 1,sO 4 2,(39,.c (.dat true qX)),sI 40,sI 41] [oB gi,oB wB,oA (.sl .i)]
def yDe:zE:=sp [sP 1 0,sP 3 1,sO 4 2] [oB gi,oB wB,oA (.sl .i)]
def yW1 (f:YX)(d:yGj.den):=f d.1.2.2.2.1.1 d.1.2.2.2.2.1.1 d.1.2.2.2.2.2.1.1 (qS d.2.1) (gj d.2.2.1) d.2.2.2.1
def PY:zT:=⟨[yGj],[(.exit 0,yDe)],YY,fun k d=>yW1 (zz k k) d,fun b x _ K=>K (.exit 0) (zM b yDe (((),(),(),()),((wO x.1 ()),(gF x.2.1 ()),x.2.2,())))⟩
def yUn:zE:=sp [sP 1 0,sO 4 1,(79,.c (.dat true zG)),sI 80,sI 81] [oB gi,oA (.sl .i)]
def yJ1:zE:=sp [sP 1 0,sO 4 1] [oB gi,oA (.sl .i)]
def yPv (f:YZ)(d:yUn.den):=f d.1.2.2.1.1 d.1.2.2.2.1.1 d.1.2.2.2.2.1.1 (qS d.2.1) d.2.2.1
def PZ:zT:=⟨[yUn],[(.exit 2,yJ1)],Y0,fun k d=>yPv (z9 k k) d,fun b x _ K=>K (.exit 2) (zM b yJ1 (((),(),()),((wO x.1 ()),x.2,())))⟩
def Y1:zY:=⟨[],[(4,PY),(14,PZ)],[],true⟩
theorem vG8:zS prog 1000 0 110 (zQ (zR f35) 0) PY:=lp (A:=Y1) PY (fun d=>((qS d.2.1),(gj d.2.2.1),d.2.2.2.1)) yW1 zz Dt (e2 YM YW) zF
theorem vLn:zS prog 1000 0 110 (zQ (zR f35) 1) PZ:=lp (A:=Y1) PZ (fun d=>((qS d.2.1),d.2.2.1)) yPv z9 Du (e2 YM YW) zF
def Y2:=zJ 35 [.agg xD] (.c (.own (.int .u8))) (fun k d=>mo k (qS d)) (fun x=>(x,())) (fun d=>d.1)
theorem BD:zD prog Y2:=fA f35 Y1 (e2 YM YW) (loopsOK_of (n:=2) (by kernel_rfl) fun i hi=>match i,hi with|0,_=>⟨PY,by kernel_rfl,vG8⟩|1,_=>⟨PZ,by kernel_rfl,vLn⟩|i+2,hi=>absurd hi (by omega))
def vM6:=zJ 124 [.c (.dat false (.int .u8))] (.tup [(false,[.own (.int .u8)]),(false,[.bool])]) (fun k d=>Iz k d.1) (fun x=>(x.1,x.2,())) (fun d=>(d.1,d.2.1))
theorem vCg:zD prog vM6:=fA f124 n0 e0 zF
def vSe:=zJ 125 [.ptr K5] (.c .i) (fun k d=>Yg k (ic d)) (fun x=>(x,())) (fun d=>d.1)
theorem vLk:zD prog vSe:=fA f125 n0 e0 zF
def vOg:=zJ 68 [.ptr K5] (.c .bool) (fun k d=>P0 k (ic d)) (fun x=>(x,())) (fun d=>d.1)
theorem Y3:zD prog vOg:=fA f68 n0 e0 zF
def vJf:=yW 70 [.ptr true mF] (.c .bool) [kG] 0 (fun k d=>K7 k (ic d)) (fun x=>(x.1,(jt x.2 ()))) (fun d=>(d.1,(GL d)))
theorem Y4:zD prog vJf:=fX f70 ⟨[],[],[(6,3)],true⟩ 1 e0 (MG (n:=1) (by kernel_rfl) fun i hi=>match i,hi with|0,_=>.inr ⟨by kernel_rfl,zF⟩|i+1,hi=>absurd hi (by omega))
def vJj:=yW 126 [.ptr true mF,.c (.p .i)] (.c .i) [kG] 0 (fun k d=>UE k (ic d) d.2.2.2.2.2.2.2.2.2.2.1) (fun x=>(x.1,(jt x.2 ()))) (fun d=>(d.1,(GL d)))
theorem vWe:zD prog vJj:=fX f126 n0 1 (e3 Y3 Yn Y4) zF
def qYa:=yW 30 [.ptr true mF,.c (.p .i),.c (.p (.dat false (.int .u8)))] (.c .i) [kG] 0 (fun k d=>tw k (ic d) d.2.2.2.2.2.2.2.2.2.2.1 d.2.2.2.2.2.2.2.2.2.2.2.1) (fun x=>(x.1,(jt x.2 ()))) (fun d=>(d.1,(GL d)))
theorem Y5:zD prog qYa:=fX f30 n0 1 (e3 Y3 Yn Y4) zF
def vHm:=yW 127 [.ptr true mF] (.c .i) [kG] 0 (fun k d=>Y6 k (ic d)) (fun x=>(x.1,(jt x.2 ()))) (fun d=>(d.1,(GL d)))
theorem yNa:zD prog vHm:=fX f127 ⟨[],[],[(4,3)],true⟩ 1 (e2 Y3 Y4) (MG (n:=1) (by kernel_rfl) fun i hi=>match i,hi with|0,_=>.inr ⟨by kernel_rfl,zF⟩|i+1,hi=>absurd hi (by omega))
def vPj:=yW 75 [.ptr true mF,.c (.p .i),.c (.p .i),.c (.p (.dat false (.int .u8)))] (.c .i) [kG] 0 (fun k d=>PJ k (ic d) d.2.2.2.2.2.2.2.2.2.2.1 d.2.2.2.2.2.2.2.2.2.2.2.1 d.2.2.2.2.2.2.2.2.2.2.2.2.1) (fun x=>(x.1,(jt x.2 ()))) (fun d=>(d.1,(GL d)))
theorem yCl:zD prog vPj:=fX f75 n0 1 (e6 PX vCg vLk vWe Y5 yNa) zF
def vTn:=Im 34 [.ptr true mF,.c (.p (.dat false (.int .u8)))] (.tup [(false,[.link 1]),(false,[.fro (.int .u8)]),(false,[.fro (.sl (.int .u8))]),(false,vC)]) [kG,[.link 0,.i,.i,.i,.bool]] 1 (.tup [(false,[.nilp]),(false,[.own (.int .u8)]),(false,[.own (.sl (.int .u8))]),(false,vC)]) [kG] 0 (fun k d=>PD k (ic d) d.2.2.2.2.2.2.2.2.2.2.1) (fun x=>((),x.1,x.2.1,x.2.2.1,(jt x.2.2.2.1 ((),(gF x.2.2.2.2 ()))))) (fun x=>((),x.1,x.2.1,x.2.2.1,(jt x.2.2.2 ()))) (fun d=>(d.2.1,d.2.2.1,d.2.2.2.1,(yWq d),(vE5 d))) (fun d=>(d.2.1,d.2.2.1,d.2.2.2.1,(yWq d)))
theorem yNu:zD prog vTn:=fN f34 n0 1 (e2 Yw yCl) zF
def vMp:=zJ 130 [.c (.dat true (.int .u8))] (.tup [(false,[.own .i]),(false,[.fro (.int .u8)]),(false,[.bool])]) (fun k d=>Ng k d.1) (fun x=>(x.1,x.2.1,x.2.2,())) (fun d=>(d.1,d.2.1,d.2.2.1))
theorem vQ5:zD prog vMp:=fA f130 n0 (e1 PR) zF
def Y7:=yW 82 [.ptr true [.p (.dat true (.int .u8)),.p .bool]] (.c (.own .i)) [[.fro (.int .u8),.bool]] 0 (fun k d=>xc k (d.1,d.2.1)) (fun x=>(x.1,x.2.1,x.2.2,())) (fun d=>(d.1,(d.2.1,d.2.2.1)))
theorem GM:zD prog Y7:=fX f82 n0 1 (e1 vQ5) zF
def vR2:=yW 80 [.ptr true [.p (.dat true (.int .u8)),.p .bool],.c (.p .i)] (.c (.own .i)) [[.fro (.int .u8),.bool]] 0 (fun k d=>FA k (d.1,d.2.1) d.2.2.1) (fun x=>(x.1,x.2.1,x.2.2,())) (fun d=>(d.1,(d.2.1,d.2.2.1)))
theorem Y8:zD prog vR2:=fX f80 n0 1 (e1 GM) zF
def yDb:zE:=⟨[sP 0 0,sI 1,sO 5 1],[oB GN,oA (.sl .i)],[(5,none,(.sl .i),false)]⟩
def yGr:zE:=sp [sP 0 0,sO 5 1] [oB GN,oA (.sl .i)]
def yF7 (f:Y9)(d:yDb.den):=f d.1.2.1.1 (d.2.1.1,d.2.1.2.1) d.2.2.1
def Za:zT:=⟨[yDb],[(.exit 0,yGr)],Zb,fun k d=>yF7 (J1 k k) d,fun b x _ K=>K (.exit 0) (zM b yGr (((),(),()),((x.1.1,x.1.2,()),x.2,())))⟩
def vBp:zY:=⟨[],[(2,Za)],[],true⟩
theorem vUk:zS prog 1000 1 23 (zQ (zR f81) 0) Za:=lp (A:=vBp) Za (fun d=>((d.2.1.1,d.2.1.2.1),d.2.2.1)) yF7 J1 OI (e1 GM) zF
def vQi:=yW 81 [.ptr true [.p (.dat true (.int .u8)),.p .bool],.c (.p .i)] (.c (.own (.sl .i))) [[.fro (.int .u8),.bool]] 0 (fun k d=>FB k (d.1,d.2.1) d.2.2.1) (fun x=>(x.1,x.2.1,x.2.2,())) (fun d=>(d.1,(d.2.1,d.2.2.1)))
theorem Zc:zD prog vQi:=fX f81 vBp 1 (e1 GM) (qD vUk)
def vNn:=zJ 83 [.c (.dat false (.int .u8)),.c (.dat false (.int .u8))] (.c .bool) (fun k d=>WA k d.1 d.2.1) (fun x=>(x,())) (fun d=>d.1)
theorem Zd:zD prog vNn:=fA f83 n0 e0 zF
def yPl:zE:=⟨[(0,.c (.dat true (.int .u8))),sP 2 0,sP 4 1,sO 5 2,sP 6 3,sI 7],[oB fq,oB GN,oA .i,oB yIk,oA qX],[(6,some 1,qX,false)]⟩
def yGy:zE:=sp [(0,.c (.dat true (.int .u8))),sP 2 0,sP 4 1,sO 5 2,sP 6 3] [oB fq,oB GN,oA .i,oB yIk,oA qX]
def yZw (f:Ze)(d:yPl.den):=f d.1.1.1 d.1.2.2.2.2.2.1.1 (d.2.1.1,d.2.1.2.1,d.2.1.2.2.1) (d.2.2.1.1,d.2.2.1.2.1) d.2.2.2.1 (d.2.2.2.2.1.1,d.2.2.2.2.1.2.1,d.2.2.2.2.1.2.2.1) d.2.2.2.2.2.1
def P1:zT:=⟨[yPl],[(.exit 0,yGy)],Zf,fun k d=>yZw (FC k k) d,fun b x _ K=>K (.exit 0) (zM b yGy (((x.1,()),(),(),(),(),()),((x.2.1.1,x.2.1.2.1,x.2.1.2.2,()),(x.2.2.1.1,x.2.2.1.2,()),x.2.2.2.1,(x.2.2.2.2.1.1,x.2.2.2.2.1.2.1,x.2.2.2.2.1.2.2,()),x.2.2.2.2.2,())))⟩
def yXq:zE:=⟨[(0,.c (.dat true (.int .u8))),sP 2 0,sP 4 1,sP 6 2,sI 9],[oB fq,oB GN,oB yNm,oA qX,oA (.sl .i),oA .i,oA (.sl .i),oA .i,oA (.sl .i),oA zG],[(6,some 7,zG,false)]⟩
def yVh:zE:=sp [(0,.c (.dat true (.int .u8))),sP 2 0,sP 4 1,sP 6 2] [oB fq,oB GN,oB yNm,oA qX,oA (.sl .i),oA .i,oA (.sl .i),oA .i,oA (.sl .i),oA zG]
def yKn (f:Zg)(d:yXq.den):=f d.1.1.1 d.1.2.2.2.2.1.1 (d.2.1.1,d.2.1.2.1,d.2.1.2.2.1) (d.2.2.1.1,d.2.2.1.2.1) (d.2.2.2.1.1,d.2.2.2.1.2.1,d.2.2.2.1.2.2.1) d.2.2.2.2.1 d.2.2.2.2.2.1 d.2.2.2.2.2.2.1 d.2.2.2.2.2.2.2.1 d.2.2.2.2.2.2.2.2.1 d.2.2.2.2.2.2.2.2.2.1 d.2.2.2.2.2.2.2.2.2.2.1
def P2:zT:=⟨[yXq],[(.exit 2,yVh)],Zh,fun k d=>yKn (FD k k) d,fun b x _ K=>K (.exit 2) (zM b yVh (((x.1,()),(),(),(),()),((x.2.1.1,x.2.1.2.1,x.2.1.2.2,()),(x.2.2.1.1,x.2.2.1.2,()),(x.2.2.2.1.1,x.2.2.2.1.2.1,x.2.2.2.1.2.2,()),x.2.2.2.2.1,x.2.2.2.2.2.1,x.2.2.2.2.2.2.1,x.2.2.2.2.2.2.2.1,x.2.2.2.2.2.2.2.2.1,x.2.2.2.2.2.2.2.2.2.1,x.2.2.2.2.2.2.2.2.2.2,())))⟩
def Zi:zY:=⟨[],[(5,P1),(15,P2)],[],true⟩
theorem Zj:zS prog 1000 0 146 (zQ (zR f37) 0) P1:=lp (A:=Zi) P1 (fun d=>(d.1.1.1,(d.2.1.1,d.2.1.2.1,d.2.1.2.2.1),(d.2.2.1.1,d.2.2.1.2.1),d.2.2.2.1,(d.2.2.2.2.1.1,d.2.2.2.2.1.2.1,d.2.2.2.2.1.2.2.1),d.2.2.2.2.2.1)) yZw FC OJ (e5 Y8 Zc GM BD Zd) zF
theorem vIg:zS prog 1000 0 146 (zQ (zR f37) 1) P2:=lp (A:=Zi) P2 (fun d=>(d.1.1.1,(d.2.1.1,d.2.1.2.1,d.2.1.2.2.1),(d.2.2.1.1,d.2.2.1.2.1),(d.2.2.2.1.1,d.2.2.2.1.2.1,d.2.2.2.1.2.2.1),d.2.2.2.2.1,d.2.2.2.2.2.1,d.2.2.2.2.2.2.1,d.2.2.2.2.2.2.2.1,d.2.2.2.2.2.2.2.2.1,d.2.2.2.2.2.2.2.2.2.1,d.2.2.2.2.2.2.2.2.2.2.1)) yKn FD OK (e5 Y8 Zc GM BD Zd) zF
def vHx:=zJ 37 [.c (.dat true (.int .u8))] (.tup [(true,xE),(false,[.bool])]) (fun k d=>J2 k d.1) (fun x=>(wO x.1 (x.2,()))) (fun d=>((qS d),d.2.2.2.2.2.2.2.2.2.2.2.1))
theorem yBh:zD prog vHx:=fA f37 Zi (e5 Y8 Zc GM BD Zd) (loopsOK_of (n:=2) (by kernel_rfl) fun i hi=>match i,hi with|0,_=>⟨P1,by kernel_rfl,Zj⟩|1,_=>⟨P2,by kernel_rfl,vIg⟩|i+2,hi=>absurd hi (by omega))
def vQn:=zJ 98 [.c .i] (.c .i) (fun k d=>tv k d.1) (fun x=>(x,())) (fun d=>d.1)
theorem P3:zD prog vQn:=fA f98 n0 e0 zF
def vK7:=zJ 44 [.c (.dat false (.int .u8))] (.tup [(true,pH),(false,vC)]) (fun k d=>Dh k d.1) (fun x=>(ie x.1 (x.2,()))) (fun d=>((wF d),d.2.2.2.2.2.2.2.1))
theorem Zk:zD prog vK7:=fA f44 n0 (e2 PR P3) zF
def Zl:=zJ 39 [.c (.dat false (.int .u8))] (.tup [(true,[.i,.i,.i,.i,.i,.i,.i,.i]),(false,vC)]) (fun k d=>rT k d.1) (fun x=>(GO x.1 (x.2,()))) (fun d=>((oJ d),d.2.2.2.2.2.2.2.2.1))
theorem vCw:zD prog Zl:=fA f39 n0 (e2 PR Zk) zF
def Zm:=zJ 150 [.c .i] (.c .bool) (fun k d=>OH k d.1) (fun x=>(x,())) (fun d=>d.1)
theorem vTb:zD prog Zm:=fA f150 n0 e0 zF
def vG0:=zJ 151 [.c .i] (.c .bool) (fun k d=>JZ k d.1) (fun x=>(x,())) (fun d=>d.1)
theorem vD9:zD prog vG0:=fA f151 n0 e0 zF
def yZc:zE:=sp [(13,.c (.dat true .i)),sI 14,sI 15] []
def yDu:zE:=sp [(2,.c .bool)] []
def yPr (f:Zn)(d:yZc.den):=f d.1.1.1 d.1.2.1.1 d.1.2.2.1.1
def Zo:zT:=⟨[yZc],[(.exit 0,yQs),(.ret,yDu)],(Unit⊕Bool),fun k d=>yPr (mD k k) d,fun b x _ K=>match x with|.inl x=>K (.exit 0) (zM b yQs ((),()))|.inr x=>K .ret (zM b yDu (((x,()),()),()))⟩
def yQc:zY:=⟨[],[(5,Zo)],[],true⟩
theorem vGy:zS prog 1000 0 22 (zQ (zR f152) 0) Zo:=lp (A:=yQc) Zo (fun d=>match d with|.inl d=>.inl ()|.inr d=>.inr d.1.1.1) yPr mD oE (e1 P3) zF
def vM2:=zJ 152 [.agg vL] (.c .bool) (fun k d=>nr k (wF d)) (fun x=>(x,())) (fun d=>d.1)
theorem yF4:zD prog vM2:=fA f152 yQc (e1 P3) (qD vGy)
def vWy:=zJ 91 [.agg ju,.agg pI,.agg GP] (.c .i) (fun k d=>w9 k (yR d) (ui d) (Zp d)) (fun x=>(x,())) (fun d=>d.1)
theorem vWo:zD prog vWy:=fA f91 n0 (e3 vTb vD9 yF4) zF
def vFn:=zJ 195 [.agg vL,.ptr [.i]] (.c .bool) (fun k d=>(lJ (Wg k) d)) (fun x=>(x,())) (fun d=>d.1)
theorem yUc:zD prog vFn:=fA f195 ⟨[],[],[],false⟩ e0 zF
def vA6:zE:=⟨[(1,.c (.lit (.fn 195 [1001000]))),sO 5 1,(8,.c (.dat false zG)),sI 9,sI 10],[.robox [.i],oA zG],[(5,none,zG,false)]⟩
def yYo:zE:=sp [sO 5 0] [oA zG]
def yFi (f:Zq)(d:vA6.den):=f d.1.2.2.1.1 d.1.2.2.2.1.1 d.1.2.2.2.2.1.1 d.2.1.1 d.2.2.1
def Zr:zT:=⟨[vA6],[(.exit 0,yYo)],Zs,fun k d=>yFi (JO k k) d,fun b x _ K=>K (.exit 0) (zM b yYo (((),()),(x,())))⟩
def yJy:zY:=⟨[],[(3,Zr)],[],false⟩
theorem vFx:zS prog 1000 0 23 (zQ (zR f194) 0) Zr:=lp (A:=yJy) Zr (fun d=>d.2.1) yFi JO Fc (e1 yUc) zF
def vGe:=zJ 194 [.c (.dat false zG),.fn 195 [[.i]]] (.c (.own zG)) (fun k d=>We k d.1 d.2.1) (fun x=>(x,())) (fun d=>d.1)
theorem vJp:zD prog vGe:=fA f194 yJy (e1 yUc) (qD vFx)
def vGh:=zJ 153 [.c (.dat false zG),.c .i] (.c (.own zG)) (fun k d=>JN k d.1 d.2.1) (fun x=>(x,())) (fun d=>d.1)
theorem K8:zD prog vGh:=fA f153 ⟨[],[],[],false⟩ (e1 vJp) zF
def vK6:=yW 93 [.ptr true [.p .i,.p (.nil),.p .i,.p .i,.p .i,.p .i,.p (.nil),.p (.nil),.p (.nil),.p (.nil),.p (.nil),.p (.nil),.p (.nil),.p (.nil),.p .i,.p .bool,.p .i,.p (.nil)],.c (.p .i),.c (.p (.dat false .i))] (.tup []) [[.i,.own jK,.i,.i,.i,.i,.own qX,.mat,.own .i,.mat,.own .i,.mat,.own zG,.own .i,.i,.bool,.i,.own yI]] 0 (fun k d=>yD4 k (d.1,(P4 d (d.2.2.2.2.2.2.2.2.2.2.2.2.2.2.1,d.2.2.2.2.2.2.2.2.2.2.2.2.2.2.2.1,d.2.2.2.2.2.2.2.2.2.2.2.2.2.2.2.2.1))) d.2.2.2.2.2.2.2.2.2.2.2.2.2.2.2.2.2.2.1 d.2.2.2.2.2.2.2.2.2.2.2.2.2.2.2.2.2.2.2.1) (fun x=>(jL x ())) (fun d=>(ft d))
theorem vT6:zD prog vK6:=fX f93 n0 1 e0 zF
def vS9:=zJ 92 [.agg pI,.c .i] (.c (.own yI)) (fun k d=>Pq k (qS d) d.2.2.2.2.2.2.2.2.2.2.2.1) (fun x=>(x,())) (fun d=>d.1)
theorem vX5:zD prog vS9:=fA f92 n0 (e2 K8 vT6) zF
def vQf:=yW 93 [.ptr true xF,.c (.p .i),.c (.p (.dat false .i))] (.tup []) [kU] 0 (fun k d=>Pr k (kV d) d.2.2.2.2.2.2.2.2.2.2.2.2.2.2.2.2.2.2.1 d.2.2.2.2.2.2.2.2.2.2.2.2.2.2.2.2.2.2.2.1) (fun x=>(jL x ())) (fun d=>(ft d))
theorem yM8:zD prog vQf:=fX f93 n0 1 e0 zF
def Zt:=zJ 84 [.c .i,.c .i,.c .i] (.c .bool) (fun k d=>vH k d.1 d.2.1 d.2.2.1) (fun x=>(x,())) (fun d=>d.1)
theorem ig:zD prog Zt:=fA f84 n0 e0 zF
def vKj:=zJ 269 [.agg ju,.c .i] (.c .bool) (fun k d=>JW k (yR d) d.2.2.2.2.2.1) (fun x=>(x,())) (fun d=>d.1)
theorem vMh:zD prog vKj:=fA f269 n0 e0 zF
def vEu:=zJ 237 [.agg ju,.c .i,.agg vL] (.c .bool) (fun k d=>OC k (yR d) d.2.2.2.2.2.1 (Zu d)) (fun x=>(x,())) (fun d=>d.1)
theorem vVx:zD prog vEu:=fA f237 n0 (e1 vMh) zF
def vPd:=zJ 201 [.agg ju,.c .i,.c .i] (.c .i) (fun k d=>AZ k (yR d) d.2.2.2.2.2.1 d.2.2.2.2.2.2.1) (fun x=>(x,())) (fun d=>d.1)
theorem Zv:zD prog vPd:=fA f201 n0 e0 zF
def vTm:=zJ 196 [.agg ju,.c .i,.agg vL] (.c .i) (fun k d=>Fx k (yR d) d.2.2.2.2.2.1 (Zu d)) (fun x=>(x,())) (fun d=>d.1)
theorem yKe:zD prog vTm:=fA f196 n0 (e2 vVx Zv) zF
def vIq:=zJ 267 [.c .i] (.c .bool) (fun k d=>N7 k d.1) (fun x=>(x,())) (fun d=>d.1)
theorem vKx:zD prog vIq:=fA f267 n0 e0 zF
def vWw:=zJ 233 [.c .i,.c .i] (.c .bool) (fun k d=>N6 k d.1 d.2.1) (fun x=>(x,())) (fun d=>d.1)
theorem yV1:zD prog vWw:=fA f233 n0 (e1 vKx) zF
def vVg:=zJ 234 [.c .i] (.c .bool) (fun k d=>N9 k d.1) (fun x=>(x,())) (fun d=>d.1)
theorem yQe:zD prog vVg:=fA f234 n0 e0 zF
def vCn:zE:=sp [(0,.c (.dat false .i)),sI 1,sI 6,sI 7,sI 8] []
def yHf:zE:=sp [(0,.c (.dat false .i)),sI 1,sI 6,sI 7] []
def yRq (f:Zw)(d:vCn.den):=f d.1.1.1 d.1.2.1.1 d.1.2.2.1.1 d.1.2.2.2.1.1 d.1.2.2.2.2.1.1
def Zx:zT:=⟨[vCn],[(.exit 0,yHf)],Zy,fun k d=>yRq (JA k k) d,fun b x _ K=>K (.exit 0) (zM b yHf (((x.1,()),(x.2.1,()),(x.2.2.1,()),(x.2.2.2,()),()),()))⟩
def yMd:zY:=⟨[],[(3,Zx)],[],true⟩
theorem Zz:zS prog 1000 0 54 (zQ (zR f191) 0) Zx:=lp (A:=yMd) Zx (fun d=>(d.1.1.1,d.1.2.1.1,d.1.2.2.1.1,d.1.2.2.2.1.1)) yRq JA N8 (e2 yV1 yQe) zF
def vXz:=zJ 191 [.c (.dat false .i),.c .i] (.tup [(false,vC),(false,[.bool])]) (fun k d=>EN k d.1 d.2.1) (fun x=>(x.1,x.2,())) (fun d=>(d.1,d.2.1))
theorem yGq:zD prog vXz:=fA f191 yMd (e2 yV1 yQe) (qD Zz)
def vOq:=vm 239 false .i (.own .i) pq
theorem K9:zD prog vOq:=fC f239 ⟨[],[],[],false⟩ e0 zF
theorem vLz (A X:Option Addr)(n c vc:Nat)(w w':World)(rv:Value)(hr:(Builtin.append_ #[36,36] 36 #[.slice A n c,.slice X 1 vc]).run prog w=.ok rv w'):
    Calls prog 238 #[.slice A n c,.int .i64 n,.slice X 1 vc] w fun e nZ=>e=.returned rv∧nZ=w':=by
  have t0:prog.underlying 36=some (.slice 2):=by kernel_rfl
  have t3:prog.underlying 3=some (.int .i64):=by kernel_rfl
  have z0:∀w,(Go.sizeOf 2).run prog w=.ok 1 w:=fun w=>by kernel_rfl
  have u0:=run_underlying t0;have u3:=run_underlying t3
  go_enter Proofs.Tryz.func238,Proofs.Tryz.ntmps238
  go_wp2_with (at_builtin;refine Lib.wpList_append_run _ rfl _ _ _ _ rfl _ _ rfl rfl _ _ hr ?_)
  all_goals (go_ret;exact⟨rfl,rfl⟩)
theorem vVa:MX prog 238 36 3 1 where
  ends:=vLz
  grow B off n c i X vo vc N G w w1 w2 w3 hi hnc aQ Kh hG hz hA hB:=by
    simp only[Nat.mul_one] at hA hB;have t0:prog.underlying 36=some (.slice 2):=by kernel_rfl
    have t3:prog.underlying 3=some (.int .i64):=by kernel_rfl
    have z0:∀w,(Go.sizeOf 2).run prog w=.ok 1 w:=fun w=>by kernel_rfl
    have u0:=run_underlying t0;have u3:=run_underlying t3;have mixed:prog.follows .mixedOrders=true:=gE;have ZA:¬((i:Int)=(n:Int)):=by omega
    have rf:IntKind.i64.wrap ((i:Int)+1)=(i:Int)+1:=by rw[IntKind.wrap_i64];omega
    have eF:(0:Int)≤(i:Int)+1:=by omega
    have eZ:i≤n:=by omega
    have gy:((i:Int)+1).toNat=i+1:=by omega
    have ZB:¬(c=i):=by omega
    have hz3:(c:Int)<(n:Int)+1:=by omega
    have By:(i:Int)≤(n:Int):=by omega
    have hGi:¬(G=i):=by omega
    have ZC:¬(G=i+1):=by omega
    go_enter Proofs.Tryz.func238,Proofs.Tryz.ntmps238
    go_wp2_with (first
      |(at_builtin;refine Lib.wpList_append_run _ rfl _ _ _ _ rfl _ _ rfl rfl _ _ hz ?_)
      |(at_builtin;refine M4 _ rfl _ _ 36 36 rfl _ _ rfl rfl (hA _) ?_))
    go_region_law_o (refine M5 rfl _ _ 36 36 rfl (.slice (some ⟨N,(i+1),none⟩) (n+1-(i+1)) (G-(i+1))) (.slice (some ⟨B,off+i,none⟩) (n-i) (c-i)) (by simp[Act.eval,Act.put]) (by simp[Act.eval,Act.put]) (hB (G-(i+1)) (c-i)) ?_)
    go_wp2
    go_ret
    exact⟨rfl,rfl⟩
  shift B off n c i X vo vc w w1 w2 hi aQ Kh qw hA hB:=by
    simp only[Nat.mul_one] at hA hB;have t0:prog.underlying 36=some (.slice 2):=by kernel_rfl
    have t3:prog.underlying 3=some (.int .i64):=by kernel_rfl
    have z0:∀w,(Go.sizeOf 2).run prog w=.ok 1 w:=fun w=>by kernel_rfl
    have u0:=run_underlying t0;have u3:=run_underlying t3;have mixed:prog.follows .mixedOrders=true:=gE;have ZA:¬((i:Int)=(n:Int)):=by omega
    have rf:IntKind.i64.wrap ((i:Int)+1)=(i:Int)+1:=by rw[IntKind.wrap_i64];omega
    have eF:(0:Int)≤(i:Int)+1:=by omega
    have eZ:i≤n:=by omega
    have gy:((i:Int)+1).toNat=i+1:=by omega
    have ZB:¬(c=i):=by omega
    have Bm:=fun lb cb=>yV0 (P:=prog) (fo:=270) (tb:=4) (e:=2) (size:=1) Proofs.Tryz.func270 (by kernel_rfl) (by kernel_rfl) (by kernel_rfl) (by kernel_rfl) t0 z0 qw vo (off+(i+1)) vc lb cb
    have K2:¬(c=i+1):=by omega
    have By:(i:Int)≤(n:Int)+1:=by omega
    go_enter Proofs.Tryz.func238,Proofs.Tryz.ntmps238
    go_wp2_with (simp only[Bm])
    go_region_law_o (refine M5 rfl _ _ 36 36 rfl (.slice (some ⟨B,off+(i+1),none⟩) (n-i) (c-(i+1))) (.slice (some ⟨B,off+i,none⟩) (n+1-i) (c-i)) (by simp[Act.eval,Act.put]) (by simp[Act.eval,Act.put]) (hA _ _) ?_)
    go_wp2_with (at_builtin;refine M4 _ rfl _ _ 36 36 rfl _ _ rfl rfl (hB _) ?_)
    go_ret
    exact⟨rfl,rfl⟩
def vDx:Nat×mZ:=(238,Uk .i 8)
theorem vHk:zD prog vDx:=yIt (e:=2) (fn:=f238) vVa
def vS6:=zJ 197 [.c (.dat true .i),.c .i] (.tup [(false,[.fro .i]),(false,vC)]) (fun k d=>EO k d.1 d.2.1) (fun x=>(x.1,x.2,())) (fun d=>(d.1,d.2.1))
theorem yNf:zD prog vS6:=fA f197 n0 (e3 yGq K9 vHk) zF
def vYv:=zJ 167 [.agg vL,.ptr [.i]] (.c .bool) (fun k d=>(lJ (VJ k) d)) (fun x=>(x,())) (fun d=>d.1)
theorem yNg:zD prog vYv:=fA f167 ⟨[],[],[],false⟩ e0 zF
def yPc:zE:=sp [(0,.c (.dat false zG)),(1,.c (.lit (.fn 167 [1001000]))),sI 7,sI 8] [.robox [.i]]
def yNe (f:ZD)(d:yPc.den):=f d.1.1.1 d.1.2.2.1.1 d.1.2.2.2.1.1 d.2.1.1
def ZE:zT:=⟨[yPc],[(.exit 0,yQs),(.ret,yBi)],(Unit⊕Int),fun k d=>yNe (ED k k) d,fun b x _ K=>match x with|.inl x=>K (.exit 0) (zM b yQs ((),()))|.inr x=>K .ret (zM b yBi (((x,()),()),()))⟩
def yIh:zY:=⟨[],[(2,ZE)],[],false⟩
theorem vIa:zS prog 1000 0 19 (zQ (zR f166) 0) ZE:=lp (A:=yIh) ZE (fun d=>match d with|.inl d=>.inl ()|.inr d=>.inr d.1.1.1) yNe ED EE (e1 yNg) zF
def ZF:=zJ 166 [.c (.dat false zG),.fn 167 [[.i]]] (.c .i) (fun k d=>VK k d.1 d.2.1) (fun x=>(x,())) (fun d=>d.1)
theorem vY3:zD prog ZF:=fA f166 yIh (e1 yNg) (qD vIa)
def vFs:=zJ 97 [.c (.dat false zG),.c .i] (.c .i) (fun k d=>og k d.1 d.2.1) (fun x=>(x,())) (fun d=>d.1)
theorem xG:zD prog vFs:=fA f97 ⟨[],[],[],false⟩ (e1 vY3) zF
def vRo:=zJ 268 [.c .i] (.c .bool) (fun k d=>N4 k d.1) (fun x=>(x,())) (fun d=>d.1)
theorem vZ4:zD prog vRo:=fA f268 ⟨[],[],[],false⟩ e0 zF
def vY9:=zJ 236 [.c .i,.c .i] (.c .i) (fun k d=>Jt k d.1 d.2.1) (fun x=>(x,())) (fun d=>d.1)
theorem vTu:zD prog vY9:=fA f236 ⟨[],[],[],false⟩ (e1 vZ4) zF
def vAa:zE:=sp [sI 3,(6,.c (.dat false .i)),sI 7,sI 8] []
def yBx:zE:=sp [sI 3] []
def yUz:zE:=sp [sI 2] []
def yLa (f:ZG)(d:vAa.den):=f d.1.1.1 d.1.2.1.1 d.1.2.2.1.1 d.1.2.2.2.1.1
def ZH:zT:=⟨[vAa],[(.exit 0,yBx),(.ret,yUz)],(Int⊕Int),fun k d=>yLa (Js k k) d,fun b x _ K=>match x with|.inl x=>K (.exit 0) (zM b yBx (((x,()),()),()))|.inr x=>K .ret (zM b yUz (((x,()),()),()))⟩
def yCj:zY:=⟨[],[(3,ZH)],[],false⟩
theorem vOf:zS prog 1000 0 18 (zQ (zR f235) 0) ZH:=lp (A:=yCj) ZH (fun d=>match d with|.inl d=>.inl d.1.1.1|.inr d=>.inr d.1.1.1) yLa Js yE1 e0 zF
def vJx:=zJ 235 [.c (.dat false .i)] (.c .i) (fun k d=>N3 k d.1) (fun x=>(x,())) (fun d=>d.1)
theorem vLx:zD prog vJx:=fA f235 yCj e0 (qD vOf)
def vRm:=zJ 193 [.agg vL,.agg vL] (.c .i) (fun k d=>(GQ (EF k) d)) (fun x=>(x,())) (fun d=>d.1)
theorem GR:zD prog vRm:=fA f193 ⟨[],[],[],false⟩ (e2 vTu vLx) zF
def vVw:=vm 241 false zG (.own zG) wh
theorem P5:zD prog vVw:=fC f241 ⟨[],[],[],false⟩ e0 zF
theorem vSd (A X:Option Addr)(n c vc:Nat)(w w':World)(rv:Value)(hr:(Builtin.append_ #[39,39] 39 #[.slice A n c,.slice X 1 vc]).run prog w=.ok rv w'):
    Calls prog 240 #[.slice A n c,.int .i64 n,.slice X 1 vc] w fun e nZ=>e=.returned rv∧nZ=w':=by
  have t0:prog.underlying 39=some (.slice 142):=by kernel_rfl
  have t3:prog.underlying 3=some (.int .i64):=by kernel_rfl
  have z0:∀w,(Go.sizeOf 142).run prog w=.ok 7 w:=fun w=>by kernel_rfl
  have u0:=run_underlying t0;have u3:=run_underlying t3
  go_enter Proofs.Tryz.func240,Proofs.Tryz.ntmps240
  go_wp2_with (at_builtin;refine Lib.wpList_append_run _ rfl _ _ _ _ rfl _ _ rfl rfl _ _ hr ?_)
  all_goals (go_ret;exact⟨rfl,rfl⟩)
theorem ZI:MX prog 240 39 3 7 where
  ends:=vSd
  grow B off n c i X vo vc N G w w1 w2 w3 hi hnc aQ Kh hG hz hA hB:=by
    have t0:prog.underlying 39=some (.slice 142):=by kernel_rfl
    have t3:prog.underlying 3=some (.int .i64):=by kernel_rfl
    have z0:∀w,(Go.sizeOf 142).run prog w=.ok 7 w:=fun w=>by kernel_rfl
    have u0:=run_underlying t0;have u3:=run_underlying t3;have mixed:prog.follows .mixedOrders=true:=gE;have ZA:¬((i:Int)=(n:Int)):=by omega
    have rf:IntKind.i64.wrap ((i:Int)+1)=(i:Int)+1:=by rw[IntKind.wrap_i64];omega
    have eF:(0:Int)≤(i:Int)+1:=by omega
    have eZ:i≤n:=by omega
    have gy:((i:Int)+1).toNat=i+1:=by omega
    have ZB:¬(c=i):=by omega
    have hz3:(c:Int)<(n:Int)+1:=by omega
    have By:(i:Int)≤(n:Int):=by omega
    have hGi:¬(G=i):=by omega
    have ZC:¬(G=i+1):=by omega
    go_enter Proofs.Tryz.func240,Proofs.Tryz.ntmps240
    go_wp2_with (first
      |(at_builtin;refine Lib.wpList_append_run _ rfl _ _ _ _ rfl _ _ rfl rfl _ _ hz ?_)
      |(at_builtin;refine M4 _ rfl _ _ 39 39 rfl _ _ rfl rfl (hA _) ?_))
    go_region_law_o (refine M5 rfl _ _ 39 39 rfl (.slice (some ⟨N,(i+1)*7,none⟩) (n+1-(i+1)) (G-(i+1))) (.slice (some ⟨B,off+i*7,none⟩) (n-i) (c-i)) (by simp[Act.eval,Act.put]) (by simp[Act.eval,Act.put]) (hB (G-(i+1)) (c-i)) ?_)
    go_wp2
    go_ret
    exact⟨rfl,rfl⟩
  shift B off n c i X vo vc w w1 w2 hi aQ Kh qw hA hB:=by
    have t0:prog.underlying 39=some (.slice 142):=by kernel_rfl
    have t3:prog.underlying 3=some (.int .i64):=by kernel_rfl
    have z0:∀w,(Go.sizeOf 142).run prog w=.ok 7 w:=fun w=>by kernel_rfl
    have u0:=run_underlying t0;have u3:=run_underlying t3;have mixed:prog.follows .mixedOrders=true:=gE;have ZA:¬((i:Int)=(n:Int)):=by omega
    have rf:IntKind.i64.wrap ((i:Int)+1)=(i:Int)+1:=by rw[IntKind.wrap_i64];omega
    have eF:(0:Int)≤(i:Int)+1:=by omega
    have eZ:i≤n:=by omega
    have gy:((i:Int)+1).toNat=i+1:=by omega
    have ZB:¬(c=i):=by omega
    have Bm:=fun lb cb=>yV0 (P:=prog) (fo:=272) (tb:=4) (e:=142) (size:=7) Proofs.Tryz.func272 (by kernel_rfl) (by kernel_rfl) (by kernel_rfl) (by kernel_rfl) t0 z0 qw vo (off+(i+1)*7) vc lb cb
    have K2:¬(c=i+1):=by omega
    have By:(i:Int)≤(n:Int)+1:=by omega
    go_enter Proofs.Tryz.func240,Proofs.Tryz.ntmps240
    go_wp2_with (simp only[Bm])
    go_region_law_o (refine M5 rfl _ _ 39 39 rfl (.slice (some ⟨B,off+(i+1)*7,none⟩) (n-i) (c-(i+1))) (.slice (some ⟨B,off+i*7,none⟩) (n+1-i) (c-i)) (by simp[Act.eval,Act.put]) (by simp[Act.eval,Act.put]) (hA _ _) ?_)
    go_wp2_with (at_builtin;refine M4 _ rfl _ _ 39 39 rfl _ _ rfl rfl (hB _) ?_)
    go_ret
    exact⟨rfl,rfl⟩
def vJ4:Nat×mZ:=(240,Uk zG 56)
theorem P6:zD prog vJ4:=yIt (e:=142) (fn:=f240) ZI
def yR5:zE:=sp [(0,.c (.dat true zG)),sP 3 0,sI 6] [oB wR]
def yMs (f:ZJ)(d:yR5.den):=f d.1.1.1 d.1.2.2.1.1 (wF d.2.1)
def ZK:zT:=⟨[yR5],[(.exit 1,yR5)],ZL,fun k d=>yMs (Jw k k) d,fun b x _ K=>K (.exit 1) (zM b yR5 (((x.1,()),(),(x.2.1,()),()),((ie x.2.2 ()),())))⟩
def yD6:zY:=⟨[],[(6,ZK)],[],true⟩
theorem vF0:zS prog 1000 0 40 (zQ (zR f198) 0) ZK:=lp (A:=yD6) ZK (fun d=>(d.1.1.1,d.1.2.2.1.1,(wF d.2.1))) yMs Jw EI (e4 xG GR P5 P6) zF
def vM4:=zJ 198 [.c (.dat true zG),.agg vL] (.tup [(false,[.fro zG]),(false,vC)]) (fun k d=>wi k d.1 (P7 d)) (fun x=>(x.1,x.2,())) (fun d=>(d.1,d.2.1))
theorem P8:zD prog vM4:=fA f198 yD6 (e4 xG GR P5 P6) (qD vF0)
def vFz:=yW 154 [.ptr true xH,.agg La] (.c .i) [kU] 0 (fun k d=>OD k (ft d) (ySg d)) (fun x=>(x.1,(jL x.2 ()))) (fun d=>(d.1,(jv d)))
theorem vKs:zD prog vFz:=fX f154 n0 1 (e4 ig yKe yNf P8) zF
def vJ5:=zJ 199 [.ptr ZM,.c .i] (.tup [(true,pH),(false,vC)]) (fun k d=>ZN k (ft d) d.2.2.2.2.2.2.2.2.2.2.2.2.2.2.2.2.2.2.1) (fun x=>(ie x.1 (x.2,()))) (fun d=>((wF d),d.2.2.2.2.2.2.2.1))
theorem yVl:zD prog vJ5:=fA f199 n0 (e1 xG) zF
def vKo:=yW 242 [.c (.own zG),.c (.p .i),.c (.p .i)] (.c (.own zG)) [] 0 (fun k d=>Jr k d.1 d.2.1 d.2.2.1) (fun x=>(x,())) (fun d=>d.1)
theorem vAg:zD prog vKo:=fX f242 ⟨[],[],[],false⟩ 0 e0 zF
def vKd:=zJ 200 [.c (.dat true zG),.c .i] (.tup [(false,[.fro zG]),(true,pH),(false,vC)]) (fun k d=>px k d.1 d.2.1) (fun x=>(P9 x ())) (fun d=>(Qa d))
theorem pJ:zD prog vKd:=fA f200 ⟨[],[],[],false⟩ (e3 xG P5 vAg) zF
def vGx:=yW 93 [.ptr true xH,.c (.p .i),.c (.p (.dat false .i))] (.tup []) [kU] 0 (fun k d=>w8 k (ft d) d.2.2.2.2.2.2.2.2.2.2.2.2.2.2.2.2.2.2.1 d.2.2.2.2.2.2.2.2.2.2.2.2.2.2.2.2.2.2.2.1) (fun x=>(jL x ())) (fun d=>(ft d))
theorem yLz:zD prog vGx:=fX f93 n0 1 e0 zF
def ZO:=zJ 202 [.c (.dat true zG),.c .i,.c .i] (.tup [(false,[.fro zG]),(false,vC)]) (fun k d=>EJ k d.1 d.2.1 d.2.2.1) (fun x=>(x.1,x.2,())) (fun d=>(d.1,d.2.1))
theorem yP7:zD prog ZO:=fA f202 n0 (e2 pJ P8) zF
def vE0:=zJ 200 [.c (.dat false zG),.c .i] (.tup [(false,[.own zG]),(true,pH),(false,vC)]) (fun k d=>VU k d.1 d.2.1) (fun x=>(P9 x ())) (fun d=>(Qa d))
theorem yGx:zD prog vE0:=fA f200 ⟨[],[],[],false⟩ (e3 xG P5 vAg) zF
def yX0:zE:=sp [sO 6 0,sP 7 1,sI 9] [oA zG,oB wR]
def yW7 (f:ZP)(d:yX0.den):=f d.1.2.2.1.1 d.2.1 (wF d.2.2.1)
def ZQ:zT:=⟨[yX0],[(.exit 0,yX0)],ZR,fun k d=>yW7 (Jz k k) d,fun b x _ K=>K (.exit 0) (zM b yX0 (((),(),(x.1,()),()),(x.2.1,(ie x.2.2 ()),())))⟩
def yC8:zY:=⟨[],[(5,ZQ)],[],true⟩
theorem vRv:zS prog 1000 0 41 (zQ (zR f203) 0) ZQ:=lp (A:=yC8) ZQ (fun d=>(d.1.2.2.1.1,d.2.1,(wF d.2.2.1))) yW7 Jz EL (e3 yGx GR P6) zF
def ZS:=zJ 203 [.c (.dat true zG),.c .i] (.tup [(false,[.fro zG]),(false,vC)]) (fun k d=>EM k d.1 d.2.1) (fun x=>(x.1,x.2,())) (fun d=>(d.1,d.2.1))
theorem yYw:zD prog ZS:=fA f203 yC8 (e3 yGx GR P6) (qD vRv)
def vSr:=zJ 204 [.c (.dat true zG),.c .i] (.tup [(false,[.fro zG]),(false,vC)]) (fun k d=>EK k d.1 d.2.1) (fun x=>(x.1,x.2,())) (fun d=>(d.1,d.2.1))
theorem vBq:zD prog vSr:=fA f204 n0 (e2 pJ P8) zF
def ZT:=yW 155 [.ptr true xH,.agg vL] (.c .i) [kU] 0 (fun k d=>A0 k (ft d) (GS d)) (fun x=>(x.1,(jL x.2 ()))) (fun d=>(d.1,(jv d)))
theorem vHt:zD prog ZT:=fX f155 n0 1 (e8 yVl pJ yLz ig Zv yP7 yYw vBq) zF
def vU7:=vm 243 false qX (.own qX) U0
theorem vHc:zD prog vU7:=fC f243 ⟨[],[],[],false⟩ e0 zF
def vVl:=vm 208 true (.sl .i) (.jun) UY
theorem yTp:zD prog vVl:=fC f208 ⟨[],[],[],false⟩ e0 zF
def yGn:zE:=sp [sO 3 0,(8,.c (.dat true (.sl .i))),sI 9,sI 10] [.pmat]
def yOs:zE:=sp [sO 3 0] [.pmat]
def yK9 (f:ZU)(d:yGn.den):=f d.1.2.1.1 d.1.2.2.1.1 d.1.2.2.2.1.1 d.2.1.1 d.2.1.2
def ZV:zT:=⟨[yGn],[(.exit 0,yOs)],(EQ×Nat),fun k d=>yK9 (IQ k k) d,fun b x _ K=>K (.exit 0) (zM b yOs (((),()),((x.1,x.2),())))⟩
def yWf:zY:=⟨[],[(3,ZV)],[],false⟩
theorem vOa:zS prog 1000 0 22 (zQ (zR f244) 0) ZV:=lp (A:=yWf) ZV (fun d=>d.2.1) yK9 IQ DM (e2 yTp K9) zF
def vRl:=zJ 244 [.c (.dat true (.sl .i))] (.c (.mat)) (fun k d=>IS k d.1) (fun x=>(x,())) (fun d=>d.1)
theorem vC9:zD prog vRl:=fA f244 yWf (e2 yTp K9) (qD vOa)
def vLh:=zJ 205 [.agg [.dat false qX,.dat true (.sl .i),.dat false .i,.dat true (.sl .i)]] (.agg [.own qX,.mat,.own .i,.mat]) (fun k d=>(vF (gb k) d)) (fun x=>(gF x ())) (fun d=>(gj d))
theorem oK:zD prog vLh:=fA f205 ⟨[],[],[],false⟩ (e3 vHc vC9 K9) zF
def vP1:=zJ 206 [.ptr ZM,.c .i] (.c .bool) (fun k d=>ZW k (ft d) d.2.2.2.2.2.2.2.2.2.2.2.2.2.2.2.2.2.2.1) (fun x=>(x,())) (fun d=>d.1)
theorem vC1:zD prog vP1:=fA f206 n0 (e1 ig) zF
def vL5:=yW 156 [.ptr true xH,.agg vL] (.c .i) [kU] 0 (fun k d=>A2 k (ft d) (GS d)) (fun x=>(x.1,(jL x.2 ()))) (fun d=>(d.1,(jv d)))
theorem vJ3:zD prog vL5:=fX f156 n0 1 (e3 oK vC1 ig) zF
def vXo:=zJ 207 [.ptr ZM,.c .i] (.c .bool) (fun k d=>Lb k (ft d) d.2.2.2.2.2.2.2.2.2.2.2.2.2.2.2.2.2.2.1) (fun x=>(x,())) (fun d=>d.1)
theorem GU:zD prog vXo:=fA f207 n0 (e1 ig) zF
def ZX:=vm 208 true (.sl .i) (.own (.sl .i)) Fz
theorem yIe:zD prog ZX:=fC f208 ⟨[],[],[],false⟩ e0 zF
def vUe:=zJ 209 [.c (.dat false .i),.c .i,.c .i] (.c (.own .i)) (fun k d=>pA k d.1 d.2.1 d.2.2.1) (fun x=>(x,())) (fun d=>d.1)
theorem GV:zD prog vUe:=fA f209 n0 (e1 K9) zF
def vNu:=zJ 230 [.c .i] (.c .bool) (fun k d=>VZ k d.1) (fun x=>(x,())) (fun d=>d.1)
theorem ZY:zD prog vNu:=fA f230 n0 e0 zF
def vYu:=zJ 231 [.c (.int .u64),.c (.int .u64)] (.tup [(false,[.int .u64]),(false,[.int .u64])]) (fun k d=>JB k d.1 d.2.1) (fun x=>(x.1,x.2,())) (fun d=>(d.1,d.2.1))
theorem vD5:zD prog vYu:=fA f231 n0 e0 zF
def vSw:=zJ 293 [.c (.int .u64)] (.c .i) (fun k d=>yOl k d.1) (fun x=>(x,())) (fun d=>d.1)
theorem vOo:zD prog vSw:=fA f293 n0 e0 zF
def vRf:=zJ 266 [.c (.int .u64)] (.c .i) (fun k d=>yTq k d.1) (fun x=>(x,())) (fun d=>d.1)
theorem ZZ:zD prog vRf:=fA f266 n0 (e1 vOo) zF
def yKr:zE:=sp [(2,.c (.int .u64)),(8,.c (.int .u64)),(9,.c (.int .u64)),(10,.c (.int .u64)),(11,.c (.int .u64)),(13,.c (.int .u64)),(14,.c (.int .u64)),(15,.c (.int .u64)),(16,.c (.int .u64))] []
def vAs:zE:=sp [(2,.c (.int .u64)),(8,.c (.int .u64)),(9,.c (.int .u64)),(10,.c (.int .u64)),(11,.c (.int .u64)),(13,.c (.int .u64)),(14,.c (.int .u64)),(15,.c (.int .u64))] []
def yXe (f:Z0)(d:yKr.den):=f d.1.1.1 d.1.2.1.1 d.1.2.2.1.1 d.1.2.2.2.1.1 d.1.2.2.2.2.1.1 d.1.2.2.2.2.2.1.1 d.1.2.2.2.2.2.2.1.1 d.1.2.2.2.2.2.2.2.1.1 d.1.2.2.2.2.2.2.2.2.1.1
def Qb:zT:=⟨[yKr],[(.exit 0,vAs)],qQ,fun k d=>yXe (Z2 k k) d,fun b x _ K=>K (.exit 0) (zM b vAs (((x.1,()),(x.2.1,()),(x.2.2.1,()),(x.2.2.2.1,()),(x.2.2.2.2.1,()),(x.2.2.2.2.2.1,()),(x.2.2.2.2.2.2.1,()),(x.2.2.2.2.2.2.2,()),()),()))⟩
def yWw:zE:=sp [(2,.c (.int .u64)),(8,.c (.int .u64)),(9,.c (.int .u64)),(10,.c (.int .u64)),(14,.c (.int .u64)),(15,.c (.int .u64)),(16,.c (.int .u64)),(17,.c (.int .u64)),(18,.c (.int .u64))] []
def yFk:zE:=sp [(2,.c (.int .u64)),(8,.c (.int .u64)),(14,.c (.int .u64)),(15,.c (.int .u64)),(17,.c (.int .u64)),(18,.c (.int .u64))] []
def yDg (f:Z3)(d:yWw.den):=f d.1.1.1 d.1.2.1.1 d.1.2.2.1.1 d.1.2.2.2.1.1 d.1.2.2.2.2.1.1 d.1.2.2.2.2.2.1.1 d.1.2.2.2.2.2.2.1.1 d.1.2.2.2.2.2.2.2.1.1 d.1.2.2.2.2.2.2.2.2.1.1
def Qc:zT:=⟨[yWw],[(.exit 2,yFk)],Lt,fun k d=>yDg (Z5 k k) d,fun b x _ K=>K (.exit 2) (zM b yFk (((x.1,()),(x.2.1,()),(x.2.2.1,()),(x.2.2.2.1,()),(x.2.2.2.2.1,()),(x.2.2.2.2.2,()),()),()))⟩
def Z6:zY:=⟨[],[(17,Qb),(24,Qc)],[],true⟩
theorem vLb:zS prog 1000 0 135 (zQ (zR f232) 0) Qb:=lp (A:=Z6) Qb (fun d=>(d.1.1.1,d.1.2.1.1,d.1.2.2.1.1,d.1.2.2.2.1.1,d.1.2.2.2.2.1.1,d.1.2.2.2.2.2.1.1,d.1.2.2.2.2.2.2.1.1,d.1.2.2.2.2.2.2.2.1.1)) yXe Z2 yEo (e1 ZZ) zF
theorem Z7:zS prog 1000 0 135 (zQ (zR f232) 1) Qc:=lp (A:=Z6) Qc (fun d=>(d.1.1.1,d.1.2.1.1,d.1.2.2.1.1,d.1.2.2.2.1.1,d.1.2.2.2.2.1.1,d.1.2.2.2.2.2.1.1)) yDg Z5 yQ2 (e1 ZZ) zF
def Z8:=zJ 232 [.c (.int .u64),.c (.int .u64),.c (.int .u64)] (.tup [(false,[.int .u64]),(false,[.int .u64])]) (fun k d=>Od k d.1 d.2.1 d.2.2.1) (fun x=>(x.1,x.2,())) (fun d=>(d.1,d.2.1))
theorem vR1:zD prog Z8:=fA f232 Z6 (e1 ZZ) (loopsOK_of (n:=2) (by kernel_rfl) fun i hi=>match i,hi with|0,_=>⟨Qb,by kernel_rfl,vLb⟩|1,_=>⟨Qc,by kernel_rfl,Z7⟩|i+2,hi=>absurd hi (by omega))
def vMa:=(149,MW)
theorem Z9:zD prog vMa:=Uj (fn:=f149)
def vK3:=zJ 190 [.c .i,.c .i,.c .i] (.tup [(false,vC),(false,[.bool])]) (fun k d=>Oe k d.1 d.2.1 d.2.2.1) (fun x=>(x.1,x.2,())) (fun d=>(d.1,d.2.1))
theorem yWl:zD prog vK3:=fA f190 n0 (e4 ZY vD5 vR1 Z9) zF
def yTa:zE:=sp [sI 4,(5,.c (.int .u64)),(9,.c (.dat false .i)),sI 10,sI 11] []
def yBl:zE:=sp [sI 4,(5,.c (.int .u64))] []
def yW0 (f:qZ0)(d:yTa.den):=f d.1.1.1 d.1.2.1.1 d.1.2.2.1.1 d.1.2.2.2.1.1 d.1.2.2.2.2.1.1
def qKc:zT:=⟨[yTa],[(.exit 0,yBl)],wJ,fun k d=>yW0 (ER k k) d,fun b x _ K=>K (.exit 0) (zM b yBl (((x.1,()),(x.2,()),()),()))⟩
def yIo:zY:=⟨[],[(4,qKc)],[],false⟩
theorem vHg:zS prog 1000 0 37 (zQ (zR f88) 0) qKc:=lp (A:=yIo) qKc (fun d=>(d.1.1.1,d.1.2.1.1)) yW0 ER ES (e1 Z9) zF
def aaa:=zJ 88 [.c (.dat false .i)] (.tup [(false,vC),(false,[.bool])]) (fun k d=>EP k d.1) (fun x=>(x.1,x.2,())) (fun d=>(d.1,d.2.1))
theorem Qd:zD prog aaa:=fA f88 yIo (e1 Z9) (qD vHg)
def yXz:zE:=⟨[(1,.c (.dat false .i)),(2,.c (.dat false .i)),sO 8 0,(25,.c (.dat false jK)),sI 26,sI 27],[oA .i],[(8,none,.i,false)]⟩
def yOv:zE:=sp [sO 8 0] [oA .i]
def yH2:zE:=sp [sI 6,(7,.c .bool)] []
def yFq (f:qXs)(d:yXz.den):=f d.1.1.1 d.1.2.1.1 d.1.2.2.2.1.1 d.1.2.2.2.2.1.1 d.1.2.2.2.2.2.1.1 d.2.1
def qOd:zT:=⟨[yXz],[(.exit 0,yOv),(.ret,yH2)],(AC⊕jY),fun k d=>yFq (EU k k) d,fun b x _ K=>match x with|.inl x=>K (.exit 0) (zM b yOv (((),()),(x,())))|.inr x=>K .ret (zM b yH2 (((x.1,()),(x.2,()),()),()))⟩
def yTm:zY:=⟨[],[(5,qOd)],[],true⟩
theorem vGj:zS prog 1000 0 57 (zQ (zR f141) 0) qOd:=lp (A:=yTm) qOd (fun d=>match d with|.inl d=>.inl d.2.1|.inr d=>.inr (d.1.1.1,d.1.2.1.1)) yFq EU EV (e2 yWl Qd) zF
def aab:=zJ 141 [.c (.dat false jK),.c (.dat false .i),.c (.dat false .i)] (.tup [(false,vC),(false,[.bool])]) (fun k d=>rL k d.1 d.2.1 d.2.2.1) (fun x=>(x.1,x.2,())) (fun d=>(d.1,d.2.1))
theorem xI:zD prog aab:=fA f141 yTm (e2 yWl Qd) (qD vGj)
def vN2:=yW 157 [.ptr true xH,.c (.p .i),.c (.p .i)] (.c .i) [kU] 0 (fun k d=>OE k (ft d) d.2.2.2.2.2.2.2.2.2.2.2.2.2.2.2.2.2.2.1 d.2.2.2.2.2.2.2.2.2.2.2.2.2.2.2.2.2.2.2.1) (fun x=>(x.1,(jL x.2 ()))) (fun d=>(d.1,(jv d)))
theorem vO5:zD prog vN2:=fX f157 n0 1 (e6 GU ig yIe GV xI oK) zF
def vVv:=zJ 274 [.c .i,.c .i] (.tup [(false,vC),(false,[.bool])]) (fun k d=>OF k d.1 d.2.1) (fun x=>(x.1,x.2,())) (fun d=>(d.1,d.2.1))
theorem aac:zD prog vVv:=fA f274 ⟨[],[],[],false⟩ e0 zF
def vVm:=zJ 132 [.agg nz] (.c .bool) (fun k d=>Ni k d.1 d.2.1 d.2.2.1) (fun x=>(x,())) (fun d=>d.1)
theorem yJ9:zD prog vVm:=fA f132 ⟨[],[],[],false⟩ e0 zF
def vUt:=zJ 245 [.agg nz,.c .i] (.tup [(true,[.i,.i,.i]),(false,vC)]) (fun k d=>JY k (d.1,d.2.1,d.2.2.1) d.2.2.2.1) (fun x=>(x.1.1,x.1.2.1,x.1.2.2,x.2,())) (fun d=>((d.1,d.2.1,d.2.2.1),d.2.2.2.1))
theorem yMl:zD prog vUt:=fA f245 n0 (e2 aac yJ9) zF
def vPq:=zJ 210 [.agg nz,.c .i] (.tup [(true,[.i,.i,.i]),(false,vC)]) (fun k d=>FZ k (d.1,d.2.1,d.2.2.1) d.2.2.2.1) (fun x=>(x.1.1,x.1.2.1,x.1.2.2,x.2,())) (fun d=>((d.1,d.2.1,d.2.2.1),d.2.2.2.1))
theorem yXu:zD prog vPq:=fA f210 n0 (e1 yMl) zF
def vF2:=zJ 246 [.agg nz,.c .i] (.c .i) (fun k d=>(vF (v9 k) d)) (fun x=>(x,())) (fun d=>d.1)
theorem Qe:zD prog vF2:=fA f246 ⟨[],[],[],false⟩ e0 zF
def vWf:=zJ 211 [.agg nz,.c .i,.c .i] (.tup [(true,[.i,.i,.i]),(false,vC)]) (fun k d=>F0 k (d.1,d.2.1,d.2.2.1) d.2.2.2.1 d.2.2.2.2.1) (fun x=>(x.1.1,x.1.2.1,x.1.2.2,x.2,())) (fun d=>((d.1,d.2.1,d.2.2.1),d.2.2.2.1))
theorem ySl:zD prog vWf:=fA f211 n0 (e2 yMl Qe) zF
def vXs:=zJ 212 [.agg nz,.c .i] (.c .i) (fun k d=>F1 k (d.1,d.2.1,d.2.2.1) d.2.2.2.1) (fun x=>(x,())) (fun d=>d.1)
theorem yIw:zD prog vXs:=fA f212 n0 e0 zF
def vTc:=yW 158 [.ptr true xH,.c (.p .i),.c (.p .i),.c (.p .i)] (.c .i) [kU] 0 (fun k d=>qTx k (ft d) d.2.2.2.2.2.2.2.2.2.2.2.2.2.2.2.2.2.2.1 d.2.2.2.2.2.2.2.2.2.2.2.2.2.2.2.2.2.2.2.1 d.2.2.2.2.2.2.2.2.2.2.2.2.2.2.2.2.2.2.2.2.1) (fun x=>(x.1,(jL x.2 ()))) (fun d=>(d.1,(jv d)))
theorem aad:zD prog vTc:=fX f158 n0 1 (e5 ig yXu ySl yIw oK) zF
def vAk:zE:=sp [sP 0 0,sO 7 2,sP 8 3,(40,.c (.dat true (.sl .i))),sI 41,sI 42] [oB qLn,oA yI,oA .i,oB yM4,oA qX,.mat,oA .i,.mat]
def yKp:zE:=sp [sP 0 0,sO 7 2,sP 8 3] [oB qLn,oA yI,oA .i,oB yM4,oA qX,.mat,oA .i,.mat]
def yUh:zE:=sp [sP 0 0,sI 6] [oB qLn,oA yI]
def yQf (f:qTb)(d:vAk.den):=f d.1.2.2.2.1.1 d.1.2.2.2.2.1.1 d.1.2.2.2.2.2.1.1 (kV d.2.1) d.2.2.1 d.2.2.2.1 d.2.2.2.2.2.1 d.2.2.2.2.2.2.1 d.2.2.2.2.2.2.2.1 d.2.2.2.2.2.2.2.2.1
def yAq:zT:=⟨[vAk],[(.exit 0,yKp),(.ret,yUh)],qV1,fun k d=>yQf (qJ0 k k) d,fun b x _ K=>match x with|.inl x=>K (.exit 0) (zM b yKp (((),(),(),()),((vO x.1 ()),x.2.1,x.2.2.1,(),x.2.2.2.1,x.2.2.2.2.1,x.2.2.2.2.2.1,x.2.2.2.2.2.2,())))|.inr x=>K .ret (zM b yUh (((),(x.1,()),()),((vO x.2.1 ()),x.2.2,())))⟩
def yX7:zY:=⟨[],[(6,yAq)],[],true⟩
theorem vN1:zS prog 1000 1 81 (zQ (zR f159) 0) yAq:=lp (A:=yX7) yAq (fun d=>match d with|.inl d=>.inl ((kV d.2.1),d.2.2.1,d.2.2.2.1,d.2.2.2.2.2.1,d.2.2.2.2.2.2.1,d.2.2.2.2.2.2.2.1,d.2.2.2.2.2.2.2.2.1)|.inr d=>.inr (d.1.2.1.1,(kV d.2.1),d.2.2.1)) yQf qJ0 vBt (e5 GU ig GV oK xI) zF
def vZi:=yW 159 [.ptr true xH,.c (.p .i),.c (.p .i)] (.c .i) [kU] 0 (fun k d=>ySt k (ft d) d.2.2.2.2.2.2.2.2.2.2.2.2.2.2.2.2.2.2.1 d.2.2.2.2.2.2.2.2.2.2.2.2.2.2.2.2.2.2.2.1) (fun x=>(x.1,(jL x.2 ()))) (fun d=>(d.1,(jv d)))
theorem aae:zD prog vZi:=fX f159 yX7 1 (e5 GU ig GV oK xI) (qD vN1)
def vZx:=yW 94 [.ptr true xH,.agg vL] (.c .i) [kU] 0 (fun k d=>Pn k (ft d) (GS d)) (fun x=>(x.1,(jL x.2 ()))) (fun d=>(d.1,(jv d)))
theorem vI0:zD prog vZx:=fX f94 n0 1 (e6 vKs vHt vJ3 vO5 aad aae) zF
def vO1:=zJ 89 [.agg ju,.c .i] (.c .bool) (fun k d=>(jw (AY k) d)) (fun x=>(x,())) (fun d=>d.1)
theorem Qf:zD prog vO1:=fA f89 ⟨[],[],[],false⟩ e0 zF
def aaf:=zJ 162 [.c .i,.c .i,.c (.dat false .i)] (.agg [.i,.i,.i,.i,.i,.i,.i,.i]) (fun k d=>pC k d.1 d.2.1 d.2.2.1) (fun x=>(GO x ())) (fun d=>(oJ d))
theorem xJ:zD prog aaf:=fA f162 ⟨[],[],[],false⟩ e0 zF
def vAp:zE:=⟨[sP 1 0,sP 2 1,sO 4 2,(10,.c (.dat true zG)),sI 11,sI 12],[oB gi,oB fq,oA yI],[(4,none,yI,false)]⟩
def ySe:zE:=sp [sP 1 0,sP 2 1,sO 4 2] [oB gi,oB fq,oA yI]
def yFm (f:qOo)(d:vAp.den):=(rV (f d.1.2.2.2.1.1 d.1.2.2.2.2.1.1 d.1.2.2.2.2.2.1.1) d.2.1) d.2.2.1.1 d.2.2.1.2.1 d.2.2.1.2.2.1 d.2.2.2.1
def Qg:zT:=⟨[vAp],[(.exit 0,ySe)],qNc,fun k d=>yFm (Fp k k) d,fun b x _ K=>K (.exit 0) (zM b ySe (((),(),(),()),((xK x ()),(x.2.2.2.2.2.2.2.2.2.2.2.1,x.2.2.2.2.2.2.2.2.2.2.2.2.1,x.2.2.2.2.2.2.2.2.2.2.2.2.2.1,()),x.2.2.2.2.2.2.2.2.2.2.2.2.2.2,())))⟩
def yVc:zE:=sp [sP 1 0,sP 2 1,sO 4 2,(28,.c (.dat true qX)),sI 29,sI 30] [oB gi,oB fq,oA yI]
def yBw (f:qSt)(d:yVc.den):=(rV (f d.1.2.2.2.1.1 d.1.2.2.2.2.1.1 d.1.2.2.2.2.2.1.1) d.2.1) d.2.2.1.1 d.2.2.1.2.1 d.2.2.1.2.2.1 d.2.2.2.1
def Qh:zT:=⟨[yVc],[(.exit 2,ySe)],qNc,fun k d=>yBw (JU k k) d,fun b x _ K=>K (.exit 2) (zM b ySe (((),(),(),()),((xK x ()),(x.2.2.2.2.2.2.2.2.2.2.2.1,x.2.2.2.2.2.2.2.2.2.2.2.2.1,x.2.2.2.2.2.2.2.2.2.2.2.2.2.1,()),x.2.2.2.2.2.2.2.2.2.2.2.2.2.2,())))⟩
def qL3:zY:=⟨[],[(3,Qg),(8,Qh)],[],false⟩
theorem vLu:zS prog 1000 0 48 (zQ (zR f160) 0) Qg:=lp (A:=qL3) Qg (fun d=>(xK d.2.1 (d.2.2.1.1,d.2.2.1.2.1,d.2.2.1.2.2.1,d.2.2.2.1))) yFm Fp Fq (e1 xJ) zF
theorem vRj:zS prog 1000 0 48 (zQ (zR f160) 1) Qh:=lp (A:=qL3) Qh (fun d=>(xK d.2.1 (d.2.2.1.1,d.2.2.1.2.1,d.2.2.1.2.2.1,d.2.2.2.1))) yBw JU Ft (e1 xJ) zF
def vFi:=zJ 160 [.agg xD] (.tup [(true,[.i,.fro qX,.fro (.sl .i),.fro .i,.fro (.sl .i),.fro .i,.fro (.sl .i),.own zG,.fro .i,.i,.bool]),(false,[.own yI])]) (fun k d=>(rV (OB k) d)) (fun x=>(GW x ())) (fun d=>(GX d))
theorem vBj:zD prog vFi:=fA f160 qL3 (e1 xJ) (loopsOK_of (n:=2) (by kernel_rfl) fun i hi=>match i,hi with|0,_=>⟨Qg,by kernel_rfl,vLu⟩|1,_=>⟨Qh,by kernel_rfl,vRj⟩|i+2,hi=>absurd hi (by omega))
def vYm:=zJ 161 [.agg vL,.c .i] (.c .bool) (fun k d=>(lJ (Wn k) d)) (fun x=>(x,())) (fun d=>d.1)
theorem yRf:zD prog vYm:=fA f161 ⟨[],[],[],false⟩ e0 zF
def vR0:=zJ 163 [.agg ju,.c .i] (.c .bool) (fun k d=>(jw (Fw k) d)) (fun x=>(x,())) (fun d=>d.1)
theorem yZ9:zD prog vR0:=fA f163 ⟨[],[],[],false⟩ e0 zF
def vIw:=zJ 281 [.agg vL,.c .i] (.c .bool) (fun k d=>(lJ (Vy k) d)) (fun x=>(x,())) (fun d=>d.1)
theorem vEv:zD prog vIw:=fA f281 ⟨[],[],[],false⟩ e0 zF
def vT5:=zJ 280 [.agg vL,.ptr [.i]] (.c .bool) (fun k d=>(lJ (Vx k) d)) (fun x=>(x,())) (fun d=>d.1)
theorem yHz:zD prog vT5:=fA f280 ⟨[],[],[],false⟩ (e1 vEv) zF
def ySn:zE:=⟨[(1,.c (.lit (.fn 280 [1001000]))),sO 5 1,(8,.c (.dat false zG)),sI 9,sI 10],[.robox [.i],oA zG],[(5,none,zG,false)]⟩
def yIu (f:Zq)(d:ySn.den):=f d.1.2.2.1.1 d.1.2.2.2.1.1 d.1.2.2.2.2.1.1 d.2.1.1 d.2.2.1
def qOr:zT:=⟨[ySn],[(.exit 0,yYo)],Zs,fun k d=>yIu (Jk k k) d,fun b x _ K=>K (.exit 0) (zM b yYo (((),()),(x,())))⟩
def yH5:zY:=⟨[],[(3,qOr)],[],false⟩
theorem vPp:zS prog 1000 0 23 (zQ (zR f194) 0) qOr:=lp (A:=yH5) qOr (fun d=>d.2.1) yIu Jk Eo (e1 yHz) zF
def vXe:=zJ 194 [.c (.dat false zG),.fn 280 [[.i]]] (.c (.own zG)) (fun k d=>Vw k d.1 d.2.1) (fun x=>(x,())) (fun d=>d.1)
theorem vOy:zD prog vXe:=fA f194 yH5 (e1 yHz) (qD vPp)
def vZt:=zJ 251 [.c (.dat false zG),.c .i] (.c (.own zG)) (fun k d=>En k d.1 d.2.1) (fun x=>(x,())) (fun d=>d.1)
theorem BE:zD prog vZt:=fA f251 ⟨[],[],[],false⟩ (e1 vOy) zF
def aag:=zJ 305 [.agg vL,.ptr vL] (.c .bool) (fun k d=>(GQ (VC k) d)) (fun x=>(x,())) (fun d=>d.1)
theorem yMq:zD prog aag:=fA f305 ⟨[],[],[],false⟩ e0 zF
def vAn:zE:=sp [(0,.c (.dat false zG)),(1,.c (.lit (.fn 305 [1001000]))),sI 7,sI 8] [.robox wR]
def yZn (f:qR4)(d:vAn.den):=(lK (f d.1.1.1 d.1.2.2.1.1 d.1.2.2.2.1.1) d.2.1)
def yAg:zT:=⟨[vAn],[(.exit 0,yQs),(.ret,yBi)],(Unit⊕Int),fun k d=>yZn (Jp k k) d,fun b x _ K=>match x with|.inl x=>K (.exit 0) (zM b yQs ((),()))|.inr x=>K .ret (zM b yBi (((x,()),()),()))⟩
def yT0:zY:=⟨[],[(2,yAg)],[],false⟩
theorem vIy:zS prog 1000 0 19 (zQ (zR f166) 0) yAg:=lp (A:=yT0) yAg (fun d=>match d with|.inl d=>.inl ()|.inr d=>.inr d.1.1.1) yZn Jp Ew (e1 yMq) zF
def vGa:=zJ 166 [.c (.dat false zG),.fn 305 [vL]] (.c .i) (fun k d=>(lJ (VD k) d)) (fun x=>(x,())) (fun d=>d.1)
theorem vRe:zD prog vGa:=fA f166 yT0 (e1 yMq) (qD vIy)
def aah:=zJ 148 [.c (.dat false zG),.fn 305 [vL]] (.c .bool) (fun k d=>(lJ (NY k) d)) (fun x=>(x,())) (fun d=>d.1)
theorem vQu:zD prog aah:=fA f148 ⟨[],[],[],false⟩ (e1 vRe) zF
def vSg:=yW 304 [.agg vL,.ptr true [.map],.ptr false [.p (.dat false zG)]] (.c .bool) [[.map]] 0 (fun k d=>(Qi (VF k) d)) (fun x=>(x.1,x.2,())) (fun d=>(d.1,d.2.1))
theorem yGi:zD prog vSg:=fX f304 ⟨[],[],[],false⟩ 3 (e1 vQu) zF
def yCz:zE:=⟨[(1,.c (.lit (.fn 304 [1001000,1001002]))),sO 5 3,(8,.c (.dat false zG)),sI 9,sI 10],[oB [.lit (.map 1001001)],.imap,.robox [.dat false zG],oA zG],[(5,none,zG,false)]⟩
def yMt:zE:=sp [(1,.c (.lit (.fn 304 [1001000,1001002]))),sO 5 3] [oB [.lit (.map 1001001)],.imap,.robox [.dat false zG],oA zG]
def yPu (f:yAm)(d:yCz.den):=f d.1.2.2.1.1 d.1.2.2.2.1.1 d.1.2.2.2.2.1.1 d.2.2.1 d.2.2.2.1.1 d.2.2.2.2.1
def qMg:zT:=⟨[yCz],[(.exit 0,yMt)],qSb,fun k d=>yPu (Ey k k) d,fun b x _ K=>K (.exit 0) (zM b yMt (((),(),()),((),x.1,(x.2.1,()),x.2.2,())))⟩
def yFb:zY:=⟨[],[(3,qMg)],[],false⟩
theorem vQz:zS prog 1000 2 23 (zQ (zR f194) 0) qMg:=lp (A:=yFb) qMg (fun d=>(d.2.2.1,d.2.2.2.1.1,d.2.2.2.2.1)) yPu Ey Ez (e1 yGi) zF
def vU2:=yW 194 [.c (.p (.dat false zG)),.fn 304 [(true,[.map]),(false,[.p (.dat false zG)])]] (.c (.own zG)) [[.map]] 0 (fun k d=>VE k d.1 d.2.1 d.2.2.1) (fun x=>(x.1,x.2,())) (fun d=>(d.1,d.2.1))
theorem vIf:zD prog vU2:=fX f194 yFb 2 (e1 yGi) (qD vQz)
def vL1:=zJ 296 [.c (.dat false zG),.c .i] (.c (.own zG)) (fun k d=>Jq k d.1 d.2.1) (fun x=>(x,())) (fun d=>d.1)
theorem Lc:zD prog vL1:=fA f296 ⟨[],[],[],false⟩ (e2 BE vIf) zF
def vWi:=zJ 144 [.agg jN,.agg vL] (.c .bool) (fun k d=>(rV (DQ k) d)) (fun x=>(x,())) (fun d=>d.1)
theorem yAj:zD prog vWi:=fA f144 ⟨[],[],[],false⟩ e0 zF
def vJm:=zJ 306 [.agg vL,.ptr jN] (.c .bool) (fun k d=>(rV (Vt k) d)) (fun x=>(x,())) (fun d=>d.1)
theorem yQu:zD prog vJm:=fA f306 ⟨[],[],[],false⟩ (e1 yAj) zF
def yUd:zE:=sp [(0,.c (.dat false zG)),(1,.c (.lit (.fn 306 [1001000]))),sI 7,sI 8] [.robox jH]
def yKt (f:qKu)(d:yUd.den):=(vF (f d.1.1.1 d.1.2.2.1.1 d.1.2.2.2.1.1) d.2.1)
def qTq:zT:=⟨[yUd],[(.exit 0,yQs),(.ret,yBi)],(Unit⊕Int),fun k d=>yKt (Ji k k) d,fun b x _ K=>match x with|.inl x=>K (.exit 0) (zM b yQs ((),()))|.inr x=>K .ret (zM b yBi (((x,()),()),()))⟩
def yRl:zY:=⟨[],[(2,qTq)],[],false⟩
theorem vKq:zS prog 1000 0 19 (zQ (zR f166) 0) qTq:=lp (A:=yRl) qTq (fun d=>match d with|.inl d=>.inl ()|.inr d=>.inr d.1.1.1) yKt Ji Em (e1 yQu) zF
def aai:=zJ 166 [.c (.dat false zG),.fn 306 [jN]] (.c .i) (fun k d=>(kW (Vu k) d)) (fun x=>(x,())) (fun d=>d.1)
theorem vTy:zD prog aai:=fA f166 yRl (e1 yQu) (qD vKq)
def vFj:=zJ 148 [.c (.dat false zG),.fn 306 [jN]] (.c .bool) (fun k d=>(kW (NU k) d)) (fun x=>(x,())) (fun d=>d.1)
theorem vMn:zD prog vFj:=fA f148 ⟨[],[],[],false⟩ (e1 vTy) zF
def yXt:zE:=sp [sP 4 0,sP 5 1,(15,.c (.dat false zG)),sI 16,sI 17] [oB [.lit .nsl,.lit .nsl,.lit .nsl],oB qUy,oA .i,oA .i,.mat]
def yM0:zE:=sp [sP 4 0,sP 5 1] [oB [.lit .nsl,.lit .nsl,.lit .nsl],oB qUy,oA .i,oA .i,.mat]
def yEd (f:qQm)(d:yXt.den):=f d.1.2.2.1.1 d.1.2.2.2.1.1 d.1.2.2.2.2.1.1 d.2.2.2.1 d.2.2.2.2.1 d.2.2.2.2.2.1
def qRw:zT:=⟨[yXt],[(.exit 0,yM0)],qQh,fun k d=>yEd (Je k k) d,fun b x _ K=>K (.exit 0) (zM b yM0 (((),(),()),((),(),x.1,x.2.1,x.2.2,())))⟩
def yQq:zY:=⟨[],[(3,qRw)],[],false⟩
theorem vMt:zS prog 1000 0 84 (zQ (zR f298) 0) qRw:=lp (A:=yQq) qRw (fun d=>(d.2.2.2.1,d.2.2.2.2.1,d.2.2.2.2.2.1)) yEd Je Ee (e2 BC K6) zF
def vPn:=zJ 298 [.c .i,.c (.dat false zG)] (.agg [.own .i,.own .i,.mat]) (fun k d=>NP k d.1 d.2.1) (fun x=>(x.1,x.2.1,x.2.2,())) (fun d=>(d.1,d.2.1,d.2.2.1))
theorem yI4:zD prog vPn:=fA f298 yQq (e2 BC K6) (qD vMt)
def vIl:=zJ 299 [.agg vL,.ptr [.i]] (.c .bool) (fun k d=>(lJ (Vl k) d)) (fun x=>(x,())) (fun d=>d.1)
theorem yB2:zD prog vIl:=fA f299 ⟨[],[],[],false⟩ e0 zF
def yW3:zE:=sp [(0,.c (.dat false zG)),(1,.c (.lit (.fn 299 [1001000]))),sI 7,sI 8] [.robox [.i]]
def yJg (f:ZD)(d:yW3.den):=f d.1.1.1 d.1.2.2.1.1 d.1.2.2.2.1.1 d.2.1.1
def qSs:zT:=⟨[yW3],[(.exit 0,yQs),(.ret,yBi)],(Unit⊕Int),fun k d=>yJg (Jf k k) d,fun b x _ K=>match x with|.inl x=>K (.exit 0) (zM b yQs ((),()))|.inr x=>K .ret (zM b yBi (((x,()),()),()))⟩
def yS1:zY:=⟨[],[(2,qSs)],[],false⟩
theorem vN7:zS prog 1000 0 19 (zQ (zR f166) 0) qSs:=lp (A:=yS1) qSs (fun d=>match d with|.inl d=>.inl ()|.inr d=>.inr d.1.1.1) yJg Jf Ef (e1 yB2) zF
def vIk:=zJ 166 [.c (.dat false zG),.fn 299 [[.i]]] (.c .i) (fun k d=>Vm k d.1 d.2.1) (fun x=>(x,())) (fun d=>d.1)
theorem vIj:zD prog vIk:=fA f166 yS1 (e1 yB2) (qD vN7)
def vYw:=zJ 148 [.c (.dat false zG),.fn 299 [[.i]]] (.c .bool) (fun k d=>NQ k d.1 d.2.1) (fun x=>(x,())) (fun d=>d.1)
theorem yVj:zD prog vYw:=fA f148 ⟨[],[],[],false⟩ (e1 vIj) zF
def yF5:zE:=sp [sI 5,(12,.c (.dat false .i)),sI 13,sI 14] []
def vBg:zE:=sp [sI 5] []
def yVq (f:Int→AC→Int→Int→Option Int)(d:yF5.den):=f d.1.1.1 d.1.2.1.1 d.1.2.2.1.1 d.1.2.2.2.1.1
def qW5:zT:=⟨[yF5],[(.exit 0,vBg)],Int,fun k d=>yVq (D9 k k) d,fun b x _ K=>K (.exit 0) (zM b vBg (((x,()),()),()))⟩
def yXx:zY:=⟨[],[(3,qW5)],[],false⟩
theorem aaj:zS prog 1000 0 23 (zQ (zR f307) 0) qW5:=lp (A:=yXx) qW5 (fun d=>d.1.1.1) yVq D9 Ea e0 zF
def vHn:=zJ 307 [.agg jN,.c .i] (.c .i) (fun k d=>(kW (NM k) d)) (fun x=>(x,())) (fun d=>d.1)
theorem yT6:zD prog vHn:=fA f307 yXx e0 (qD aaj)
def vM0:=zJ 308 [.c .i,.c .i] (.c .bool) (fun k d=>Eh k d.1 d.2.1) (fun x=>(x,())) (fun d=>d.1)
theorem qWa:zD prog vM0:=fA f308 ⟨[],[],[],false⟩ e0 zF
def vO6:=zJ 309 [.agg vL,.ptr [.i],.ptr nz,.ptr Qj,.ptr [.i],.ptr jN] (.c .bool) (fun k d=>(vVq (Vo k) d)) (fun x=>(x,())) (fun d=>d.1)
theorem yG4:zD prog vO6:=fA f309 ⟨[],[],[],false⟩ (e2 Qe qWa) zF
def yHr:zE:=sp [(0,.c (.dat false zG)),(1,.c (.lit (.fn 309 [1001000,1001001,1001002,1001003,1001004]))),sI 7,sI 8] [.robox [.i],.robox [.i,.i,.i],.robox qN2,.robox [.i],.robox jH]
def yYd (f:qXu)(d:yHr.den):=(vF (f d.1.1.1 d.1.2.2.1.1 d.1.2.2.2.1.1 d.2.1.1 d.2.2.1.1 d.2.2.1.2.1 d.2.2.1.2.2.1 d.2.2.2.1.1 d.2.2.2.1.2.1 d.2.2.2.1.2.2.1 d.2.2.2.2.1.1) d.2.2.2.2.2.1)
def qN6:zT:=⟨[yHr],[(.exit 0,yQs),(.ret,yBi)],(Unit⊕Int),fun k d=>yYd (Jh k k) d,fun b x _ K=>match x with|.inl x=>K (.exit 0) (zM b yQs ((),()))|.inr x=>K .ret (zM b yBi (((x,()),()),()))⟩
def yJ4:zY:=⟨[],[(2,qN6)],[],false⟩
theorem aak:zS prog 1000 0 19 (zQ (zR f166) 0) qN6:=lp (A:=yJ4) qN6 (fun d=>match d with|.inl d=>.inl ()|.inr d=>.inr d.1.1.1) yYd Jh Ei (e1 yG4) zF
def aal:=zJ 166 [.c (.dat false zG),.fn 309 [[.i],nz,Qj,[.i],jN]] (.c .i) (fun k d=>(qN4 (Vp k) d)) (fun x=>(x,())) (fun d=>d.1)
theorem vKy:zD prog aal:=fA f166 yJ4 (e1 yG4) (qD aak)
def vZo:=zJ 148 [.c (.dat false zG),.fn 309 [[.i],nz,Qj,[.i],jN]] (.c .bool) (fun k d=>(qN4 (NR k) d)) (fun x=>(x,())) (fun d=>d.1)
theorem yCe:zD prog vZo:=fA f148 ⟨[],[],[],false⟩ (e1 vKy) zF
def yLf:zE:=sp [(3,.c (.dat false zG)),sP 4 0,sP 5 1,sP 6 2,sP 9 3,sP 10 4,sI 11,(39,.c (.dat false .i)),sI 40,sI 41] [oB qN2,oB jH,oB [.i],oB [.i,.i,.i],oB [.i]]
def vBf:zE:=sp [(3,.c (.dat false zG)),sP 4 0,sP 5 1,sP 6 2,sP 9 3,sP 10 4,sI 11] [oB qN2,oB jH,oB [.i],oB [.i,.i,.i],oB [.i]]
def yK0 (f:qOj)(d:yLf.den):=(vF (f d.1.1.1 d.1.2.2.2.2.2.2.1.1 d.1.2.2.2.2.2.2.2.1.1 d.1.2.2.2.2.2.2.2.2.1.1 d.1.2.2.2.2.2.2.2.2.2.1.1 d.2.1.1 d.2.1.2.1 d.2.1.2.2.1) d.2.2.1) d.2.2.2.1.1 d.2.2.2.2.1.1 d.2.2.2.2.1.2.1 d.2.2.2.2.1.2.2.1 d.2.2.2.2.2.1.1
def qYu:zT:=⟨[yLf],[(.exit 0,vBf)],qS6,fun k d=>yK0 (AF k k) d,fun b x _ K=>K (.exit 0) (zM b vBf (((x.1,()),(),(),(),(),(),(x.2.1,()),()),((x.2.2.1,x.2.2.2.1,x.2.2.2.2.1,()),(vJz x ()),(x.2.2.2.2.2.2.2.2.2.1,()),(x.2.2.2.2.2.2.2.2.2.2.1,x.2.2.2.2.2.2.2.2.2.2.2.1,x.2.2.2.2.2.2.2.2.2.2.2.2.1,()),(x.2.2.2.2.2.2.2.2.2.2.2.2.2,()),())))⟩
def yHw:zY:=⟨[],[(7,qYu)],[],false⟩
theorem vNr:zS prog 1000 0 59 (zQ (zR f300) 0) qYu:=lp (A:=yHw) qYu (fun d=>(d.1.1.1,d.1.2.2.2.2.2.2.1.1,d.2.1.1,d.2.1.2.1,d.2.1.2.2.1,(vT d.2.2.1 (d.2.2.2.1.1,d.2.2.2.2.1.1,d.2.2.2.2.1.2.1,d.2.2.2.2.1.2.2.1,d.2.2.2.2.2.1.1)))) yK0 AF Ej (e3 yT6 qWa yCe) zF
def vDh:=zJ 300 [.agg Qj,.agg jN,.c .i,.c (.dat false zG)] (.c .bool) (fun k d=>(Qi (NT k) d)) (fun x=>(x,())) (fun d=>d.1)
theorem yOi:zD prog vDh:=fA f300 yHw (e3 yT6 qWa yCe) (qD vNr)
def yCy:zE:=⟨[(1,.c (.dat false zG)),sP 2 0,sP 5 1,sO 6 5,sI 16,sI 17],[oB jH,oB qUy,oA .i,oA .i,.mat,oA .i],[(6,none,.i,false)]⟩
def yDd:zE:=sp [sO 6 0] [oA .i]
def yG5 (f:qYc)(d:yCy.den):=(vF (f d.1.1.1 d.1.2.2.2.2.1.1 d.1.2.2.2.2.2.1.1) d.2.1) d.2.2.2.1 d.2.2.2.2.1 d.2.2.2.2.2.1 d.2.2.2.2.2.2.1
def qWq:zT:=⟨[yCy],[(.exit 0,yDd)],AC,fun k d=>yG5 (Ek k k) d,fun b x _ K=>K (.exit 0) (zM b yDd (((),()),(x,())))⟩
def yO2:zY:=⟨[],[(4,qWq)],[],false⟩
theorem vIv:zS prog 1000 0 37 (zQ (zR f277) 0) qWq:=lp (A:=yO2) qWq (fun d=>d.2.1) yG5 Ek El (e3 yI4 yVj yOi) zF
def aam:=zJ 277 [.agg jN,.c (.dat false zG)] (.c (.own .i)) (fun k d=>(kW (AG k) d)) (fun x=>(x,())) (fun d=>d.1)
theorem Ld:zD prog aam:=fA f277 yO2 (e3 yI4 yVj yOi) (qD vIv)
def vFu:=zJ 297 [.agg jN,.c (.dat false zG)] (.c .bool) (fun k d=>(kW (AH k) d)) (fun x=>(x,())) (fun d=>d.1)
theorem Le:zD prog vFu:=fA f297 ⟨[],[],[],false⟩ (e2 vMn Ld) zF
def aan:=zJ 282 [.agg vL,.ptr jN] (.c .bool) (fun k d=>(rV (U5 k) d)) (fun x=>(x,())) (fun d=>d.1)
theorem yP4:zD prog aan:=fA f282 ⟨[],[],[],false⟩ (e1 yAj) zF
def yB9:zE:=sp [(0,.c (.dat false zG)),(1,.c (.lit (.fn 282 [1001000]))),sI 7,sI 8] [.robox jH]
def yBp (f:qKu)(d:yB9.den):=(vF (f d.1.1.1 d.1.2.2.1.1 d.1.2.2.2.1.1) d.2.1)
def qPr:zT:=⟨[yB9],[(.exit 0,yQs),(.ret,yBi)],(Unit⊕Int),fun k d=>yBp (IZ k k) d,fun b x _ K=>match x with|.inl x=>K (.exit 0) (zM b yQs ((),()))|.inr x=>K .ret (zM b yBi (((x,()),()),()))⟩
def yJs:zY:=⟨[],[(2,qPr)],[],false⟩
theorem aao:zS prog 1000 0 19 (zQ (zR f166) 0) qPr:=lp (A:=yJs) qPr (fun d=>match d with|.inl d=>.inl ()|.inr d=>.inr d.1.1.1) yBp IZ DR (e1 yP4) zF
def vGl:=zJ 166 [.c (.dat false zG),.fn 282 [jN]] (.c .i) (fun k d=>(kW (U6 k) d)) (fun x=>(x,())) (fun d=>d.1)
theorem aap:zD prog vGl:=fA f166 yJs (e1 yP4) (qD aao)
def vXg:=zJ 148 [.c (.dat false zG),.fn 282 [jN]] (.c .bool) (fun k d=>(kW (Nw k) d)) (fun x=>(x,())) (fun d=>d.1)
theorem yNw:zD prog vXg:=fA f148 ⟨[],[],[],false⟩ (e1 aap) zF
def vOu:=zJ 131 [.agg nz] (.c .bool) (fun k d=>UQ k d.1 d.2.1 d.2.2.1) (fun x=>(x,())) (fun d=>d.1)
theorem yNh:zD prog vOu:=fA f131 ⟨[],[],[],false⟩ (e1 yJ9) zF
def yX2:zE:=sp [(0,.c (.dat false qX)),(1,.c (.lit (.fn 131 []))),sI 7,sI 8] []
def yT8 (f:qUo)(d:yX2.den):=f d.1.1.1 d.1.2.2.1.1 d.1.2.2.2.1.1
def yAy:zT:=⟨[yX2],[(.exit 0,yQs),(.ret,yBi)],(Unit⊕Int),fun k d=>yT8 (IG k k) d,fun b x _ K=>match x with|.inl x=>K (.exit 0) (zM b yQs ((),()))|.inr x=>K .ret (zM b yBi (((x,()),()),()))⟩
def yK5:zY:=⟨[],[(2,yAy)],[],false⟩
theorem vW9:zS prog 1000 0 19 (zQ (zR f187) 0) yAy:=lp (A:=yK5) yAy (fun d=>match d with|.inl d=>.inl ()|.inr d=>.inr d.1.1.1) yT8 IG DD (e1 yNh) zF
def vMq:=zJ 187 [.c (.dat false qX),.c (.fn 131)] (.c .i) (fun k d=>UR k d.1) (fun x=>(x,())) (fun d=>d.1)
theorem vHf:zD prog vMq:=fA f187 yK5 (e1 yNh) (qD vW9)
def aaq:=zJ 133 [.c (.dat false qX),.c (.fn 131)] (.c .bool) (fun k d=>Nl k d.1) (fun x=>(x,())) (fun d=>d.1)
theorem vUp:zD prog aaq:=fA f133 ⟨[],[],[],false⟩ (e1 vHf) zF
def vPs:=zJ 135 [.c .i] (.c .bool) (fun k d=>UO k d.1) (fun x=>(x,())) (fun d=>d.1)
theorem aar:zD prog vPs:=fA f135 ⟨[],[],[],false⟩ e0 zF
def vMv:=zJ 188 [.c .i,.ptr [.fn 135]] (.c .bool) (fun k d=>UT k d.1) (fun x=>(x,())) (fun d=>d.1)
theorem yNv:zD prog vMv:=fA f188 ⟨[],[],[],false⟩ (e1 aar) zF
def yRs:zE:=sp [(0,.c (.dat false .i)),(1,.c (.lit (.fn 188 [1001000]))),sI 7,sI 8] [.robox [.lit (.fn 135 [])]]
def vB8 (f:yAt)(d:yRs.den):=f d.1.1.1 d.1.2.2.1.1 d.1.2.2.2.1.1
def qL1:zT:=⟨[yRs],[(.exit 0,yQs),(.ret,yBi)],(Unit⊕Int),fun k d=>vB8 (IH k k) d,fun b x _ K=>match x with|.inl x=>K (.exit 0) (zM b yQs ((),()))|.inr x=>K .ret (zM b yBi (((x,()),()),()))⟩
def yMj:zY:=⟨[],[(2,qL1)],[],false⟩
theorem vMb:zS prog 1000 0 19 (zQ (zR f189) 0) qL1:=lp (A:=yMj) qL1 (fun d=>match d with|.inl d=>.inl ()|.inr d=>.inr d.1.1.1) vB8 IH DE (e1 yNv) zF
def vO8:=zJ 189 [.c (.dat false .i),.fn 188 [[.fn 135]]] (.c .i) (fun k d=>UU k d.1) (fun x=>(x,())) (fun d=>d.1)
theorem aas:zD prog vO8:=fA f189 yMj (e1 yNv) (qD vMb)
def vUl:=zJ 139 [.c (.dat false .i),.fn 188 [[.fn 135]]] (.c .bool) (fun k d=>Nm k d.1) (fun x=>(x,())) (fun d=>d.1)
theorem vHl:zD prog vUl:=fA f139 ⟨[],[],[],false⟩ (e1 aas) zF
def vV6:=zJ 136 [.c (.dat false .i),.c .i,.c (.fn 135)] (.c .bool) (fun k d=>IJ k d.1 d.2.1) (fun x=>(x,())) (fun d=>d.1)
theorem qVf:zD prog vV6:=fA f136 ⟨[],[],[],false⟩ (e1 vHl) zF
def yRh:zE:=sp [sI 1,(2,.c (.lit (.fn 135 []))),(13,.c (.dat false (.sl .i))),sI 14,sI 15] []
def yBg:zE:=sp [(6,.c .bool)] []
def yIq (f:qS3)(d:yRh.den):=f d.1.1.1 d.1.2.2.1.1 d.1.2.2.2.1.1 d.1.2.2.2.2.1.1
def qRs:zT:=⟨[yRh],[(.exit 0,yQs),(.ret,yBg)],(Unit⊕Bool),fun k d=>yIq (IK k k) d,fun b x _ K=>match x with|.inl x=>K (.exit 0) (zM b yQs ((),()))|.inr x=>K .ret (zM b yBg (((x,()),()),()))⟩
def vAy:zY:=⟨[],[(4,qRs)],[],false⟩
theorem vJn:zS prog 1000 0 25 (zQ (zR f134) 0) qRs:=lp (A:=vAy) qRs (fun d=>match d with|.inl d=>.inl ()|.inr d=>.inr d.1.1.1) yIq IK DG (e1 qVf) zF
def vPz:=zJ 134 [.c (.dat false (.sl .i)),.c .i,.c (.fn 135)] (.c .bool) (fun k d=>Np k d.1 d.2.1) (fun x=>(x,())) (fun d=>d.1)
theorem vXt:zD prog vPz:=fA f134 vAy (e1 qVf) (qD vJn)
def aat:=zJ 137 [.c .i] (.c .bool) (fun k d=>Nj k d.1) (fun x=>(x,())) (fun d=>d.1)
theorem aau:zD prog aat:=fA f137 ⟨[],[],[],false⟩ e0 zF
def vTs:=zJ 188 [.c .i,.ptr [.fn 137]] (.c .bool) (fun k d=>UW k d.1) (fun x=>(x,())) (fun d=>d.1)
theorem yHj:zD prog vTs:=fA f188 ⟨[],[],[],false⟩ (e1 aau) zF
def yO1:zE:=sp [(0,.c (.dat false .i)),(1,.c (.lit (.fn 188 [1001000]))),sI 7,sI 8] [.robox [.lit (.fn 137 [])]]
def yZ0 (f:yAt)(d:yO1.den):=f d.1.1.1 d.1.2.2.1.1 d.1.2.2.2.1.1
def qUq:zT:=⟨[yO1],[(.exit 0,yQs),(.ret,yBi)],(Unit⊕Int),fun k d=>yZ0 (II k k) d,fun b x _ K=>match x with|.inl x=>K (.exit 0) (zM b yQs ((),()))|.inr x=>K .ret (zM b yBi (((x,()),()),()))⟩
def yMm:zY:=⟨[],[(2,qUq)],[],false⟩
theorem vFp:zS prog 1000 0 19 (zQ (zR f189) 0) qUq:=lp (A:=yMm) qUq (fun d=>match d with|.inl d=>.inl ()|.inr d=>.inr d.1.1.1) yZ0 II DF (e1 yHj) zF
def vGf:=zJ 189 [.c (.dat false .i),.fn 188 [[.fn 137]]] (.c .i) (fun k d=>UX k d.1) (fun x=>(x,())) (fun d=>d.1)
theorem vMr:zD prog vGf:=fA f189 yMm (e1 yHj) (qD vFp)
def aav:=zJ 139 [.c (.dat false .i),.fn 188 [[.fn 137]]] (.c .bool) (fun k d=>Nn k d.1) (fun x=>(x,())) (fun d=>d.1)
theorem vNy:zD prog aav:=fA f139 ⟨[],[],[],false⟩ (e1 vMr) zF
def aaw:=zJ 136 [.c (.dat false .i),.c .i,.c (.fn 137)] (.c .bool) (fun k d=>No k d.1 d.2.1) (fun x=>(x,())) (fun d=>d.1)
theorem yWd:zD prog aaw:=fA f136 ⟨[],[],[],false⟩ (e1 vNy) zF
def yS4:zE:=sp [sI 1,(2,.c (.lit (.fn 137 []))),(13,.c (.dat false (.sl .i))),sI 14,sI 15] []
def yLv (f:qS3)(d:yS4.den):=f d.1.1.1 d.1.2.2.1.1 d.1.2.2.2.1.1 d.1.2.2.2.2.1.1
def qJl:zT:=⟨[yS4],[(.exit 0,yQs),(.ret,yBg)],(Unit⊕Bool),fun k d=>yLv (IL k k) d,fun b x _ K=>match x with|.inl x=>K (.exit 0) (zM b yQs ((),()))|.inr x=>K .ret (zM b yBg (((x,()),()),()))⟩
def yEf:zY:=⟨[],[(4,qJl)],[],false⟩
theorem vUb:zS prog 1000 0 25 (zQ (zR f134) 0) qJl:=lp (A:=yEf) qJl (fun d=>match d with|.inl d=>.inl ()|.inr d=>.inr d.1.1.1) yLv IL DH (e1 yWd) zF
def vF5:=zJ 134 [.c (.dat false (.sl .i)),.c .i,.c (.fn 137)] (.c .bool) (fun k d=>Nq k d.1 d.2.1) (fun x=>(x,())) (fun d=>d.1)
theorem vLc:zD prog vF5:=fA f134 yEf (e1 yWd) (qD vUb)
def yYb:zE:=sp [(0,.c (.dat false (.sl .i))),sI 3,(7,.c (.dat false (.sl .i))),sI 8,sI 9,(14,.c (.dat false .i)),sI 15,sI 16] []
def yPd:zE:=sp [(0,.c (.dat false (.sl .i))),(7,.c (.dat false (.sl .i))),sI 8,sI 9] []
def yXm (f:qTy)(d:yYb.den):=f d.1.1.1 d.1.2.1.1 d.1.2.2.1.1 d.1.2.2.2.1.1 d.1.2.2.2.2.1.1 d.1.2.2.2.2.2.1.1 d.1.2.2.2.2.2.2.1.1 d.1.2.2.2.2.2.2.2.1.1
def qZ2:zT:=⟨[yYb],[(.exit 2,yPd),(.ret,yDu)],qKg,fun k d=>yXm (DI k k) d,fun b x _ K=>match x with|.inl x=>K (.exit 2) (zM b yPd (((x.1,()),(x.2.1,()),(x.2.2.1,()),(x.2.2.2,()),()),()))|.inr x=>K .ret (zM b yDu (((x,()),()),()))⟩
def yZa (f:qVj)(d:yPd.den):=f d.1.1.1 d.1.2.1.1 d.1.2.2.1.1 d.1.2.2.2.1.1
def qYn:zT:=⟨[yPd],[(.exit 0,yQs),(.ret,yDu)],(Unit⊕Bool),fun k d=>yZa (IM k k) d,fun b x _ K=>match x with|.inl x=>K (.exit 0) (zM b yQs ((),()))|.inr x=>K .ret (zM b yDu (((x,()),()),()))⟩
def qWk:zY:=⟨[],[(5,qZ2),(2,qYn)],[],false⟩
theorem vOw:zS prog 1000 0 33 (zQ (zQ (zR f138) 0) 0) qZ2:=lp (A:=qWk) qZ2 (fun d=>match d with|.inl d=>.inl (d.1.1.1,d.1.2.1.1,d.1.2.2.1.1,d.1.2.2.2.1.1)|.inr d=>.inr d.1.1.1) yXm DI DJ e0 zF
theorem vN4:zS prog 1000 0 33 (zQ (zR f138) 0) qYn:=lp (A:=qWk) qYn (fun d=>match d with|.inl d=>.inl ()|.inr d=>.inr d.1.1.1) yZa IM DK e0 (qD vOw)
def vDw:=zJ 138 [.c (.dat false (.sl .i))] (.c .bool) (fun k d=>Nr k d.1) (fun x=>(x,())) (fun d=>d.1)
theorem vM3:zD prog vDw:=fA f138 qWk e0 (qD vN4)
def vQs:=zJ 85 [.agg jN] (.c .bool) (fun k d=>(vF (Av k) d)) (fun x=>(x,())) (fun d=>d.1)
theorem Qk:zD prog vQs:=fA f85 ⟨[],[],[],false⟩ (e5 vUp vXt qVf vLc vM3) zF
def yWh:zE:=sp [sP 2 0,sP 4 1,sP 7 2,(24,.c (.dat false zG)),sI 25,sI 26] [oB wB,oB nA,oB rW,oA qX,.mat,oA .i,.mat]
def yX8:zE:=sp [sP 2 0,sP 4 1,sP 7 2] [oB wB,oB nA,oB rW,oA qX,.mat,oA .i,.mat]
def yHm (f:qOi)(d:yWh.den):=(vF (f d.1.2.2.2.1.1 d.1.2.2.2.2.1.1 d.1.2.2.2.2.2.1.1) d.2.1) d.2.2.2.2.1 d.2.2.2.2.2.1 d.2.2.2.2.2.2.1 d.2.2.2.2.2.2.2.1
def qVx:zT:=⟨[yWh],[(.exit 0,yX8)],qWm,fun k d=>yHm (DU k k) d,fun b x _ K=>K (.exit 0) (zM b yX8 (((),(),(),()),((vT x ()),(),(),x.2.2.2.2.1,x.2.2.2.2.2.1,x.2.2.2.2.2.2.1,x.2.2.2.2.2.2.2,())))⟩
def yJp:zY:=⟨[],[(6,qVx)],[],false⟩
theorem vSm:zS prog 1000 0 104 (zQ (zR f252) 0) qVx:=lp (A:=yJp) qVx (fun d=>(vT d.2.1 (d.2.2.2.2.1,d.2.2.2.2.2.1,d.2.2.2.2.2.2.1,d.2.2.2.2.2.2.2.1))) yHm DU DV (e4 yNw oK Qe Qk) zF
def vWm:=zJ 252 [.agg kH,.c (.dat false zG)] (.tup [(true,mG),(false,vC)]) (fun k d=>(kW (pw k) d)) (fun x=>(jD x ())) (fun d=>(yR d))
theorem BF:zD prog vWm:=fA f252 yJp (e4 yNw oK Qe Qk) (qD vSm)
def vA9:zE:=sp [sP 3 0,sP 6 1,sP 7 2,sO 15 3,sI 16,sI 17] [oB wB,oB wR,oB nA,oA zG]
def yXl:zE:=sp [sP 3 0,sP 6 1,sP 7 2] [oB wB,oB wR,oB nA]
def yQw:zE:=sp [sP 6 0,sP 7 1,(8,.c .bool)] [oB wR,oB wB]
def yE3 (f:qN5)(d:vA9.den):=(lK (vF (f d.1.2.2.2.2.1.1 d.1.2.2.2.2.2.1.1) d.2.1) d.2.2.1) d.2.2.2.2.1
def qJc:zT:=⟨[vA9],[(.exit 0,yXl),(.ret,yQw)],qQa,fun k d=>yE3 (JE k k) d,fun b x _ K=>match x with|.inl x=>K (.exit 0) (zM b yXl (((),(),(),()),((vT x ()),(Lf x ()),(),())))|.inr x=>K .ret (zM b yQw (((),(),(x.1,()),()),((qJm x ()),(vO9 x ()),())))⟩
def yWv:zY:=⟨[],[(2,qJc)],[],false⟩
theorem vMo:zS prog 1000 0 40 (zQ (zR f275) 0) qJc:=lp (A:=yWv) qJc (fun d=>match d with|.inl d=>.inl (vT d.2.1 (wF d.2.2.1))|.inr d=>.inr (d.1.2.2.1.1,(jo d.2.1 (gj d.2.2.1)))) yE3 JE EZ (e3 Lc Le BF) zF
def vW6:=zJ 275 [.agg kH,.c (.dat true zG),.c .i] (.tup [(true,pH),(true,mG),(false,[.bool])]) (fun k d=>(jw (Oi k) d)) (fun x=>(GW x ())) (fun d=>(GX d))
theorem yYv:zD prog vW6:=fA f275 yWv (e3 Lc Le BF) (qD vMo)
def yJ3:zE:=⟨[sI 2,sP 6 0,(7,.c (.dat true zG)),sO 8 1],[oB wB,oA zG],[(8,none,zG,false)]⟩
def yTd:zE:=sp [sP 6 0,(7,.c (.dat true zG)),sO 8 1] [oB wB,oA zG]
def yJt (f:qZr)(d:yJ3.den):=(vF (f d.1.1.1 d.1.2.2.1.1) d.2.1) d.2.2.1
def qMa:zT:=⟨[yJ3],[(.ret,yTd)],yA0,fun k d=>yJt (JF k k) d,fun b x _ K=>K .ret (zM b yTd (((),(x.1,()),(),()),((ij x ()),x.2.2.2.2.2,())))⟩
def yE7:zY:=⟨[],[(2,qMa)],[],false⟩
theorem vV1:zS prog 1000 0 40 (zQ (zR f247) 0) qMa:=lp (A:=yE7) qMa (fun d=>(d.1.2.1.1,(vT d.2.1 d.2.2.1))) yJt JF E1 (e2 yYv pJ) zF
def vWl:=zJ 247 [.agg kH,.c (.dat true zG),.c .i] (.tup [(true,mG),(false,[.fro zG]),(false,[.own zG])]) (fun k d=>(jw (Oj k) d)) (fun x=>(nB x ())) (fun d=>(mH d))
theorem yNs:zD prog vWl:=fA f247 yE7 (e2 yYv pJ) (qD vV1)
def vC0:zE:=sp [sP 3 0,sP 6 1,sO 8 2,sP 10 3,sO 18 2,sI 19,sI 20,sO 24 2,sI 25,sI 26] [oB wB,oB Ql,oA zG,oB wR]
def yW8:zE:=sp [sP 3 0,sP 6 1,sO 8 2,sO 18 2,sI 19,sI 20] [oB wB,oB Ql,oA zG]
def yTn:zE:=sp [sP 6 0,(7,.c .bool)] [oB yPa]
def yZf (f:qT5)(d:vC0.den):=(lK ((GQ (vF (f d.1.2.2.2.2.2.1.1 d.1.2.2.2.2.2.2.1.1 d.1.2.2.2.2.2.2.2.2.1.1 d.1.2.2.2.2.2.2.2.2.2.1.1) d.2.1) d.2.2.1) d.2.2.2.1) d.2.2.2.2.1)
def qQl:zT:=⟨[vC0],[(.exit 2,yW8),(.ret,yTn)],qPj,fun k d=>yZf (JG k k) d,fun b x _ K=>match x with|.inl x=>K (.exit 2) (zM b yW8 (((),(),(),(),(x.1,()),(x.2.1,()),()),((P4 x ()),(vS4 x ()),x.2.2.2.2.2.2.2.2.2.2.2.2.2.2.2.2.2.2.2.2,())))|.inr x=>K .ret (zM b yTn (((),(x.1,()),()),((qVk x ()),())))⟩
def vAc:zE:=sp [sP 6 0] [oB Ql]
def yB8 (f:qUw)(d:yW8.den):=(GQ (vF (f d.1.2.2.2.2.1.1 d.1.2.2.2.2.2.1.1) d.2.1) d.2.2.1) d.2.2.2.1
def qNq:zT:=⟨[yW8],[(.exit 0,vAc),(.ret,yTn)],qXa,fun k d=>yB8 (JI k k) d,fun b x _ K=>match x with|.inl x=>K (.exit 0) (zM b vAc (((),()),((qTe x ()),())))|.inr x=>K .ret (zM b yTn (((),(x.1,()),()),((qVk x ()),())))⟩
def qLa:zY:=⟨[],[(6,qQl),(3,qNq)],[],false⟩
theorem aax:zS prog 1000 0 74 (zQ (zQ (zR f276) 0) 0) qQl:=lp (A:=qLa) qQl (fun d=>match d with|.inl d=>.inl (d.1.2.2.2.2.1.1,d.1.2.2.2.2.2.1.1,(vT d.2.1 (qM2 d.2.2.1 d.2.2.2.1)))|.inr d=>.inr (d.1.2.1.1,(ft d.2.1))) yZf JG E4 (e3 Lc Le BF) zF
theorem vMj:zS prog 1000 0 74 (zQ (zR f276) 0) qNq:=lp (A:=qLa) qNq (fun d=>match d with|.inl d=>.inl (yZq d.2.1)|.inr d=>.inr (d.1.2.1.1,(ft d.2.1))) yB8 JI E5 (e3 Lc Le BF) (qD aax)
def vT2:=zJ 276 [.agg kH,.c (.dat true zG),.c .i] (.tup [(true,[.i,.i,.i,.i,.i,.i,.i,.i,.i,.i,.i,.i,.i,.i,.fro qX,.fro (.sl .i),.fro .i,.fro (.sl .i)]),(false,[.bool])]) (fun k d=>(jw (Om k) d)) (fun x=>(xL x ())) (fun d=>(Qm d))
theorem qUb:zD prog vT2:=fA f276 qLa (e3 Lc Le BF) (qD vMj)
def yOa:zE:=⟨[sI 2,sP 6 0,(7,.c (.dat true zG)),sO 8 1,sO 33 2,sI 34,sI 35],[oB wB,oA zG,oA zG],[(8,none,zG,false)]⟩
def yXr:zE:=sp [sI 2,sP 6 0,(7,.c (.dat true zG)),sO 8 1] [oB wB,oA zG]
def yRm (f:qLm)(d:yOa.den):=(vF (f d.1.1.1 d.1.2.2.1.1 d.1.2.2.2.2.2.1.1 d.1.2.2.2.2.2.2.1.1) d.2.1) d.2.2.1 d.2.2.2.1
def qXk:zT:=⟨[yOa],[(.exit 2,yXr)],qZz,fun k d=>yRm (wm k k) d,fun b x _ K=>K (.exit 2) (zM b yXr (((x.1,()),(),(x.2.1,()),(),()),((P4 x ()),x.2.2.2.2.2.2,())))⟩
def yFu (f:qZr)(d:yJ3.den):=(vF (f d.1.1.1 d.1.2.2.1.1) d.2.1) d.2.2.1
def qRc:zT:=⟨[yJ3],[(.ret,yTd)],yA0,fun k d=>yFu (JJ k k) d,fun b x _ K=>K .ret (zM b yTd (((),(x.1,()),(),()),((ij x ()),x.2.2.2.2.2,())))⟩
def qMb:zY:=⟨[],[(7,qXk),(2,qRc)],[],false⟩
theorem vFr:zS prog 1000 0 52 (zQ (zQ (zR f248) 0) 0) qXk:=lp (A:=qMb) qXk (fun d=>(d.1.1.1,d.1.2.2.1.1,(vT d.2.1 d.2.2.1))) yRm wm wo (e2 qUb pJ) zF
theorem vNw:zS prog 1000 0 52 (zQ (zR f248) 0) qRc:=lp (A:=qMb) qRc (fun d=>(d.1.2.1.1,(vT d.2.1 d.2.2.1))) yFu JJ E6 (e2 qUb pJ) (qD vFr)
def vHr:=zJ 248 [.agg kH,.c (.dat true zG),.c .i] (.tup [(true,mG),(false,[.fro zG]),(false,[.own zG])]) (fun k d=>(jw (On k) d)) (fun x=>(nB x ())) (fun d=>(mH d))
theorem yOw:zD prog vHr:=fA f248 qMb (e2 qUb pJ) (qD vNw)
def yY0 (f:qZr)(d:yJ3.den):=(vF (f d.1.1.1 d.1.2.2.1.1) d.2.1) d.2.2.1
def qPw:zT:=⟨[yJ3],[(.ret,yTd)],yA0,fun k d=>yY0 (JQ k k) d,fun b x _ K=>K .ret (zM b yTd (((),(x.1,()),(),()),((ij x ()),x.2.2.2.2.2,())))⟩
def yV9:zY:=⟨[],[(2,qPw)],[],false⟩
theorem aay:zS prog 1000 0 40 (zQ (zR f213) 0) qPw:=lp (A:=yV9) qPw (fun d=>(d.1.2.1.1,(vT d.2.1 d.2.2.1))) yY0 JQ Ox (e2 yNs yOw) zF
def vZm:=zJ 213 [.agg kH,.c (.dat true zG),.c .i] (.tup [(true,mG),(false,[.fro zG]),(false,[.own zG])]) (fun k d=>(jw (JR k) d)) (fun x=>(nB x ())) (fun d=>(mH d))
theorem vR9:zD prog vZm:=fA f213 yV9 (e2 yNs yOw) (qD aay)
def vJu:=vm 278 false .i (.own .i) Wb
theorem vNf:zD prog vJu:=fC f278 ⟨[],[],[],false⟩ e0 zF
def vQl:=yW 279 [.agg vL,.ptr true [.own .i]] (.c .bool) [[.own .i]] 0 (fun k d=>(lJ (Wd k) d)) (fun x=>(x.1,x.2,())) (fun d=>(d.1,d.2.1))
theorem yCw:zD prog vQl:=fX f279 ⟨[],[],[],false⟩ 2 e0 zF
def yHg:zE:=⟨[(1,.c (.lit (.fn 279 [1001000]))),sO 5 2,(8,.c (.dat false zG)),sI 9,sI 10],[oB [.lit (.osl 1001001 none)],oA .i,oA zG],[(5,none,zG,false)]⟩
def yCv:zE:=sp [(1,.c (.lit (.fn 279 [1001000]))),sO 5 2] [oB [.lit (.osl 1001001 none)],oA .i,oA zG]
def yCi (f:qKd)(d:yHg.den):=f d.1.2.2.1.1 d.1.2.2.2.1.1 d.1.2.2.2.2.1.1 d.2.2.1 d.2.2.2.1
def qXq:zT:=⟨[yHg],[(.exit 0,yCv)],qTn,fun k d=>yCi (E9 k k) d,fun b x _ K=>K (.exit 0) (zM b yCv (((),(),()),((),x.1,x.2,())))⟩
def yKu:zY:=⟨[],[(3,qXq)],[],false⟩
theorem vDv:zS prog 1000 2 23 (zQ (zR f194) 0) qXq:=lp (A:=yKu) qXq (fun d=>(d.2.2.1,d.2.2.2.1)) yCi E9 Fa (e1 yCw) zF
def vSj:=yW 194 [.c (.p (.dat false zG)),.fn 279 [(true,[.own .i])]] (.c (.own zG)) [[.own .i]] 0 (fun k d=>Wc k d.1 d.2.1) (fun x=>(x.1,x.2,())) (fun d=>(d.1,d.2.1))
theorem vYb:zD prog vSj:=fX f194 yKu 2 (e1 yCw) (qD vDv)
def vZf:=zJ 250 [.c (.dat false zG),.c (.dat false .i)] (.c (.own zG)) (fun k d=>E8 k d.1 d.2.1) (fun x=>(x,())) (fun d=>d.1)
theorem GY:zD prog vZf:=fA f250 ⟨[],[],[],false⟩ (e2 vNf vYb) zF
def yMw:zE:=⟨[sP 3 0,sO 6 1,sI 7,sO 8 2,sI 18,sI 19],[oB jH,oA .i,oA zG],[(6,none,.i,false)]⟩
def ySf:zE:=sp [sP 3 0,sO 6 1,sI 7,sO 8 2] [oB jH,oA .i,oA zG]
def yUq (f:qZt)(d:yMw.den):=(vF (f d.1.2.2.1.1 d.1.2.2.2.2.1.1 d.1.2.2.2.2.2.1.1) d.2.1) d.2.2.1 d.2.2.2.1
def Qn:zT:=⟨[yMw],[(.exit 0,ySf)],qWu,fun k d=>yUq (AR k k) d,fun b x _ K=>K (.exit 0) (zM b ySf (((),(),(x.1,()),(),()),((ij x ()),x.2.2.2.2.2.1,x.2.2.2.2.2.2,())))⟩
def yOk:zE:=sp [sP 3 0,sO 6 1,sI 7,sO 8 2,sO 42 3,sI 43,sI 44] [oB jH,oA .i,oA zG,oA .i]
def yQv (f:qLi)(d:yOk.den):=(vF (f d.1.2.2.1.1 d.1.2.2.2.2.2.1.1 d.1.2.2.2.2.2.2.1.1) d.2.1) d.2.2.1 d.2.2.2.1 d.2.2.2.2.1
def qMt:zT:=⟨[yOk],[(.exit 4,ySf)],qWu,fun k d=>yQv (Ff k k) d,fun b x _ K=>K (.exit 4) (zM b ySf (((),(),(x.1,()),(),()),((ij x ()),x.2.2.2.2.2.1,x.2.2.2.2.2.2,())))⟩
def yC0:zE:=sp [sO 6 0,sI 7] [oA .i]
def yTo (f:qVw)(d:ySf.den):=(vF (f d.1.2.2.1.1) d.2.1) d.2.2.1 d.2.2.2.1
def Qo:zT:=⟨[ySf],[(.ret,yC0)],(Int×AC),fun k d=>yTo (JP k k) d,fun b x _ K=>K .ret (zM b yC0 (((),(x.1,()),()),(x.2,())))⟩
def Qp:zY:=⟨[],[(3,Qn),(12,qMt),(7,Qo)],[],false⟩
theorem vX2:zS prog 1000 0 55 (zQ (zR f249) 0) Qn:=lp (A:=Qp) Qn (fun d=>(d.1.2.2.1.1,(vT d.2.1 (d.2.2.1,d.2.2.2.1)))) yUq AR Fe (e4 BE K8 GY Ld) zF
theorem vNt:zS prog 1000 0 55 (zQ (zQ (zR f249) 1) 0) qMt:=lp (A:=Qp) qMt (fun d=>(d.1.2.2.1.1,(vT d.2.1 (d.2.2.1,d.2.2.2.1)))) yQv Ff Fg (e4 BE K8 GY Ld) zF
theorem vZ7:zS prog 1000 0 55 (zQ (zR f249) 1) Qo:=lp (A:=Qp) Qo (fun d=>(d.1.2.1.1,d.2.1)) yTo JP Fh (e4 BE K8 GY Ld) (qD vNt)
def vIh:=zJ 249 [.agg jN,.c (.dat false zG),.c .i] (.tup [(false,[.own .i]),(false,vC)]) (fun k d=>(jw (Ou k) d)) (fun x=>(x.1,x.2,())) (fun d=>(d.1,d.2.1))
theorem yE5:zD prog vIh:=fA f249 Qp (e4 BE K8 GY Ld) (loopsOK_of (n:=2) (by kernel_rfl) fun i hi=>match i,hi with|0,_=>⟨Qn,by kernel_rfl,vX2⟩|1,_=>⟨Qo,by kernel_rfl,vZ7⟩|i+2,hi=>absurd hi (by omega))
def yTe:zE:=sp [sP 6 0,(7,.c (.dat true zG)),sO 11 1,sO 38 1,sI 39,sI 40] [oB wB,oA zG]
def yQa:zE:=sp [sP 6 0,(7,.c (.dat true zG)),sO 11 1] [oB wB,oA zG]
def yYl (f:qV9)(d:yTe.den):=(vF (f d.1.2.1.1 d.1.2.2.2.2.1.1 d.1.2.2.2.2.2.1.1) d.2.1) d.2.2.1
def qW9:zT:=⟨[yTe],[(.exit 0,yQa)],yA0,fun k d=>yYl (AT k k) d,fun b x _ K=>K (.exit 0) (zM b yQa (((),(x.1,()),(),()),((ij x ()),x.2.2.2.2.2,())))⟩
def yKd:zY:=⟨[],[(8,qW9)],[],false⟩
theorem aaz:zS prog 1000 0 56 (zQ (zR f214) 0) qW9:=lp (A:=yKd) qW9 (fun d=>(d.1.2.1.1,(vT d.2.1 d.2.2.1))) yYl AT Fi (e5 yE5 BE GY BF pJ) zF
def vQr:=zJ 214 [.agg kH,.c (.dat true zG),.c .i] (.tup [(true,mG),(false,[.fro zG]),(false,[.own zG])]) (fun k d=>(jw (AU k) d)) (fun x=>(nB x ())) (fun d=>(mH d))
theorem vQo:zD prog vQr:=fA f214 yKd (e5 yE5 BE GY BF pJ) (qD aaz)
def vW7:=zJ 164 [.agg kH,.c (.dat true zG),.c .i,.c .bool] (.tup [(true,mG),(false,[.fro zG]),(false,[.own zG])]) (fun k d=>(lK (wx k) d)) (fun x=>(nB x ())) (fun d=>(mH d))
theorem aaA:zD prog vW7:=fA f164 ⟨[],[],[],false⟩ (e2 vR9 vQo) zF
def yWe:zE:=⟨[sO 3 0,sP 5 1,(8,.c (.dat false zG)),sI 9,sI 10,sO 18 2,sI 19,sI 20],[oA yI,oB wR,oA .i],[(3,none,yI,false)]⟩
def ySh:zE:=sp [sO 3 0,(8,.c (.dat false zG)),sI 9,sI 10] [oA yI]
def yCx (f:yAa)(d:yWe.den):=(lK (f d.1.2.2.1.1 d.1.2.2.2.1.1 d.1.2.2.2.2.1.1 d.1.2.2.2.2.2.2.1.1 d.1.2.2.2.2.2.2.2.1.1 d.2.1) d.2.2.1) d.2.2.2.1
def qZj:zT:=⟨[yWe],[(.exit 2,ySh)],qXg,fun k d=>yCx (wz k k) d,fun b x _ K=>K (.exit 2) (zM b ySh (((),(x.1,()),(x.2.1,()),(x.2.2.1,()),()),(x.2.2.2,())))⟩
def yA6:zE:=⟨[sO 3 0,(8,.c (.dat false zG)),sI 9,sI 10],[oA yI],[(3,none,yI,false)]⟩
def yWa:zE:=sp [sO 3 0] [oA yI]
def yN3 (f:qV3)(d:yA6.den):=f d.1.2.1.1 d.1.2.2.1.1 d.1.2.2.2.1.1 d.2.1
def qLv:zT:=⟨[yA6],[(.exit 0,yWa)],qVy,fun k d=>yN3 (JS k k) d,fun b x _ K=>K (.exit 0) (zM b yWa (((),()),(x,())))⟩
def qLw:zY:=⟨[],[(6,qZj),(3,qLv)],[],false⟩
theorem vE6:zS prog 1000 0 41 (zQ (zQ (zR f165) 0) 0) qZj:=lp (A:=qLw) qZj (fun d=>(d.1.2.1.1,d.1.2.2.1.1,d.1.2.2.2.1.1,d.2.1)) yCx wz w4 (e1 xJ) zF
theorem aaB:zS prog 1000 0 41 (zQ (zR f165) 0) qLv:=lp (A:=qLw) qLv (fun d=>d.2.1) yN3 JS Fl (e1 xJ) (qD vE6)
def aaC:=zJ 165 [.c (.dat false zG)] (.c (.own yI)) (fun k d=>Oy k d.1) (fun x=>(x,())) (fun d=>d.1)
theorem vWg:zD prog aaC:=fA f165 qLw (e1 xJ) (qD aaB)
def vUw:=zJ 96 [.agg xD,.c .bool] (.tup [(true,xE),(false,[.own yI])]) (fun k d=>(Lg (tO k) d)) (fun x=>(GW x ())) (fun d=>(GX d))
theorem qQz:zD prog vUw:=fA f96 ⟨[],[],[],false⟩ (e2 aaA vWg) zF
def yEk:zE:=⟨[sP 2 0,sP 3 1,sP 4 2,sO 6 3,sO 7 4,(27,.c (.dat true zG)),sI 28,sI 29],[oB pG,oB gi,oB fq,oA yI,oA zG],[(6,none,yI,false),(7,none,zG,false)]⟩
def vCc:zE:=sp [sP 2 0,sP 3 1,sP 4 2,sO 6 3,sO 7 4] [oB pG,oB gi,oB fq,oA yI,oA zG]
def vAm (f:qZ1)(d:yEk.den):=(rV (kW (f d.1.2.2.2.2.2.1.1 d.1.2.2.2.2.2.2.1.1 d.1.2.2.2.2.2.2.2.1.1) d.2.1) d.2.2.1) d.2.2.2.1.1 d.2.2.2.1.2.1 d.2.2.2.1.2.2.1 d.2.2.2.2.1 d.2.2.2.2.2.1
def qRn:zT:=⟨[yEk],[(.exit 0,vCc)],qU0,fun k d=>vAm (Fu k k) d,fun b x _ K=>K (.exit 0) (zM b vCc (((),(),(),(),(),()),((rY x ()),(vE3 x ()),(x.2.2.2.2.2.2.2.2.2.2.2.2.2.2.2.2.1,x.2.2.2.2.2.2.2.2.2.2.2.2.2.2.2.2.2.1,x.2.2.2.2.2.2.2.2.2.2.2.2.2.2.2.2.2.2.1,()),x.2.2.2.2.2.2.2.2.2.2.2.2.2.2.2.2.2.2.2.1,x.2.2.2.2.2.2.2.2.2.2.2.2.2.2.2.2.2.2.2.2,())))⟩
def yPb:zY:=⟨[],[(9,qRn)],[],false⟩
theorem vGu:zS prog 1000 0 66 (zQ (zR f95) 0) qRn:=lp (A:=yPb) qRn (fun d=>(rY d.2.1 (xK d.2.2.1 (d.2.2.2.1.1,d.2.2.2.1.2.1,d.2.2.2.1.2.2.1,d.2.2.2.2.1,d.2.2.2.2.2.1)))) vAm Fu Fv (e6 Qf vBj yRf xJ yZ9 qQz) zF
def aaD:=zJ 95 [.agg ju,.agg xD] (.tup [(true,xE),(false,[.own yI])]) (fun k d=>(yHu (w6 k) d)) (fun x=>(GW x ())) (fun d=>(GX d))
theorem vT1:zD prog aaD:=fA f95 yPb (e6 Qf vBj yRf xJ yZ9 qQz) (qD vGu)
def vPa:=yW 154 [.ptr true xF,.agg La] (.c .i) [kU] 0 (fun k d=>yDi k (kV d) (ySg d)) (fun x=>(x.1,(jL x.2 ()))) (fun d=>(d.1,(jv d)))
theorem vDg:zD prog vPa:=fX f154 n0 1 (e4 ig yKe yNf P8) zF
def vGr:=yW 155 [.ptr true xF,.agg vL] (.c .i) [kU] 0 (fun k d=>Qq k (kV d) (GS d)) (fun x=>(x.1,(jL x.2 ()))) (fun d=>(d.1,(jv d)))
theorem vSf:zD prog vGr:=fX f155 n0 1 (e8 yVl pJ yM8 ig Zv yP7 yYw vBq) zF
def vQ1:=yW 156 [.ptr true xF,.agg vL] (.c .i) [kU] 0 (fun k d=>Qr k (kV d) (GS d)) (fun x=>(x.1,(jL x.2 ()))) (fun d=>(d.1,(jv d)))
theorem vT8:zD prog vQ1:=fX f156 n0 1 (e3 oK vC1 ig) zF
def vTl:=yW 157 [.ptr true xF,.c (.p .i),.c (.p .i)] (.c .i) [kU] 0 (fun k d=>yLs k (kV d) d.2.2.2.2.2.2.2.2.2.2.2.2.2.2.2.2.2.2.1 d.2.2.2.2.2.2.2.2.2.2.2.2.2.2.2.2.2.2.2.1) (fun x=>(x.1,(jL x.2 ()))) (fun d=>(d.1,(jv d)))
theorem vVt:zD prog vTl:=fX f157 n0 1 (e6 GU ig yIe GV xI oK) zF
def vPo:=yW 158 [.ptr true xF,.c (.p .i),.c (.p .i),.c (.p .i)] (.c .i) [kU] 0 (fun k d=>FY k (kV d) d.2.2.2.2.2.2.2.2.2.2.2.2.2.2.2.2.2.2.1 d.2.2.2.2.2.2.2.2.2.2.2.2.2.2.2.2.2.2.2.1 d.2.2.2.2.2.2.2.2.2.2.2.2.2.2.2.2.2.2.2.2.1) (fun x=>(x.1,(jL x.2 ()))) (fun d=>(d.1,(jv d)))
theorem aaE:zD prog vPo:=fX f158 n0 1 (e5 ig yXu ySl yIw oK) zF
def yFc:zE:=sp [sP 0 0,sO 7 1,sP 8 2,(40,.c (.dat true (.sl .i))),sI 41,sI 42] [oB qXw,oA .i,oB rW,oA qX,.mat,oA .i,.mat]
def yN5:zE:=sp [sP 0 0,sO 7 1,sP 8 2] [oB qXw,oA .i,oB rW,oA qX,.mat,oA .i,.mat]
def yHc:zE:=sp [sP 0 0,sI 6] [oB qXw]
def yPw (f:qKq)(d:yFc.den):=f d.1.2.2.2.1.1 d.1.2.2.2.2.1.1 d.1.2.2.2.2.2.1.1 (kV d.2.1) d.2.2.1 d.2.2.2.2.1 d.2.2.2.2.2.1 d.2.2.2.2.2.2.1 d.2.2.2.2.2.2.2.1
def qH8:zT:=⟨[yFc],[(.exit 0,yN5),(.ret,yHc)],qM5,fun k d=>yPw (tY k k) d,fun b x _ K=>match x with|.inl x=>K (.exit 0) (zM b yN5 (((),(),(),()),((vO x.1 ()),x.2.1,(),x.2.2.1,x.2.2.2.1,x.2.2.2.2.1,x.2.2.2.2.2,())))|.inr x=>K .ret (zM b yHc (((),(x.1,()),()),((vO x.2 ()),())))⟩
def ySr:zY:=⟨[],[(6,qH8)],[],true⟩
theorem vM1:zS prog 1000 1 81 (zQ (zR f159) 0) qH8:=lp (A:=ySr) qH8 (fun d=>match d with|.inl d=>.inl ((kV d.2.1),d.2.2.1,d.2.2.2.2.1,d.2.2.2.2.2.1,d.2.2.2.2.2.2.1,d.2.2.2.2.2.2.2.1)|.inr d=>.inr (d.1.2.1.1,(kV d.2.1))) yPw tY F3 (e5 GU ig GV oK xI) zF
def vJo:=yW 159 [.ptr true xF,.c (.p .i),.c (.p .i)] (.c .i) [kU] 0 (fun k d=>O3 k (kV d) d.2.2.2.2.2.2.2.2.2.2.2.2.2.2.2.2.2.2.1 d.2.2.2.2.2.2.2.2.2.2.2.2.2.2.2.2.2.2.2.1) (fun x=>(x.1,(jL x.2 ()))) (fun d=>(d.1,(jv d)))
theorem vRu:zD prog vJo:=fX f159 ySr 1 (e5 GU ig GV oK xI) (qD vM1)
def vW3:=yW 94 [.ptr true xF,.agg vL] (.c .i) [kU] 0 (fun k d=>Gv k (kV d) (GS d)) (fun x=>(x.1,(jL x.2 ()))) (fun d=>(d.1,(jv d)))
theorem vMc:zD prog vW3:=fX f94 n0 1 (e6 vDg vSf vT8 vVt aaE vRu) zF
def vJs:=zJ 40 [.agg Qs,.agg xD,.agg GP] (.tup [(true,xE),(false,[.own yI]),(false,vC)]) (fun k d=>oG k (yR d) (ui d) (Zp d)) (fun x=>(wO x.1 (x.2.1,x.2.2,()))) (fun d=>((qS d),d.2.2.2.2.2.2.2.2.2.2.2.1,d.2.2.2.2.2.2.2.2.2.2.2.2.1))
theorem qLc:zD prog vJs:=fA f40 n0 (e9 vWo vX5 yM8 vI0 vT1 qQz xG yLz vMc) zF
def aaF:=yW 41 [.chn [qKi,mF],.c (.p (.dat false (.int .u8)))] (.c .i) [[.link 1,.i,.i,.i,.bool],kG] 0 (fun k d=>uh k (GZ d) (Qt d) d.2.2.2.2.2.2.2.2.2.2.2.2.2.2.2.1) (fun x=>(x.1,(),(gF x.2.1 (jt x.2.2 ())))) (fun d=>(d.1,(qQy d),(qK8 d)))
theorem Qu:zD prog aaF:=fX f41 n0 0 (e1 yCl) zF
def aaG:=zJ 140 [.c .i] (.c .bool) (fun k d=>XO k d.1) (fun x=>(x,())) (fun d=>d.1)
theorem yKs:zD prog aaG:=fA f140 n0 (e1 ig) zF
def yMi:zE:=sp [(0,.c (.dat false .i)),(1,.c (.lit (.fn 140 []))),sI 7,sI 8] []
def yE9 (f:yAt)(d:yMi.den):=f d.1.1.1 d.1.2.2.1.1 d.1.2.2.2.1.1
def qTg:zT:=⟨[yMi],[(.exit 0,yQs),(.ret,yBi)],(Unit⊕Int),fun k d=>yE9 (Bq k k) d,fun b x _ K=>match x with|.inl x=>K (.exit 0) (zM b yQs ((),()))|.inr x=>K .ret (zM b yBi (((x,()),()),()))⟩
def yH6:zY:=⟨[],[(2,qTg)],[],false⟩
theorem aaH:zS prog 1000 0 19 (zQ (zR f189) 0) qTg:=lp (A:=yH6) qTg (fun d=>match d with|.inl d=>.inl ()|.inr d=>.inr d.1.1.1) yE9 Bq Gz (e1 yKs) zF
def vZs:=zJ 189 [.c (.dat false .i),.c (.fn 140)] (.c .i) (fun k d=>XP k d.1) (fun x=>(x,())) (fun d=>d.1)
theorem vHp:zD prog vZs:=fA f189 yH6 (e1 yKs) (qD aaH)
def vTr:=zJ 139 [.c (.dat false .i),.c (.fn 140)] (.c .bool) (fun k d=>KR k d.1) (fun x=>(x,())) (fun d=>d.1)
theorem yXf:zD prog vTr:=fA f139 ⟨[],[],[],false⟩ (e1 vHp) zF
def vJw:=zJ 142 [.c .i] (.c .bool) (fun k d=>XQ k d.1) (fun x=>(x,())) (fun d=>d.1)
theorem yYf:zD prog vJw:=fA f142 n0 e0 zF
def yNb:zE:=sp [(0,.c (.dat false .i)),(1,.c (.lit (.fn 142 []))),sI 7,sI 8] []
def yJk (f:yAt)(d:yNb.den):=f d.1.1.1 d.1.2.2.1.1 d.1.2.2.2.1.1
def qV8:zT:=⟨[yNb],[(.exit 0,yQs),(.ret,yBi)],(Unit⊕Int),fun k d=>yJk (Br k k) d,fun b x _ K=>match x with|.inl x=>K (.exit 0) (zM b yQs ((),()))|.inr x=>K .ret (zM b yBi (((x,()),()),()))⟩
def yC7:zY:=⟨[],[(2,qV8)],[],false⟩
theorem vTv:zS prog 1000 0 19 (zQ (zR f189) 0) qV8:=lp (A:=yC7) qV8 (fun d=>match d with|.inl d=>.inl ()|.inr d=>.inr d.1.1.1) yJk Br GA (e1 yYf) zF
def vFg:=zJ 189 [.c (.dat false .i),.c (.fn 142)] (.c .i) (fun k d=>XR k d.1) (fun x=>(x,())) (fun d=>d.1)
theorem vX1:zD prog vFg:=fA f189 yC7 (e1 yYf) (qD vTv)
def vTg:=zJ 139 [.c (.dat false .i),.c (.fn 142)] (.c .bool) (fun k d=>Pw k d.1) (fun x=>(x,())) (fun d=>d.1)
theorem yJd:zD prog vTg:=fA f139 ⟨[],[],[],false⟩ (e1 vX1) zF
def yPj:zE:=sp [sP 2 0,sP 3 1,(28,.c (.dat false (.sl .i))),sI 29,sI 30] [oB pG,oB xM]
def yP1:zE:=sp [(4,.c .bool)] []
def ySu (f:qX2)(d:yPj.den):=f d.1.2.2.1.1 d.1.2.2.2.1.1 d.1.2.2.2.2.1.1 (yR d.2.1) (qS d.2.2.1)
def qLz:zT:=⟨[yPj],[(.exit 0,yQs),(.ret,yP1)],(Unit⊕Bool),fun k d=>ySu (xv k k) d,fun b x _ K=>match x with|.inl x=>K (.exit 0) (zM b yQs ((),()))|.inr x=>K .ret (zM b yP1 (((x,()),()),()))⟩
def yYe:zY:=⟨[],[(6,qLz)],[],true⟩
theorem vNq:zS prog 1000 0 66 (zQ (zR f86) 0) qLz:=lp (A:=yYe) qLz (fun d=>match d with|.inl d=>.inl ()|.inr d=>.inr d.1.1.1) ySu xv GB (e3 yXf xI yJd) zF
def aaI:=zJ 86 [.agg ju,.agg pI] (.c .bool) (fun k d=>KS k (yR d) (ui d)) (fun x=>(x,())) (fun d=>d.1)
theorem yUy:zD prog aaI:=fA f86 yYe (e3 yXf xI yJd) (qD vNq)
def yGb:zE:=sp [(0,.c (.dat false zG)),(1,.c (.lit (.fn 193 []))),sI 5] []
def yFv (f:qQ8)(d:yGb.den):=f d.1.1.1 d.1.2.2.1.1
def qMo:zT:=⟨[yGb],[(.exit 0,yQs),(.ret,yP1)],(Unit⊕Bool),fun k d=>yFv (KM k k) d,fun b x _ K=>match x with|.inl x=>K (.exit 0) (zM b yQs ((),()))|.inr x=>K .ret (zM b yP1 (((x,()),()),()))⟩
def yMf:zY:=⟨[],[(2,qMo)],[],true⟩
theorem vGq:zS prog 1000 0 25 (zQ (zR f192) 0) qMo:=lp (A:=yMf) qMo (fun d=>match d with|.inl d=>.inl ()|.inr d=>.inr d.1.1.1) yFv KM Pt (e1 GR) zF
def vOb:=zJ 192 [.c (.dat false zG),.c (.fn 193)] (.c .bool) (fun k d=>Ps k d.1) (fun x=>(x,())) (fun d=>d.1)
theorem yLp:zD prog vOb:=fA f192 yMf (e1 GR) (qD vGq)
def ySv:zE:=sp [(0,.c (.dat false zG)),(5,.c (.dat false zG)),sI 6,sI 7] []
def yB6:zE:=sp [(0,.c (.dat false zG))] []
def yF6 (f:qVo)(d:ySv.den):=f d.1.1.1 d.1.2.1.1 d.1.2.2.1.1 d.1.2.2.2.1.1
def qPl:zT:=⟨[ySv],[(.exit 0,yB6),(.ret,yDu)],qI7,fun k d=>yF6 (Bo k k) d,fun b x _ K=>match x with|.inl x=>K (.exit 0) (zM b yB6 (((x,()),()),()))|.inr x=>K .ret (zM b yDu (((x,()),()),()))⟩
def vCi:zY:=⟨[],[(2,qPl)],[],false⟩
theorem vXx:zS prog 1000 0 26 (zQ (zR f146) 0) qPl:=lp (A:=vCi) qPl (fun d=>match d with|.inl d=>.inl d.1.1.1|.inr d=>.inr d.1.1.1) yF6 Bo Gw (e2 xG yLp) zF
def vYn:=zJ 146 [.c (.dat false zG)] (.c .bool) (fun k d=>KL k d.1) (fun x=>(x,())) (fun d=>d.1)
theorem aaJ:zD prog vYn:=fA f146 vCi (e2 xG yLp) (qD vXx)
def yId:zE:=sp [(0,.c (.dat false .i)),sI 3,(6,.c (.dat false .i)),sI 7,sI 8] []
def yCa:zE:=sp [(0,.c (.dat false .i))] []
def yYz (f:qMf)(d:yId.den):=f d.1.1.1 d.1.2.1.1 d.1.2.2.1.1 d.1.2.2.2.1.1 d.1.2.2.2.2.1.1
def yAv:zT:=⟨[yId],[(.exit 0,yCa),(.ret,yDu)],(AC⊕Bool),fun k d=>yYz (KO k k) d,fun b x _ K=>match x with|.inl x=>K (.exit 0) (zM b yCa (((x,()),()),()))|.inr x=>K .ret (zM b yDu (((x,()),()),()))⟩
def yBb:zY:=⟨[],[(3,yAv)],[],true⟩
theorem vLp:zS prog 1000 0 20 (zQ (zR f147) 0) yAv:=lp (A:=yBb) yAv (fun d=>match d with|.inl d=>.inl d.1.1.1|.inr d=>.inr d.1.1.1) yYz KO Gx e0 zF
def vVn:=zJ 147 [.c (.dat false .i)] (.c .bool) (fun k d=>KN k d.1) (fun x=>(x,())) (fun d=>d.1)
theorem aaK:zD prog vVn:=fA f147 yBb e0 (qD vLp)
def vJ8:=zJ 145 [.c (.dat false .i),.c .i] (.c .bool) (fun k d=>Oa k d.1 d.2.1) (fun x=>(x,())) (fun d=>d.1)
theorem vHw:zD prog vJ8:=fA f145 n0 (e1 yGq) zF
def aaL:=zJ 143 [.agg vL,.ptr pI] (.c .bool) (fun k d=>Pv k (wF d) (aaM d)) (fun x=>(x,())) (fun d=>d.1)
theorem yL1:zD prog aaL:=fA f143 n0 (e3 yAj ig vHw) zF
def ySd:zE:=sp [(0,.c (.dat false zG)),(1,.c (.lit (.fn 143 [1001000]))),sI 7,sI 8] [.robox xM]
def yPs (f:qK5)(d:ySd.den):=(rV (f d.1.1.1 d.1.2.2.1.1 d.1.2.2.2.1.1) d.2.1)
def qTh:zT:=⟨[ySd],[(.exit 0,yQs),(.ret,yBi)],(Unit⊕Int),fun k d=>yPs (Bp k k) d,fun b x _ K=>match x with|.inl x=>K (.exit 0) (zM b yQs ((),()))|.inr x=>K .ret (zM b yBi (((x,()),()),()))⟩
def yQh:zY:=⟨[],[(2,qTh)],[],false⟩
theorem aaN:zS prog 1000 0 19 (zQ (zR f166) 0) qTh:=lp (A:=yQh) qTh (fun d=>match d with|.inl d=>.inl ()|.inr d=>.inr d.1.1.1) yPs Bp Gy (e1 yL1) zF
def vH5:=zJ 166 [.c (.dat false zG),.fn 143 [pI]] (.c .i) (fun k d=>(Lg (XN k) d)) (fun x=>(x,())) (fun d=>d.1)
theorem vT4:zD prog vH5:=fA f166 yQh (e1 yL1) (qD aaN)
def vYf:=zJ 148 [.c (.dat false zG),.fn 143 [pI]] (.c .bool) (fun k d=>(Lg (Pu k) d)) (fun x=>(x,())) (fun d=>d.1)
theorem aaO:zD prog vYf:=fA f148 ⟨[],[],[],false⟩ (e1 vT4) zF
def vK1:=zJ 87 [.agg pI] (.c .bool) (fun k d=>KP k (qS d)) (fun x=>(x,())) (fun d=>d.1)
theorem yZh:zD prog vK1:=fA f87 n0 (e3 aaJ aaK aaO) zF
def vB5:zE:=⟨[sP 2 0,sP 3 1,sO 5 2,(44,.c (.dat false qX)),sI 45,sI 46],[oB pG,oB xM,oA .i],[(5,none,.i,false)]⟩
def yWc:zE:=sp [sP 2 0,sP 3 1,sO 5 2] [oB pG,oB xM,oA .i]
def yMr (f:qZw)(d:vB5.den):=f d.1.2.2.2.1.1 d.1.2.2.2.2.1.1 d.1.2.2.2.2.2.1.1 (yR d.2.1) (qS d.2.2.1) d.2.2.2.1
def qNj:zT:=⟨[vB5],[(.exit 0,yWc)],yAe,fun k d=>yMr (GC k k) d,fun b x _ K=>K (.exit 0) (zM b yWc (((),(),(),()),((jD x.1 ()),(wO x.2.1 ()),x.2.2,())))⟩
def vCd:zY:=⟨[],[(5,qNj)],[],true⟩
theorem vOj:zS prog 1000 0 92 (zQ (zR f38) 0) qNj:=lp (A:=vCd) qNj (fun d=>((yR d.2.1),(qS d.2.2.1),d.2.2.2.1)) yMr GC GD (e6 ig Qk yUy yZh Qd Qf) zF
def vZd:=zJ 38 [.agg ju,.agg pI] (.c .bool) (fun k d=>KT k (yR d) (ui d)) (fun x=>(x,())) (fun d=>d.1)
theorem yYg:zD prog vZd:=fA f38 vCd (e6 ig Qk yUy yZh Qd Qf) (qD vOj)
def yK1:zE:=⟨[sP 1 0,sI 2,sP 3 3,(12,.c .bool),sP 13 4,sP 17 5,(72,.c (.dat true (.sl (.int .u8)))),sI 73,sI 74],[oB yYc,oA (.int .u8),oA (.int .u8),oB xN,oB [.lit (.ptr 1001000 0),.i,.i,.i,.bool],oB gi],[(17,some 1,.bool,true),(17,some 2,.bool,true),(17,some 3,.bool,true),(17,some 4,.bool,true),(17,some 5,.bool,true),(17,some 6,.bool,true),(17,some 7,.bool,true),(17,some 8,.bool,true)]⟩
def yMu:zE:=sp [sP 1 0,sI 2,sP 3 3,(12,.c .bool),sP 13 4,sP 17 5] [oB yYc,oA (.int .u8),oA (.int .u8),oB xN,oB [.lit (.ptr 1001000 0),.i,.i,.i,.bool],oB gi]
def yWb (f:qZg)(d:yK1.den):=f d.1.2.1.1 d.1.2.2.2.1.1 d.1.2.2.2.2.2.2.1.1 d.1.2.2.2.2.2.2.2.1.1 d.1.2.2.2.2.2.2.2.2.1.1 (oJ d.2.1) d.2.2.1 d.2.2.2.1 (yR d.2.2.2.2.1) (gj d.2.2.2.2.2.1) (qS d.2.2.2.2.2.2.1)
def qRt:zT:=⟨[yK1],[(.exit 0,yMu)],qV7,fun k d=>yWb (xx k k) d,fun b x _ K=>K (.exit 0) (zM b yMu (((),(x.1,()),(),(x.2.1,()),(),(),()),((GO x.2.2.1 ()),x.2.2.2.1,x.2.2.2.2.1,(jD x.2.2.2.2.2.1 ()),(gF x.2.2.2.2.2.2.1 ()),(wO x.2.2.2.2.2.2.2 ()),())))⟩
def yEg:zY:=⟨[],[(11,qRt)],[],true⟩
theorem vHo:zS prog 1000 2 112 (zQ (zR f10) 0) qRt:=lp (A:=yEg) qRt (fun d=>(d.1.2.1.1,d.1.2.2.2.1.1,(oJ d.2.1),d.2.2.1,d.2.2.2.1,(yR d.2.2.2.2.1),(gj d.2.2.2.2.2.1),(qS d.2.2.2.2.2.2.1))) yWb xx xy (e10 F7q Yw yK6 BD yNu yBh vCw qLc Qu yYg) zF
def qP7:=Im 10 [.agg Qs,.ptr true mF,.c (.p .i)] (.tup [(false,[.link 1]),(false,vC)]) [kG,[.link 2,.i,.fro jK,.i,.i,.i,.i,.fro qX,.fro (.sl .i),.fro .i,.fro (.sl .i),.fro .i,.fro (.sl .i),.fro zG,.fro .i,.i,.bool,.i,.bool],[.link 0,.i,.i,.i,.bool]] 2 (.tup [(false,[.nilp]),(false,vC)]) [kG] 0 (fun k d=>fI k (yR d) (Qt d) d.2.2.2.2.2.2.2.2.2.2.2.2.2.2.2.1) (fun x=>((),x.1,(jt x.2.1 ((),(jL x.2.2.1 ((),(gF x.2.2.2 ()))))))) (fun x=>((),x.1,(jt x.2 ()))) (fun d=>(d.2.1,(yI6 d),(vUu d),(vLf d))) (fun d=>(d.2.1,(yI6 d)))
theorem yHx:zD prog qP7:=fN f10 yEg 2 (e10 F7q Yw yK6 BD yNu yBh vCw qLc Qu yYg) (qD vHo)
def yOz:zE:=sp [sI 0,sI 1,sO 5 0,sI 6] [oA .i]
def yPy (f:Yx)(d:yOz.den):=f d.1.1.1 d.1.2.1.1 d.1.2.2.2.1.1 d.2.1
def qI4:zT:=⟨[yOz],[(.exit 0,yOo)],AC,fun k d=>yPy (Qv k k) d,fun b x _ K=>K (.exit 0) (zM b yOo (((),()),(x,())))⟩
def yKz:zY:=⟨[],[(5,qI4)],[],false⟩
theorem vJt:zS prog 1000 0 25 (zQ (zR f43) 0) qI4:=lp (A:=yKz) qI4 (fun d=>d.2.1) yPy Qv vCf e0 zF
def vL2:=zJ 43 [.c .i,.c .i] (.c (.own .i)) (fun k d=>qXc k d.1 d.2.1) (fun x=>(x,())) (fun d=>d.1)
theorem Lh:zD prog vL2:=fA f43 yKz e0 (qD vJt)
def yZd:zE:=⟨[sI 0,sI 1,sO 5 0,sI 6],[.mat],[(5,none,(.sl .i),true)]⟩
def yBk (f:qPz)(d:yZd.den):=f d.1.1.1 d.1.2.1.1 d.1.2.2.2.1.1 d.2.1
def qSn:zT:=⟨[yZd],[(.exit 0,yYq)],EQ,fun k d=>yBk (Qw k k) d,fun b x _ K=>K (.exit 0) (zM b yYq (((),()),(x,())))⟩
def yUu:zY:=⟨[22,23],[(5,qSn)],[],false⟩
theorem vE1:zS prog 1000 0 25 (zQ (zR f42) 0) qSn:=lp (A:=yUu) qSn (fun d=>d.2.1) yBk Qw yHn (e1 Lh) zF
def vN5:=zJ 42 [.c .i,.c .i] (.c (.mat)) (fun k d=>qJn k d.1 d.2.1) (fun x=>(x,())) (fun d=>d.1)
theorem qZp:zD prog vN5:=fA f42 yUu (e1 Lh) (qD vE1)
def yHo:zE:=⟨[sP 1 0,sP 2 1,sI 3,sP 4 2,sI 5],[oB pG,oB fq,oB PU,oA qX,.mat,oA .i,.mat,oA .i],[(4,some 5,.i,false)]⟩
def yZ1 (f:qSh)(d:yHo.den):=f d.1.2.2.1.1 d.1.2.2.2.2.1.1 (yR d.2.1) (d.2.2.1.1,d.2.2.1.2.1,d.2.2.1.2.2.1) (d.2.2.2.1.1,d.2.2.2.1.2.1,d.2.2.2.1.2.2.1) d.2.2.2.2.1 d.2.2.2.2.2.1 d.2.2.2.2.2.2.1 d.2.2.2.2.2.2.2.1 d.2.2.2.2.2.2.2.2.1
def Qx:zT:=⟨[yHo],[(.exit 0,vAl)],YF,fun k d=>yZ1 (qZf k k) d,fun b x _ K=>K (.exit 0) (zM b vAl (((),(),(x.1,()),(),()),((jD x.2.1 ()),(x.2.2.1.1,x.2.2.1.2.1,x.2.2.1.2.2,()),(x.2.2.2.1.1,x.2.2.2.1.2.1,x.2.2.2.1.2.2,()),x.2.2.2.2.1,x.2.2.2.2.2.1,x.2.2.2.2.2.2.1,x.2.2.2.2.2.2.2.1,x.2.2.2.2.2.2.2.2,())))⟩
def yIr:zE:=⟨[sP 1 0,sP 2 1,sI 3,sP 4 2,sI 6],[oB pG,oB fq,oB yW5,oA qX,.mat,oA .i,.mat,oA .i,.mat],[(4,some 6,(.sl .i),true)]⟩
def yG8 (f:YH)(d:yIr.den):=f d.1.2.2.1.1 d.1.2.2.2.2.1.1 (yR d.2.1) (d.2.2.1.1,d.2.2.1.2.1,d.2.2.1.2.2.1) (d.2.2.2.1.1,d.2.2.2.1.2.1,d.2.2.2.1.2.2.1) d.2.2.2.2.1 d.2.2.2.2.2.1 d.2.2.2.2.2.2.1 d.2.2.2.2.2.2.2.1 d.2.2.2.2.2.2.2.2.1 d.2.2.2.2.2.2.2.2.2.1
def Qy:zT:=⟨[yIr],[(.exit 2,vCr)],YI,fun k d=>yG8 (qOh k k) d,fun b x _ K=>K (.exit 2) (zM b vCr (((),(),()),((x.1.1,x.1.2.1,x.1.2.2,()),(x.2.1.1,x.2.1.2.1,x.2.1.2.2,()),x.2.2.1,x.2.2.2.1,x.2.2.2.2.1,x.2.2.2.2.2.1,x.2.2.2.2.2.2.1,x.2.2.2.2.2.2.2,())))⟩
def yA4:zY:=⟨[48,49],[(4,Qx),(8,Qy)],[],true⟩
theorem vD4:zS prog 1000 0 52 (zQ (zR f11) 0) Qx:=lp (A:=yA4) Qx (fun d=>(d.1.2.2.1.1,(yR d.2.1),(d.2.2.1.1,d.2.2.1.2.1,d.2.2.1.2.2.1),(d.2.2.2.1.1,d.2.2.2.1.2.1,d.2.2.2.1.2.2.1),d.2.2.2.2.1,d.2.2.2.2.2.1,d.2.2.2.2.2.2.1,d.2.2.2.2.2.2.2.1,d.2.2.2.2.2.2.2.2.1)) yZ1 qZf yXn (e2 qZp Lh) zF
theorem vL0:zS prog 1000 0 52 (zQ (zR f11) 1) Qy:=lp (A:=yA4) Qy (fun d=>((d.2.1.1,d.2.1.2.1,d.2.1.2.2.1),(d.2.2.1.1,d.2.2.1.2.1,d.2.2.1.2.2.1),d.2.2.2.1,d.2.2.2.2.1,d.2.2.2.2.2.1,d.2.2.2.2.2.2.1,d.2.2.2.2.2.2.2.1,d.2.2.2.2.2.2.2.2.1)) yG8 qOh yDw (e2 qZp Lh) zF
def qRd:=zJ 11 [.agg ju] (.agg YL) (fun k d=>Yc k (yR d)) (fun x=>(wO x ())) (fun d=>(qS d))
theorem vRn:zD prog qRd:=fA f11 yA4 (e2 qZp Lh) (loopsOK_of (n:=2) (by kernel_rfl) fun i hi=>match i,hi with|0,_=>⟨Qx,by kernel_rfl,vD4⟩|1,_=>⟨Qy,by kernel_rfl,vL0⟩|i+2,hi=>absurd hi (by omega))
def vTi:=yW 16 [.chn [Qz,QA,mF]] (.c .bool) [QB,QC,kG] 0 (fun k d=>rZ k (jv d) (QD d) (QE d)) (fun x=>(x.1,(),(jL x.2.1 ((),(gF x.2.2.1 (jt x.2.2.2 ())))))) (fun d=>(d.1,(qWf d),(qPg d),(qUi d)))
theorem yCn:zD prog vTi:=fX f16 n0 0 e0 zF
def vGb:=zJ 45 [.c .i,.c .i] (.c (.own yI)) (fun k d=>Lj k d.1 d.2.1) (fun x=>(x,())) (fun d=>d.1)
theorem yJu:zD prog vGb:=fA f45 n0 e0 zF
def aaP:=zJ 100 [.agg vL] (.c (.own (.int .u8))) (fun k d=>yJj k (wF d)) (fun x=>(x,())) (fun d=>d.1)
theorem aaQ:zD prog aaP:=fA f100 ⟨[1],[],[],true⟩ (e3 yF4 P3 PX) zF
def vOc:=zJ 47 [.agg GP] (.c (.own (.int .u8))) (fun k d=>vCp k (oJ d)) (fun x=>(x,())) (fun d=>d.1)
theorem vI3:zD prog vOc:=fA f47 n0 (e2 aaQ PX) zF
def vXa:=yW 99 [.chn [qKi,mF],.c (.p (.dat false (.int .u8)))] (.c .i) [[.link 1,.i,.i,.i,.bool],kG] 0 (fun k d=>qTs k (GZ d) (Qt d) d.2.2.2.2.2.2.2.2.2.2.2.2.2.2.2.1) (fun x=>(x.1,(),(gF x.2.1 (jt x.2.2 ())))) (fun d=>(d.1,(qQy d),(qK8 d)))
theorem aaR:zD prog vXa:=fX f99 n0 0 (e3 vCg Y5 yNa) zF
def vO2:=yW 46 [.chn [Qz,QA,mF],.c (.p (.dat false (.int .u8)))] (.c .i) [QB,QC,kG] 0 (fun k d=>yQd k (jv d) (QD d) (QE d) d.2.2.2.2.2.2.2.2.2.2.2.2.2.2.2.2.2.2.2.2.2.2.2.2.2.2.2.2.2.2.2.2.2.2.1) (fun x=>(x.1,(),(jL x.2.1 ((),(gF x.2.2.1 (jt x.2.2.2 ())))))) (fun d=>(d.1,(qWf d),(qPg d),(qUi d)))
theorem vG7:zD prog vO2:=fX f46 n0 0 (e3 aaR BD Qu) zF
def aaS:=yW 48 [.chn [qKi,mF]] (.c .i) [[.link 1,.i,.i,.i,.bool],kG] 0 (fun k d=>yNl k (GZ d) (Qt d)) (fun x=>(x.1,(),(gF x.2.1 (jt x.2.2 ())))) (fun d=>(d.1,(qQy d),(qK8 d)))
theorem vY7:zD prog aaS:=fX f48 n0 0 e0 zF
def vIx:=yW 13 [.chn [Qz,QA,mF],.c (.p .i),.c (.p (.dat false (.int .u8)))] (.c (.own yI)) [QB,QC,kG] 0 (fun k d=>qRr k (jv d) (QD d) (QE d) d.2.2.2.2.2.2.2.2.2.2.2.2.2.2.2.2.2.2.2.2.2.2.2.2.2.2.2.2.2.2.2.2.2.2.1 d.2.2.2.2.2.2.2.2.2.2.2.2.2.2.2.2.2.2.2.2.2.2.2.2.2.2.2.2.2.2.2.2.2.2.2.1) (fun x=>(x.1,(),(jL x.2.1 ((),(gF x.2.2.1 (jt x.2.2.2 ())))))) (fun d=>(d.1,(qWf d),(qPg d),(qUi d)))
theorem vGv:zD prog vIx:=fX f13 n0 0 (e9 yCn Zk yJu qLc vI3 vG7 vY7 BD Qu) zF
def vJg:=zJ 50 [.c .i] (.c .i) (fun k d=>Df k d.1) (fun x=>(x,())) (fun d=>d.1)
theorem qMm:zD prog vJg:=fA f50 n0 e0 zF
def vLt:=zJ 103 [.c .i] (.c .bool) (fun k d=>Pl k d.1) (fun x=>(x,())) (fun d=>d.1)
theorem vSv:zD prog vLt:=fA f103 n0 e0 zF
def yGl:zE:=sp [sP 1 0,sI 3,sI 4] [oB wR]
def yH4 (f:qIx)(d:yGl.den):=f d.1.2.1.1 d.1.2.2.1.1 (wF d.2.1)
def qUe:zT:=⟨[yGl],[(.exit 0,yBx),(.ret,yDu)],(Int⊕Bool),fun k d=>yH4 (xa k k) d,fun b x _ K=>match x with|.inl x=>K (.exit 0) (zM b yBx (((x,()),()),()))|.inr x=>K .ret (zM b yDu (((x,()),()),()))⟩
def yNz:zY:=⟨[],[(3,qUe)],[],true⟩
theorem aaT:zS prog 1000 0 21 (zQ (zR f65) 0) qUe:=lp (A:=yNz) qUe (fun d=>match d with|.inl d=>.inl d.1.1.1|.inr d=>.inr d.1.1.1) yH4 xa XF (e1 qMm) zF
def vDp:=zJ 65 [.agg vL] (.c .bool) (fun k d=>rQ k (wF d)) (fun x=>(x,())) (fun d=>d.1)
theorem yGh:zD prog vDp:=fA f65 yNz (e1 qMm) (qD aaT)
def vTh:=zJ 104 [.c .i] (.c .bool) (fun k d=>Pm k d.1) (fun x=>(x,())) (fun d=>d.1)
theorem vHe:zD prog vTh:=fA f104 n0 e0 zF
def vQv:=zJ 51 [.agg ju,.agg GP] (.c .bool) (fun k d=>Bj k (yR d) (vDt d)) (fun x=>(x,())) (fun d=>d.1)
theorem vRx:zD prog vQv:=fA f51 n0 (e3 vSv yGh vHe) zF
def vAw:zE:=⟨[(0,.c (.dat false zG)),sI 1,sO 5 0,sI 6],[oA zG],[(5,none,zG,false)]⟩
def yBs (f:qN3)(d:vAw.den):=f d.1.1.1 d.1.2.1.1 d.1.2.2.2.1.1 d.2.1
def qJw:zT:=⟨[vAw],[(.exit 0,yYo)],Zs,fun k d=>yBs (Jm k k) d,fun b x _ K=>K (.exit 0) (zM b yYo (((),()),(x,())))⟩
def vC3:zY:=⟨[],[(3,qJw)],[],false⟩
theorem vF6:zS prog 1000 0 28 (zQ (zR f52) 0) qJw:=lp (A:=vC3) qJw (fun d=>d.2.1) yBs Jm Es e0 zF
def qRo:=zJ 52 [.c (.dat false zG),.c .i] (.c (.own zG)) (fun k d=>tF k d.1 d.2.1) (fun x=>(x,())) (fun d=>d.1)
theorem xO:zD prog qRo:=fA f52 vC3 e0 (qD vF6)
def yH7:zE:=sp [(1,.c (.dat false .i)),sP 4 0,sP 5 1,sI 6] [oB wR,oB wR]
def yS2:zE:=sp [sP 4 0,sP 5 1] [oB wR,oB wR]
def yVv (f:qOy)(d:yH7.den):=(lK (lK (f d.1.1.1 d.1.2.2.2.1.1) d.2.1) d.2.2.1)
def qVv:zT:=⟨[yH7],[(.exit 0,yS2)],qMw,fun k d=>yVv (QF k k) d,fun b x _ K=>K (.exit 0) (zM b yS2 (((),(),()),((jo x ()),(yQo x ()),())))⟩
def yEr:zY:=⟨[],[(3,qVv)],[],false⟩
theorem aaU:zS prog 1000 0 27 (zQ (zR f24) 0) qVv:=lp (A:=yEr) qVv (fun d=>(jo d.2.1 (wF d.2.2.1))) yVv QF yOp e0 zF
def vSb:=zJ 24 [.c .i,.c (.dat false .i)] (.agg pH) (fun k d=>eP k d.1 d.2.1) (fun x=>(ie x ())) (fun d=>(wF d))
theorem uj:zD prog vSb:=fA f24 yEr e0 (qD aaU)
def vFy:=zJ 105 [.agg ju,.c .i] (.c .bool) (fun k d=>Pk k (yR d) d.2.2.2.2.2.1) (fun x=>(x,())) (fun d=>d.1)
theorem QG:zD prog vFy:=fA f105 n0 e0 zF
def vYr:=zJ 106 [.agg vL,.c .i] (.c .bool) (fun k d=>(lJ (Xv k) d)) (fun x=>(x,())) (fun d=>d.1)
theorem QH:zD prog vYr:=fA f106 ⟨[],[],[],false⟩ e0 zF
def yD1:zE:=sp [(0,.c (.dat false zG)),sI 1,sI 5] []
def yO9 (f:qKp)(d:yD1.den):=f d.1.1.1 d.1.2.1.1 d.1.2.2.1.1
def qLk:zT:=⟨[yD1],[(.exit 0,yQs),(.ret,yBi)],(Unit⊕Int),fun k d=>yO9 (EA k k) d,fun b x _ K=>match x with|.inl x=>K (.exit 0) (zM b yQs ((),()))|.inr x=>K .ret (zM b yBi (((x,()),()),()))⟩
def yNp:zY:=⟨[],[(2,qLk)],[],false⟩
theorem vYl:zS prog 1000 0 20 (zQ (zR f56) 0) qLk:=lp (A:=yNp) qLk (fun d=>match d with|.inl d=>.inl ()|.inr d=>.inr d.1.1.1) yO9 EA EB e0 zF
def aaV:=zJ 56 [.c (.dat false zG),.c .i] (.c .i) (fun k d=>mv k d.1 d.2.1) (fun x=>(x,())) (fun d=>d.1)
theorem QI:zD prog aaV:=fA f56 yNp e0 (qD vYl)
def vYa:=zJ 107 [.c (.dat true zG),.c .i] (.tup [(false,[.fro zG]),(true,pH),(false,vC)]) (fun k d=>nu k d.1 d.2.1) (fun x=>(P9 x ())) (fun d=>(Qa d))
theorem lL:zD prog vYa:=fA f107 ⟨[],[],[],false⟩ (e1 QI) zF
def vH7:=zJ 108 [.agg ju,.c .i] (.c .bool) (fun k d=>KK k (yR d) d.2.2.2.2.2.1) (fun x=>(x,())) (fun d=>d.1)
theorem QJ:zD prog vH7:=fA f108 n0 e0 zF
def vYj:=zJ 260 [.agg vL,.c .i] (.c .bool) (fun k d=>(lJ (VA k) d)) (fun x=>(x,())) (fun d=>d.1)
theorem yBy:zD prog vYj:=fA f260 ⟨[],[],[],false⟩ e0 zF
def yC6 (f:qN3)(d:vAw.den):=f d.1.1.1 d.1.2.1.1 d.1.2.2.2.1.1 d.2.1
def qWs:zT:=⟨[vAw],[(.exit 0,yYo)],Zs,fun k d=>yC6 (Jl k k) d,fun b x _ K=>K (.exit 0) (zM b yYo (((),()),(x,())))⟩
def yXd:zY:=⟨[],[(3,qWs)],[],false⟩
theorem vEc:zS prog 1000 0 27 (zQ (zR f227) 0) qWs:=lp (A:=yXd) qWs (fun d=>d.2.1) yC6 Jl Er (e1 yBy) zF
def qYq:=zJ 227 [.c (.dat false zG),.c .i] (.c (.own zG)) (fun k d=>Ep k d.1 d.2.1) (fun x=>(x,())) (fun d=>d.1)
theorem BG:zD prog qYq:=fA f227 yXd (e1 yBy) (qD vEc)
def yRg:zE:=sp [sO 5 0,sO 6 1,sI 7,sO 8 2,(9,.c .bool),sI 10] [oA zG,oA zG,oA zG]
def yEy:zE:=sp [sO 5 0,sO 6 1,sI 7,sO 8 2,(9,.c .bool)] [oA zG,oA zG,oA zG]
def vB1 (f:qVs)(d:yRg.den):=f d.1.2.2.1.1 d.1.2.2.2.2.1.1 d.1.2.2.2.2.2.1.1 d.2.1 d.2.2.1 d.2.2.2.1
def qTo:zT:=⟨[yRg],[(.exit 2,yEy)],qI1,fun k d=>vB1 (Et k k) d,fun b x _ K=>K (.exit 2) (zM b yEy (((),(),(x.1,()),(),(x.2.1,()),()),(x.2.2.1,x.2.2.2.1,x.2.2.2.2,())))⟩
def yHb:zE:=⟨[sO 5 0,sO 6 1,sI 7],[oA zG,oA zG],[(6,none,zG,false)]⟩
def vB6:zE:=sp [sO 6 0] [oA zG]
def yZk (f:qUd)(d:yHb.den):=f d.1.2.2.1.1 d.2.1 d.2.2.1
def qT9:zT:=⟨[yHb],[(.exit 0,vB6)],Zs,fun k d=>yZk (Jo k k) d,fun b x _ K=>K (.exit 0) (zM b vB6 (((),()),(x,())))⟩
def vUy:Env:=⟨prog,fun t=>[142].any (Nat.beq t),fg [qYq,qRo]⟩
theorem qO9:jJ vUy:=MV (l:=[qYq,qRo]) (eqT:=fun t=>[142].any (Nat.beq t)) (Sf (fun t h=>TR (p:=fun t=>prog.keyTypeAt 8 t&& !prog.eqGuardType prog.depth t) (l:=[142]) (List.forall_mem_cons.2 ⟨by kernel_rfl,List.forall_mem_nil _⟩) t h)) gE ⟨BG,xO,trivial⟩
def qWx:zY:=⟨[],[(9,qTo),(4,qT9)],[],false⟩
theorem aaW:zS prog 1000 0 61 (zQ (zQ (zR f285) 0) 0) qTo:=lp (A:=qWx) qTo (fun d=>(d.1.2.2.1.1,d.1.2.2.2.2.1.1,d.2.1,d.2.2.1,d.2.2.2.1)) vB1 Et Eu qO9 zF
theorem aaX:zS prog 1000 0 61 (zQ (zR f285) 0) qT9:=lp (A:=qWx) qT9 (fun d=>d.2.1) yZk Jo Ev qO9 (qD aaW)
def vWh:=zJ 285 [.c (.dat false zG),.c .i] (.c (.own zG)) (fun k d=>Jn k d.1 d.2.1) (fun x=>(x,())) (fun d=>d.1)
theorem Lk:zD prog vWh:=fA f285 qWx qO9 (qD aaX)
def aaY:=zJ 288 [.agg jN,.agg vL] (.c .bool) (fun k d=>(rV (U4 k) d)) (fun x=>(x,())) (fun d=>d.1)
theorem yB0:zD prog aaY:=fA f288 ⟨[],[],[],false⟩ e0 zF
def ySa:zE:=sp [(1,.c (.dat false zG)),sP 2 0,sI 5] [oB jH]
def yE4:zE:=sp [(1,.c (.dat false zG))] []
def yT1 (f:qZi)(d:ySa.den):=(vF (f d.1.1.1 d.1.2.2.1.1) d.2.1)
def qK2:zT:=⟨[ySa],[(.exit 0,yE4),(.ret,yP1)],qI7,fun k d=>yT1 (I2 k k) d,fun b x _ K=>match x with|.inl x=>K (.exit 0) (zM b yE4 (((x,()),()),()))|.inr x=>K .ret (zM b yP1 (((x,()),()),()))⟩
def yB4:zY:=⟨[],[(2,qK2)],[],false⟩
theorem vUq:zS prog 1000 0 22 (zQ (zR f261) 0) qK2:=lp (A:=yB4) qK2 (fun d=>match d with|.inl d=>.inl d.1.1.1|.inr d=>.inr d.1.1.1) yT1 I2 DS (e1 yB0) zF
def vH2:=zJ 261 [.agg jN,.c (.dat false zG)] (.c .bool) (fun k d=>(kW (I1 k) d)) (fun x=>(x,())) (fun d=>d.1)
theorem QK:zD prog vH2:=fA f261 yB4 (e1 yB0) (qD vUq)
def yV3:zE:=⟨[(0,.c (.dat false (.sl .i))),sO 3 0,sI 4],[.mat],[(3,none,(.sl .i),true)]⟩
def yG0:zE:=sp [sO 3 0] [.mat]
def yTy (f:qPh)(d:yV3.den):=f d.1.1.1 d.1.2.2.1.1 d.2.1
def qXj:zT:=⟨[yV3],[(.exit 0,yG0)],EQ,fun k d=>yTy (IN k k) d,fun b x _ K=>K (.exit 0) (zM b yG0 (((),()),(x,())))⟩
def yDa:zY:=⟨[18,19],[(3,qXj)],[],false⟩
theorem vV5:zS prog 1000 0 21 (zQ (zR f219) 0) qXj:=lp (A:=yDa) qXj (fun d=>d.2.1) yTy IN DL e0 zF
def vYy:=zJ 219 [.c (.dat false (.sl .i))] (.c (.mat)) (fun k d=>IP k d.1) (fun x=>(x,())) (fun d=>d.1)
theorem vDm:zD prog vYy:=fA f219 yDa e0 (qD vV5)
def vIb:=zJ 177 [.agg jN] (.agg [.own qX,.mat,.own .i,.mat]) (fun k d=>(vF (oe k) d)) (fun x=>(gF x ())) (fun d=>(gj d))
theorem xP:zD prog vIb:=fA f177 ⟨[],[],[],false⟩ (e1 vDm) zF
def yE0:zE:=sp [(0,.c (.dat false zG)),sI 1,sI 6,sI 7,sI 8] []
def yVt:zE:=sp [sI 6,sI 7] []
def yMh (f:qQu)(d:yE0.den):=f d.1.1.1 d.1.2.1.1 d.1.2.2.1.1 d.1.2.2.2.1.1 d.1.2.2.2.2.1.1
def qLx:zT:=⟨[yE0],[(.exit 0,yVt)],wJ,fun k d=>yMh (I5 k k) d,fun b x _ K=>K (.exit 0) (zM b yVt (((x.1,()),(x.2,()),()),()))⟩
def yWg:zY:=⟨[],[(3,qLx)],[],false⟩
theorem vWx:zS prog 1000 0 46 (zQ (zR f289) 0) qLx:=lp (A:=yWg) qLx (fun d=>(d.1.1.1,d.1.2.1.1)) yMh I5 DX e0 zF
def vFa:=zJ 289 [.c (.dat false zG),.c .i] (.tup [(false,vC),(false,vC)]) (fun k d=>I4 k d.1 d.2.1) (fun x=>(x.1,x.2,())) (fun d=>(d.1,d.2.1))
theorem qLb:zD prog vFa:=fA f289 yWg e0 (qD vWx)
def aaZ:=zJ 263 [.c (.dat false zG),.c .i] (.c .i) (fun k d=>ND k d.1 d.2.1) (fun x=>(x,())) (fun d=>d.1)
theorem qXm:zD prog aaZ:=fA f263 ⟨[],[],[],false⟩ (e1 qLb) zF
def vQm:=zJ 262 [.agg nz,.c .i] (.c .i) (fun k d=>(vF (I6 k) d)) (fun x=>(x,())) (fun d=>d.1)
theorem Ll:zD prog vQm:=fA f262 ⟨[],[],[],false⟩ e0 zF
def yEa:zE:=sp [(0,.c (.dat false zG)),sI 1,sI 2,sI 7,sI 8] []
def vAu:zE:=sp [sI 7] []
def yK8 (f:qNx)(d:yEa.den):=f d.1.1.1 d.1.2.1.1 d.1.2.2.1.1 d.1.2.2.2.1.1 d.1.2.2.2.2.1.1
def qVe:zT:=⟨[yEa],[(.exit 0,vAu)],Int,fun k d=>yK8 (I3 k k) d,fun b x _ K=>K (.exit 0) (zM b vAu (((x,()),()),()))⟩
def yM1:zY:=⟨[],[(3,qVe)],[],false⟩
theorem vXi:zS prog 1000 0 39 (zQ (zR f290) 0) qVe:=lp (A:=yM1) qVe (fun d=>d.1.1.1) yK8 I3 DW e0 zF
def vSt:=zJ 290 [.c (.dat false zG),.c .i,.c .i] (.c .i) (fun k d=>wa k d.1 d.2.1 d.2.2.1) (fun x=>(x,())) (fun d=>d.1)
theorem qS0:zD prog vSt:=fA f290 yM1 e0 (qD vXi)
def vPc:=zJ 264 [.c (.dat false zG),.c .i,.c .i] (.c .i) (fun k d=>NB k d.1 d.2.1 d.2.2.1) (fun x=>(x,())) (fun d=>d.1)
theorem qVm:zD prog vPc:=fA f264 ⟨[],[],[],false⟩ (e1 qS0) zF
def yZx:zE:=sp [(0,.c (.dat false (.sl .i))),sI 1,sI 5] []
def yQ9 (f:qUf)(d:yZx.den):=f d.1.1.1 d.1.2.1.1 d.1.2.2.1.1
def qU6:zT:=⟨[yZx],[(.exit 0,yQs),(.ret,yP1)],(Unit⊕Bool),fun k d=>yQ9 (IF k k) d,fun b x _ K=>match x with|.inl x=>K (.exit 0) (zM b yQs ((),()))|.inr x=>K .ret (zM b yP1 (((x,()),()),()))⟩
def yXj:zY:=⟨[],[(4,qU6)],[],false⟩
theorem vUh:zS prog 1000 0 22 (zQ (zR f291) 0) qU6:=lp (A:=yXj) qU6 (fun d=>match d with|.inl d=>.inl ()|.inr d=>.inr d.1.1.1) yQ9 IF Dy e0 zF
def vV3:=zJ 291 [.c (.dat false (.sl .i)),.c .i] (.c .bool) (fun k d=>IE k d.1 d.2.1) (fun x=>(x,())) (fun d=>d.1)
theorem qY8:zD prog vV3:=fA f291 yXj e0 (qD vUh)
def vYk:=zJ 222 [.agg nz] (.c .bool) (fun k d=>IC k d.1 d.2.1 d.2.2.1) (fun x=>(x,())) (fun d=>d.1)
theorem QL:zD prog vYk:=fA f222 ⟨[],[],[],false⟩ e0 zF
def vJ9:=zJ 292 [.c .i] (.c .bool) (fun k d=>ID k d.1) (fun x=>(x,())) (fun d=>d.1)
theorem qK9:zD prog vJ9:=fA f292 ⟨[],[],[],false⟩ e0 zF
def yG7:zE:=sp [sP 1 0,sI 3,sI 4,sI 5] [oB jH]
def yZy:zE:=sp [sP 1 0,sI 3,sI 4] [oB jH]
def yE2 (f:qNt)(d:yG7.den):=(vF (f d.1.2.1.1 d.1.2.2.1.1 d.1.2.2.2.1.1) d.2.1)
def qIw:zT:=⟨[yG7],[(.exit 2,yZy),(.ret,yDu)],yAp,fun k d=>yE2 (Dz k k) d,fun b x _ K=>match x with|.inl x=>K (.exit 2) (zM b yZy (((),(x.1,()),(x.2.1,()),()),((Bb x ()),())))|.inr x=>K .ret (zM b yDu (((x,()),()),()))⟩
def yA9 (f:qP5)(d:yZy.den):=(vF (f d.1.2.1.1 d.1.2.2.1.1) d.2.1)
def qWe:zT:=⟨[yZy],[(.exit 0,yQs),(.ret,yDu)],(Unit⊕Bool),fun k d=>yA9 (DB k k) d,fun b x _ K=>match x with|.inl x=>K (.exit 0) (zM b yQs ((),()))|.inr x=>K .ret (zM b yDu (((x,()),()),()))⟩
def qS5:zY:=⟨[],[(10,qIw),(5,qWe)],[],false⟩
theorem vNs:zS prog 1000 0 114 (zQ (zQ (zR f265) 0) 0) qIw:=lp (A:=qS5) qIw (fun d=>match d with|.inl d=>.inl (d.1.2.1.1,d.1.2.2.1.1,(gj d.2.1))|.inr d=>.inr d.1.1.1) yE2 Dz DA (e3 qY8 QL qK9) zF
theorem vIc:zS prog 1000 0 114 (zQ (zR f265) 0) qWe:=lp (A:=qS5) qWe (fun d=>match d with|.inl d=>.inl ()|.inr d=>.inr d.1.1.1) yA9 DB DC (e3 qY8 QL qK9) (qD vNs)
def vEz:=zJ 265 [.agg jN] (.c .bool) (fun k d=>(vF (Nk k) d)) (fun x=>(x,())) (fun d=>d.1)
theorem qSl:zD prog vEz:=fA f265 qS5 (e3 qY8 QL qK9) (qD vIc)
def yYx:zE:=sp [(1,.c (.dat false zG)),sP 2 0,sP 4 1,sP 6 2,sI 7,sI 8] [oB wB,oB nA,oB rW,oA qX,.mat,oA .i,.mat]
def yJ0:zE:=sp [(1,.c (.dat false zG)),sP 2 0,sP 4 1,sP 6 2,sI 7] [oB wB,oB nA,oB rW,oA qX,.mat,oA .i,.mat]
def vBb (f:qLj)(d:yYx.den):=(vF (f d.1.1.1 d.1.2.2.2.2.1.1 d.1.2.2.2.2.2.1.1) d.2.1) d.2.2.2.2.1 d.2.2.2.2.2.1 d.2.2.2.2.2.2.1 d.2.2.2.2.2.2.2.1
def qY2:zT:=⟨[yYx],[(.exit 2,yJ0)],qMi,fun k d=>vBb (DY k k) d,fun b x _ K=>K (.exit 2) (zM b yJ0 (((x.1,()),(),(),(),(x.2.1,()),()),((P4 x ()),(),(),x.2.2.2.2.2.2.1,x.2.2.2.2.2.2.2.1,x.2.2.2.2.2.2.2.2.1,x.2.2.2.2.2.2.2.2.2,())))⟩
def yNk:zE:=sp [sP 2 0,sP 4 1,sP 6 2] [oB wB,oB nA,oB rW,oA qX,.mat,oA .i,.mat]
def yD3 (f:qRl)(d:yJ0.den):=(vF (f d.1.1.1 d.1.2.2.2.2.1.1) d.2.1) d.2.2.2.2.1 d.2.2.2.2.2.1 d.2.2.2.2.2.2.1 d.2.2.2.2.2.2.2.1
def qNv:zT:=⟨[yJ0],[(.exit 0,yNk)],qWm,fun k d=>yD3 (D3 k k) d,fun b x _ K=>K (.exit 0) (zM b yNk (((),(),(),()),((vT x ()),(),(),x.2.2.2.2.1,x.2.2.2.2.2.1,x.2.2.2.2.2.2.1,x.2.2.2.2.2.2.2,())))⟩
def qZ3:zY:=⟨[],[(9,qY2),(5,qNv)],[],false⟩
theorem vIr:zS prog 1000 0 84 (zQ (zQ (zR f228) 0) 0) qY2:=lp (A:=qZ3) qY2 (fun d=>(d.1.1.1,d.1.2.2.2.2.1.1,(vT d.2.1 (d.2.2.2.2.1,d.2.2.2.2.2.1,d.2.2.2.2.2.2.1,d.2.2.2.2.2.2.2.1)))) vBb DY DZ (e6 QK xP qXm Ll qVm qSl) zF
theorem aa0:zS prog 1000 0 84 (zQ (zR f228) 0) qNv:=lp (A:=qZ3) qNv (fun d=>(vT d.2.1 (d.2.2.2.2.1,d.2.2.2.2.2.1,d.2.2.2.2.2.2.1,d.2.2.2.2.2.2.2.1))) yD3 D3 D4 (e6 QK xP qXm Ll qVm qSl) (qD vIr)
def vPy:=zJ 228 [.agg kH,.c (.dat false zG)] (.tup [(true,mG),(false,vC)]) (fun k d=>(kW (Az k) d)) (fun x=>(jD x ())) (fun d=>(yR d))
theorem qP1:zD prog vPy:=fA f228 qZ3 (e6 QK xP qXm Ll qVm qSl) (qD aa0)
def yY1:zE:=sp [sI 1,sP 2 0,sI 5,sI 6] [oB jH]
def yPh (f:qJs)(d:yY1.den):=(vF (f d.1.1.1 d.1.2.2.1.1 d.1.2.2.2.1.1) d.2.1)
def qMk:zT:=⟨[yY1],[(.exit 0,vBg)],Int,fun k d=>yPh (D5 k k) d,fun b x _ K=>K (.exit 0) (zM b vBg (((x,()),()),()))⟩
def vAz:zY:=⟨[],[(3,qMk)],[],false⟩
theorem vTq:zS prog 1000 0 28 (zQ (zR f301) 0) qMk:=lp (A:=vAz) qMk (fun d=>d.1.1.1) yPh D5 D6 e0 zF
def aa1:=zJ 301 [.agg jN,.c .i] (.c .i) (fun k d=>(kW (NH k) d)) (fun x=>(x,())) (fun d=>d.1)
theorem yFh:zD prog aa1:=fA f301 vAz e0 (qD vTq)
def vA8:zE:=sp [(1,.c (.dat false zG)),sI 2,sP 3 0,sI 7,sI 8,sI 9,sI 10,sI 11] [oB jH]
def yWz:zE:=sp [sI 2,sP 3 0,sI 7,sI 8,sI 9,sI 10] [oB jH]
def yUv (f:qS4)(d:vA8.den):=(vF (f d.1.1.1 d.1.2.1.1 d.1.2.2.2.1.1 d.1.2.2.2.2.1.1 d.1.2.2.2.2.2.1.1 d.1.2.2.2.2.2.2.1.1 d.1.2.2.2.2.2.2.2.1.1) d.2.1)
def qWd:zT:=⟨[vA8],[(.exit 0,yWz),(.ret,yBg)],qIg,fun k d=>yUv (rI k k) d,fun b x _ K=>match x with|.inl x=>K (.exit 0) (zM b yWz (((x.1,()),(),(x.2.1,()),(x.2.2.1,()),(x.2.2.2.1,()),(x.2.2.2.2.1,()),()),((vT9 x ()),())))|.inr x=>K .ret (zM b yBg (((x,()),()),()))⟩
def yY9:zY:=⟨[],[(7,qWd)],[],false⟩
theorem vGt:zS prog 1000 0 130 (zQ (zR f287) 0) qWd:=lp (A:=yY9) qWd (fun d=>match d with|.inl d=>.inl (d.1.1.1,d.1.2.2.1.1,d.1.2.2.2.1.1,d.1.2.2.2.2.1.1,d.1.2.2.2.2.2.1.1,(gj d.2.1))|.inr d=>.inr d.1.1.1) yUv rI D8 (e4 qLb yFh qS0 Ll) zF
def vSn:=zJ 287 [.agg jN,.c (.dat false zG),.c .i] (.c .bool) (fun k d=>(jw (NL k) d)) (fun x=>(x,())) (fun d=>d.1)
theorem yX4:zD prog vSn:=fA f287 yY9 (e4 qLb yFh qS0 Ll) (qD vGt)
def yQb:zE:=⟨[(1,.c (.dat false zG)),sP 2 0,sO 5 1,sI 6],[oB jH,oA .i],[(5,none,.i,false)]⟩
def yJn (f:qPv)(d:yQb.den):=(vF (f d.1.1.1 d.1.2.2.2.1.1) d.2.1) d.2.2.1
def qQj:zT:=⟨[yQb],[(.exit 0,yOo)],AC,fun k d=>yJn (tD k k) d,fun b x _ K=>K (.exit 0) (zM b yOo (((),()),(x,())))⟩
def yXv:zY:=⟨[],[(3,qQj)],[],false⟩
theorem vRt:zS prog 1000 0 23 (zQ (zR f259) 0) qQj:=lp (A:=yXv) qQj (fun d=>d.2.1) yJn tD rJ (e1 yX4) zF
def vEn:=zJ 259 [.agg jN,.c (.dat false zG)] (.c (.own .i)) (fun k d=>(kW (tC k) d)) (fun x=>(x,())) (fun d=>d.1)
theorem Lm:zD prog vEn:=fA f259 yXv (e1 yX4) (qD vRt)
def vWk:=zJ 286 [.agg jN,.c (.dat false zG)] (.c .bool) (fun k d=>(kW (I8 k) d)) (fun x=>(x,())) (fun d=>d.1)
theorem aa2:zD prog vWk:=fA f286 ⟨[],[],[],false⟩ (e2 QK Lm) zF
def aa3:=zJ 257 [.agg kH,.c (.dat false zG)] (.tup [(true,mG),(false,[.bool])]) (fun k d=>(kW (uc k) d)) (fun x=>(jD x ())) (fun d=>(yR d))
theorem uk:zD prog aa3:=fA f257 ⟨[],[],[],false⟩ (e2 qP1 aa2) zF
def yP9:zE:=sp [sP 3 0,sP 6 1,sO 8 2,sI 9] [oB wB,oB wR,oA zG]
def yYk:zE:=sp [sP 6 0] [oB wR]
def yHa:zE:=sp [sP 6 0,(7,.c .bool)] [oB wR]
def vBz (f:qM1)(d:yP9.den):=(lK (vF (f d.1.2.2.2.1.1) d.2.1) d.2.2.1) d.2.2.2.1
def qXr:zT:=⟨[yP9],[(.exit 0,yYk),(.ret,yHa)],qO1,fun k d=>vBz (KA k k) d,fun b x _ K=>match x with|.inl x=>K (.exit 0) (zM b yYk (((),()),((ie x ()),())))|.inr x=>K .ret (zM b yHa (((),(x.1,()),()),((yGz x ()),())))⟩
def yXg:zY:=⟨[],[(3,qXr)],[],false⟩
theorem vU6:zS prog 1000 0 37 (zQ (zR f256) 0) qXr:=lp (A:=yXg) qXr (fun d=>match d with|.inl d=>.inl (wF d.2.1)|.inr d=>.inr (d.1.2.1.1,(wF d.2.1))) vBz KA F9 (e2 Lk uk) zF
def aa4:=zJ 256 [.agg kH,.c (.dat true zG),.c .i] (.tup [(true,pH),(false,[.bool])]) (fun k d=>(jw (Pc k) d)) (fun x=>(GO x ())) (fun d=>(oJ d))
theorem yGu:zD prog aa4:=fA f256 yXg (e2 Lk uk) (qD vU6)
def yNd:zE:=⟨[(1,.c (.dat true zG)),sI 2,sP 3 0,sP 6 1,sO 9 2],[oB wB,oB nA,oA zG],[(9,none,zG,false)]⟩
def yQx (f:qUx)(d:yNd.den):=(vF (f d.1.1.1 d.1.2.1.1) d.2.1) d.2.2.2.1
def qJ9:zT:=⟨[yNd],[(.ret,yTd)],yA0,fun k d=>yQx (KB k k) d,fun b x _ K=>K .ret (zM b yTd (((),(x.1,()),(),()),((ij x ()),x.2.2.2.2.2,())))⟩
def yTx:zY:=⟨[],[(2,qJ9)],[],false⟩
theorem vG1:zS prog 1000 0 43 (zQ (zR f223) 0) qJ9:=lp (A:=yTx) qJ9 (fun d=>(d.1.2.1.1,(vT d.2.1 d.2.2.1))) yQx KB Ga (e3 yGu uk lL) zF
def vKn:=zJ 223 [.agg kH,.c (.dat true zG),.c .i] (.tup [(true,mG),(false,[.fro zG]),(false,[.own zG])]) (fun k d=>(jw (Pd k) d)) (fun x=>(nB x ())) (fun d=>(mH d))
theorem yPf:zD prog vKn:=fA f223 yTx (e3 yGu uk lL) (qD vG1)
def vA7:zE:=sp [sP 3 0,sP 6 1,sP 7 2,sO 9 3,sI 10,sI 11] [oB wB,oB wR,oB wR,oA zG]
def yWu:zE:=sp [sP 3 0,sP 6 1,sP 7 2,sO 9 3,sI 10] [oB wB,oB wR,oB wR,oA zG]
def yF3:zE:=sp [sP 6 0,sP 7 1,(8,.c .bool)] [oB wR,oB wR]
def ySq (f:yAr)(d:vA7.den):=(lK (lK (vF (f d.1.2.2.2.2.1.1 d.1.2.2.2.2.2.1.1) d.2.1) d.2.2.1) d.2.2.2.1) d.2.2.2.2.1
def qKb:zT:=⟨[vA7],[(.exit 2,yWu),(.ret,yF3)],qLp,fun k d=>ySq (KD k k) d,fun b x _ K=>match x with|.inl x=>K (.exit 2) (zM b yWu (((),(),(),(),(x.1,()),()),((ij x ()),(vIz x ()),(vVp x ()),x.2.2.2.2.2.2.2.2.2.2.2.2.2.2.2.2.2.2.2,())))|.inr x=>K .ret (zM b yF3 (((),(),(x.1,()),()),((qJm x ()),(yKv x ()),())))⟩
def yN7:zE:=sp [sP 6 0,sP 7 1] [oB wR,oB wR]
def vA1 (f:yA3)(d:yWu.den):=(lK (lK (vF (f d.1.2.2.2.2.1.1) d.2.1) d.2.2.1) d.2.2.2.1) d.2.2.2.2.1
def qKv:zT:=⟨[yWu],[(.exit 0,yN7),(.ret,yF3)],qZv,fun k d=>vA1 (KE k k) d,fun b x _ K=>match x with|.inl x=>K (.exit 0) (zM b yN7 (((),(),()),((jo x ()),(yQo x ()),())))|.inr x=>K .ret (zM b yF3 (((),(),(x.1,()),()),((qJm x ()),(yKv x ()),())))⟩
def qJ3:zY:=⟨[],[(6,qKb),(3,qKv)],[],false⟩
theorem vHs:zS prog 1000 0 71 (zQ (zQ (zR f258) 0) 0) qKb:=lp (A:=qJ3) qKb (fun d=>match d with|.inl d=>.inl (d.1.2.2.2.2.1.1,(vT d.2.1 (jo d.2.2.1 (jo d.2.2.2.1 d.2.2.2.2.1))))|.inr d=>.inr (d.1.2.2.1.1,(jo d.2.1 (wF d.2.2.1)))) ySq KD Gc (e2 Lk uk) zF
theorem vKm:zS prog 1000 0 71 (zQ (zR f258) 0) qKv:=lp (A:=qJ3) qKv (fun d=>match d with|.inl d=>.inl (jo d.2.1 (wF d.2.2.1))|.inr d=>.inr (d.1.2.2.1.1,(jo d.2.1 (wF d.2.2.1)))) vA1 KE Gd (e2 Lk uk) (qD vHs)
def vJi:=zJ 258 [.agg kH,.c (.dat true zG),.c .i] (.tup [(true,pH),(true,pH),(false,[.bool])]) (fun k d=>(jw (Pe k) d)) (fun x=>(yY3 x ())) (fun d=>(yY7 d))
theorem yZz:zD prog vJi:=fA f258 qJ3 (e2 Lk uk) (qD vKm)
def yWt (f:qUx)(d:yNd.den):=(vF (f d.1.1.1 d.1.2.1.1) d.2.1) d.2.2.2.1
def qR6:zT:=⟨[yNd],[(.ret,yTd)],yA0,fun k d=>yWt (KF k k) d,fun b x _ K=>K .ret (zM b yTd (((),(x.1,()),(),()),((ij x ()),x.2.2.2.2.2,())))⟩
def yRb:zY:=⟨[],[(2,qR6)],[],false⟩
theorem vUz:zS prog 1000 0 55 (zQ (zR f224) 0) qR6:=lp (A:=yRb) qR6 (fun d=>(d.1.2.1.1,(vT d.2.1 d.2.2.1))) yWt KF Ge (e3 yZz uk lL) zF
def aa5:=zJ 224 [.agg kH,.c (.dat true zG),.c .i] (.tup [(true,mG),(false,[.fro zG]),(false,[.own zG])]) (fun k d=>(jw (Pf k) d)) (fun x=>(nB x ())) (fun d=>(mH d))
theorem ySz:zD prog aa5:=fA f224 yRb (e3 yZz uk lL) (qD vUz)
def yMp (f:qUx)(d:yNd.den):=(vF (f d.1.1.1 d.1.2.1.1) d.2.1) d.2.2.2.1
def qPb:zT:=⟨[yNd],[(.ret,yTd)],yA0,fun k d=>yMp (KI k k) d,fun b x _ K=>K .ret (zM b yTd (((),(x.1,()),(),()),((ij x ()),x.2.2.2.2.2,())))⟩
def yXy:zY:=⟨[],[(2,qPb)],[],false⟩
theorem vUn:zS prog 1000 0 45 (zQ (zR f181) 0) qPb:=lp (A:=yXy) qPb (fun d=>(d.1.2.1.1,(vT d.2.1 d.2.2.1))) yMp KI Gp (e2 yPf ySz) zF
def vI6:=zJ 181 [.agg kH,.c (.dat true zG),.c .i] (.tup [(true,mG),(false,[.fro zG]),(false,[.own zG])]) (fun k d=>(jw (KJ k) d)) (fun x=>(nB x ())) (fun d=>(mH d))
theorem vRi:zD prog vI6:=fA f181 yXy (e2 yPf ySz) (qD vUn)
def yMe:zE:=⟨[(0,.c (.dat false zG)),(1,.c (.dat false .i)),sO 5 0,sI 6],[oA zG],[(5,none,zG,false)]⟩
def vCt (f:qQ7)(d:yMe.den):=f d.1.1.1 d.1.2.1.1 d.1.2.2.2.1.1 d.2.1
def qOx:zT:=⟨[yMe],[(.exit 0,yYo)],Zs,fun k d=>vCt (Gg k k) d,fun b x _ K=>K (.exit 0) (zM b yYo (((),()),(x,())))⟩
def yVz:zY:=⟨[],[(3,qOx)],[],false⟩
theorem vLi:zS prog 1000 0 60 (zQ (zR f226) 0) qOx:=lp (A:=yVz) qOx (fun d=>d.2.1) vCt Gg Gh (e1 xO) zF
def vEo:=zJ 226 [.c (.dat false zG),.c (.dat false .i)] (.c (.own zG)) (fun k d=>Gf k d.1 d.2.1) (fun x=>(x,())) (fun d=>d.1)
theorem G0:zD prog vEo:=fA f226 yVz (e1 xO) (qD vLi)
def vA4:zE:=⟨[sP 3 0,sO 8 1,sO 9 2,sI 10],[oB jH,oA zG,oA .i],[(9,none,.i,false)]⟩
def yWr:zE:=sp [sP 3 0,sO 8 1,sO 9 2] [oB jH,oA zG,oA .i]
def yUa (f:qSj)(d:vA4.den):=(vF (f d.1.2.2.2.1.1) d.2.1) d.2.2.1 d.2.2.2.1
def QM:zT:=⟨[vA4],[(.exit 0,yWr)],qR3,fun k d=>yUa (Bh k k) d,fun b x _ K=>K (.exit 0) (zM b yWr (((),(),(),()),((vT x ()),x.2.2.2.2.1,x.2.2.2.2.2,())))⟩
def yFa:zE:=sp [sP 3 0,sO 8 1,sO 9 2,sI 11,sO 12 3,sI 13] [oB jH,oA zG,oA .i,oA .i]
def yS6:zE:=sp [sP 3 0,sO 8 1,sO 9 2,sI 11] [oB jH,oA zG,oA .i]
def yLn (f:qXo)(d:yFa.den):=(vF (f d.1.2.2.2.1.1 d.1.2.2.2.2.2.1.1) d.2.1) d.2.2.1 d.2.2.2.1 d.2.2.2.2.1
def qMs:zT:=⟨[yFa],[(.exit 4,yS6)],qSz,fun k d=>yLn (Gk k k) d,fun b x _ K=>K (.exit 4) (zM b yS6 (((),(),(),(x.1,()),()),((ij x ()),x.2.2.2.2.2.1,x.2.2.2.2.2.2,())))⟩
def yH1 (f:qQk)(d:yS6.den):=(vF (f d.1.2.2.2.1.1) d.2.1) d.2.2.1 d.2.2.2.1
def QN:zT:=⟨[yS6],[(.ret,yC0)],(Int×AC),fun k d=>yH1 (KG k k) d,fun b x _ K=>K .ret (zM b yC0 (((),(x.1,()),()),(x.2,())))⟩
def QO:zY:=⟨[],[(4,QM),(13,qMs),(9,QN)],[],false⟩
theorem aa6:zS prog 1000 0 58 (zQ (zR f225) 0) QM:=lp (A:=QO) QM (fun d=>(vT d.2.1 (d.2.2.1,d.2.2.2.1))) yUa Bh Gj (e4 BG xO G0 Lm) zF
theorem vY8:zS prog 1000 0 58 (zQ (zQ (zR f225) 1) 0) qMs:=lp (A:=QO) qMs (fun d=>(d.1.2.2.2.1.1,(vT d.2.1 (d.2.2.1,d.2.2.2.1)))) yLn Gk Gl (e4 BG xO G0 Lm) zF
theorem vWb:zS prog 1000 0 58 (zQ (zR f225) 1) QN:=lp (A:=QO) QN (fun d=>(d.1.2.1.1,d.2.1)) yH1 KG Gm (e4 BG xO G0 Lm) (qD vY8)
def vFm:=zJ 225 [.agg jN,.c (.dat false zG),.c .i] (.tup [(false,[.own .i]),(false,vC)]) (fun k d=>(jw (Pg k) d)) (fun x=>(x.1,x.2,())) (fun d=>(d.1,d.2.1))
theorem yHy:zD prog vFm:=fA f225 QO (e4 BG xO G0 Lm) (loopsOK_of (n:=2) (by kernel_rfl) fun i hi=>match i,hi with|0,_=>⟨QM,by kernel_rfl,aa6⟩|1,_=>⟨QN,by kernel_rfl,vWb⟩|i+2,hi=>absurd hi (by omega))
def vA2:zE:=sp [(1,.c (.dat true zG)),sP 6 0,sO 11 1,sP 12 2,sI 14] [oB nA,oA zG,oB wB]
def yO3:zE:=sp [(1,.c (.dat true zG)),sP 6 0,sO 11 1,sP 12 2] [oB nA,oA zG,oB wB]
def yQ3 (f:qJa)(d:vA2.den):=(vF (f d.1.1.1 d.1.2.2.2.2.1.1 d.2.2.1) d.2.2.2.1)
def qQt:zT:=⟨[vA2],[(.exit 0,yO3)],qI6,fun k d=>yQ3 (Bi k k) d,fun b x _ K=>K (.exit 0) (zM b yO3 (((x.1,()),(),(),(),()),((),x.2.1,(Bb x ()),())))⟩
def yR8:zY:=⟨[],[(7,qQt)],[],false⟩
theorem vY5:zS prog 1000 0 57 (zQ (zR f182) 0) qQt:=lp (A:=yR8) qQt (fun d=>(d.1.1.1,d.2.2.1,(gj d.2.2.2.1))) yQ3 Bi Gn (e5 yHy BG G0 qP1 lL) zF
def vP5:=zJ 182 [.agg kH,.c (.dat true zG),.c .i] (.tup [(true,mG),(false,[.fro zG]),(false,[.own zG])]) (fun k d=>(jw (KH k) d)) (fun x=>(nB x ())) (fun d=>(mH d))
theorem vN0:zD prog vP5:=fA f182 yR8 (e5 yHy BG G0 qP1 lL) (qD vY5)
def aa7:=zJ 115 [.agg kH,.c (.dat true zG),.c .i,.c .bool] (.tup [(true,mG),(false,[.fro zG]),(false,[.own zG])]) (fun k d=>(lK (Ph k) d)) (fun x=>(nB x ())) (fun d=>(mH d))
theorem aa8:zD prog aa7:=fA f115 ⟨[],[],[],false⟩ (e2 vRi vN0) zF
def yI9:zE:=⟨[(0,.c (.dat false zG)),sO 3 0,sI 4],[oA yI],[(3,none,yI,false)]⟩
def yL0 (f:qXi)(d:yI9.den):=f d.1.1.1 d.1.2.2.1.1 d.2.1
def qSv:zT:=⟨[yI9],[(.exit 0,yWa)],qVy,fun k d=>yL0 (JT k k) d,fun b x _ K=>K (.exit 0) (zM b yWa (((),()),(x,())))⟩
def yNj:zY:=⟨[],[(3,qSv)],[],false⟩
theorem vNb:zS prog 1000 0 39 (zQ (zR f116) 0) qSv:=lp (A:=yNj) qSv (fun d=>d.2.1) yL0 JT Fm (e1 uj) zF
def vSp:=zJ 116 [.c (.dat false zG)] (.c (.own yI)) (fun k d=>Oz k d.1) (fun x=>(x,())) (fun d=>d.1)
theorem vKk:zD prog vSp:=fA f116 yNj (e1 uj) (qD vNb)
def vI1:=zJ 55 [.agg xD,.c .bool] (.tup [(true,xE),(false,[.own yI])]) (fun k d=>(Lg (nv k) d)) (fun x=>(GW x ())) (fun d=>(GX d))
theorem Ln:zD prog vI1:=fA f55 ⟨[],[],[],false⟩ (e2 aa8 vKk) zF
def yDq:zE:=⟨[sP 3 0,sP 4 1,sO 6 2,(7,.c (.dat true zG)),sI 8],[oB gi,oB fq,oA yI],[(6,none,yI,false)]⟩
def yUm:zE:=sp [sP 3 0,sP 4 1,sO 6 2] [oB gi,oB fq,oA yI]
def yIa (f:qOe)(d:yDq.den):=f d.1.2.2.2.1.1 d.1.2.2.2.2.1.1 (qS d.2.1) (d.2.2.1.1,d.2.2.1.2.1,d.2.2.1.2.2.1) d.2.2.2.1
def QP:zT:=⟨[yDq],[(.exit 0,yUm)],qPf,fun k d=>yIa (xo k k) d,fun b x _ K=>K (.exit 0) (zM b yUm (((),(),(),()),((wO x.1 ()),(x.2.1.1,x.2.1.2.1,x.2.1.2.2,()),x.2.2,())))⟩
def yTu:zE:=sp [sP 3 0,sP 4 1,sO 6 2,sI 9] [oB gi,oB fq,oA yI]
def yH0 (f:qWb)(d:yTu.den):=f d.1.2.2.2.1.1 (qS d.2.1) (d.2.2.1.1,d.2.2.1.2.1,d.2.2.1.2.2.1) d.2.2.2.1
def QQ:zT:=⟨[yTu],[(.exit 2,yUm)],qPf,fun k d=>yH0 (xp k k) d,fun b x _ K=>K (.exit 2) (zM b yUm (((),(),(),()),((wO x.1 ()),(x.2.1.1,x.2.1.2.1,x.2.1.2.2,()),x.2.2,())))⟩
def yT7:zE:=⟨[sP 2 0,sP 3 1,sP 4 2,sO 6 3,(7,.c (.dat true zG)),sI 10],[oB xN,oB gi,oB fq,oA yI],[(6,none,yI,false)]⟩
def vC7:zE:=sp [sP 2 0,sP 3 1,sP 4 2,sO 6 3] [oB xN,oB gi,oB fq,oA yI]
def yU9 (f:qM4)(d:yT7.den):=f d.1.2.2.2.2.1.1 d.1.2.2.2.2.2.1.1 (yR d.2.1) (qS d.2.2.1) (d.2.2.2.1.1,d.2.2.2.1.2.1,d.2.2.2.1.2.2.1) d.2.2.2.2.1
def QR:zT:=⟨[yT7],[(.exit 4,vC7)],qQd,fun k d=>yU9 (ud k k) d,fun b x _ K=>K (.exit 4) (zM b vC7 (((),(),(),(),()),((jD x.1 ()),(wO x.2.1 ()),(x.2.2.1.1,x.2.2.1.2.1,x.2.2.1.2.2,()),x.2.2.2,())))⟩
def QS:zY:=⟨[],[(8,QP),(12,QQ),(18,QR)],[],true⟩
theorem aa9:zS prog 1000 0 129 (zQ (zR f53) 0) QP:=lp (A:=QS) QP (fun d=>((qS d.2.1),(d.2.2.1.1,d.2.2.1.2.1,d.2.2.1.2.2.1),d.2.2.2.1)) yIa xo Gq (e6 QG uj QH lL QJ Ln) zF
theorem vP2:zS prog 1000 0 129 (zQ (zR f53) 1) QQ:=lp (A:=QS) QQ (fun d=>((qS d.2.1),(d.2.2.1.1,d.2.2.1.2.1,d.2.2.1.2.2.1),d.2.2.2.1)) yH0 xp Gr (e6 QG uj QH lL QJ Ln) zF
theorem vKz:zS prog 1000 0 129 (zQ (zR f53) 2) QR:=lp (A:=QS) QR (fun d=>((yR d.2.1),(qS d.2.2.1),(d.2.2.2.1.1,d.2.2.2.1.2.1,d.2.2.2.1.2.2.1),d.2.2.2.2.1)) yU9 ud Gs (e6 QG uj QH lL QJ Ln) zF
def vMi:=zJ 53 [.agg Qs,.agg xD] (.tup [(true,xE),(false,[.own yI])]) (fun k d=>Gt k (yR d) (ui d)) (fun x=>(wO x.1 (x.2,()))) (fun d=>((qS d),d.2.2.2.2.2.2.2.2.2.2.2.1))
theorem vLd:zD prog vMi:=fA f53 QS (e6 QG uj QH lL QJ Ln) (loopsOK_of (n:=3) (by kernel_rfl) fun i hi=>match i,hi with|0,_=>⟨QP,by kernel_rfl,aa9⟩|1,_=>⟨QQ,by kernel_rfl,vP2⟩|2,_=>⟨QR,by kernel_rfl,vKz⟩|i+3,hi=>absurd hi (by omega))
def vVu:=zJ 168 [.ptr yZ7,.c .i] (.c .i) (fun k d=>tZ k (Qm d) d.2.2.2.2.2.2.2.2.2.2.2.2.2.2.2.2.2.2.2.1) (fun x=>(x,())) (fun d=>d.1)
theorem qUh:zD prog vVu:=fA f168 n0 e0 zF
def vP9:=zJ 175 [.agg ju,.c .i,.c .i] (.c .i) (fun k d=>F5 k (yR d) d.2.2.2.2.2.1 d.2.2.2.2.2.2.1) (fun x=>(x,())) (fun d=>d.1)
theorem yBq:zD prog vP9:=fA f175 n0 e0 zF
def vF7:=zJ 169 [.agg ju,.c .i,.agg vL] (.c .i) (fun k d=>Bd k (yR d) d.2.2.2.2.2.1 (Zu d)) (fun x=>(x,())) (fun d=>d.1)
theorem vV0:zD prog vF7:=fA f169 n0 (e1 yBq) zF
def ySw:zE:=sp [(0,.c (.dat false .i)),sI 1,sI 5] []
def vAi (f:Zn)(d:ySw.den):=f d.1.1.1 d.1.2.1.1 d.1.2.2.1.1
def qR7:zT:=⟨[ySw],[(.exit 0,yQs),(.ret,yP1)],(Unit⊕Bool),fun k d=>vAi (FV k k) d,fun b x _ K=>match x with|.inl x=>K (.exit 0) (zM b yQs ((),()))|.inr x=>K .ret (zM b yP1 (((x,()),()),()))⟩
def yEx:zY:=⟨[],[(2,qR7)],[],true⟩
theorem aba:zS prog 1000 0 18 (zQ (zR f215) 0) qR7:=lp (A:=yEx) qR7 (fun d=>match d with|.inl d=>.inl ()|.inr d=>.inr d.1.1.1) vAi FV FW e0 zF
def vFl:=zJ 215 [.c (.dat false .i),.c .i] (.c .bool) (fun k d=>O1 k d.1 d.2.1) (fun x=>(x,())) (fun d=>d.1)
theorem yUl:zD prog vFl:=fA f215 yEx e0 (qD aba)
def yHv:zE:=sp [(0,.c (.dat true .i)),sI 1,sI 6] []
def yDh (f:qRu)(d:yHv.den):=f d.1.1.1 d.1.2.1.1 d.1.2.2.1.1
def qP3:zT:=⟨[yHv],[(.exit 0,yHv)],(AC×Int×Int),fun k d=>yDh (Kt k k) d,fun b x _ K=>K (.exit 0) (zM b yHv (((x.1,()),(x.2.1,()),(x.2.2,()),()),()))⟩
def yVa:zY:=⟨[],[(6,qP3)],[],true⟩
theorem vKu:zS prog 1000 0 41 (zQ (zR f170) 0) qP3:=lp (A:=yVa) qP3 (fun d=>(d.1.1.1,d.1.2.1.1,d.1.2.2.1.1)) yDh Kt FX (e1 yUl) zF
def vEl:=zJ 170 [.c (.dat true .i),.c .i] (.tup [(false,[.fro .i]),(false,vC)]) (fun k d=>Ba k d.1 d.2.1) (fun x=>(x.1,x.2,())) (fun d=>(d.1,d.2.1))
theorem vTj:zD prog vEl:=fA f170 yVa (e1 yUl) (qD vKu)
def vXu:=zJ 218 [.agg vL,.agg vL] (.c .bool) (fun k d=>(GQ (Km k) d)) (fun x=>(x,())) (fun d=>d.1)
theorem QT:zD prog vXu:=fA f218 ⟨[],[],[],false⟩ e0 zF
def yGw:zE:=sp [(0,.c (.dat false zG)),sP 3 0,sI 5] [oB wR]
def yDm (f:qRb)(d:yGw.den):=(lK (f d.1.1.1 d.1.2.2.1.1) d.2.1)
def qVr:zT:=⟨[yGw],[(.exit 0,vBg)],Int,fun k d=>yDm (FR k k) d,fun b x _ K=>K (.exit 0) (zM b vBg (((x,()),()),()))⟩
def yNt:zY:=⟨[],[(2,qVr)],[],false⟩
theorem vYq:zS prog 1000 0 21 (zQ (zR f217) 0) qVr:=lp (A:=yNt) qVr (fun d=>d.1.1.1) yDm FR FT (e1 QT) zF
def vP8:=zJ 217 [.c (.dat false zG),.agg vL] (.c .i) (fun k d=>(lJ (FQ k) d)) (fun x=>(x,())) (fun d=>d.1)
theorem qWc:zD prog vP8:=fA f217 yNt (e1 QT) (qD vYq)
def vZy:=zJ 216 [.c (.dat false zG),.c .i,.agg vL] (.c (.own zG)) (fun k d=>(Qi (A8 k) d)) (fun x=>(x,())) (fun d=>d.1)
theorem Lp:zD prog vZy:=fA f216 ⟨[],[],[],false⟩ e0 zF
def abb:=zJ 171 [.c (.dat true zG),.agg vL] (.tup [(false,[.fro zG]),(false,vC)]) (fun k d=>(lJ (A9 k) d)) (fun x=>(x.1,x.2,())) (fun d=>(d.1,d.2.1))
theorem vDs:zD prog abb:=fA f171 ⟨[],[],[],false⟩ (e3 QI qWc Lp) zF
def abc:=yW 109 [.ptr true BH,.agg La] (.c .i) [BI] 0 (fun k d=>O6 k (yB d d.2.2.2.2.2.2.2.2.2.2.2.2.2.2.2.2.2.2.1) (vQb d)) (fun x=>(x.1,(xL x.2 ()))) (fun d=>(d.1,(BJ d)))
theorem vXv:zD prog abc:=fX f109 n0 1 (e4 qUh vV0 vTj vDs) zF
def abd:=zJ 172 [.ptr yZ7,.c .i] (.tup [(true,pH),(false,[.bool])]) (fun k d=>yC9 k (Qm d) d.2.2.2.2.2.2.2.2.2.2.2.2.2.2.2.2.2.2.2.1) (fun x=>(ie x.1 (x.2,()))) (fun d=>((wF d),d.2.2.2.2.2.2.2.1))
theorem vL4:zD prog abd:=fA f172 n0 (e1 QI) zF
def yR7:zE:=sp [(6,.c (.dat true zG)),sP 7 0,sI 9] [oB wR]
def yXw (f:ZJ)(d:yR7.den):=f d.1.1.1 d.1.2.2.1.1 (wF d.2.1)
def qO2:zT:=⟨[yR7],[(.exit 0,yR7)],ZL,fun k d=>yXw (Ks k k) d,fun b x _ K=>K (.exit 0) (zM b yR7 (((x.1,()),(),(x.2.1,()),()),((ie x.2.2 ()),())))⟩
def yEz:zY:=⟨[],[(5,qO2)],[],true⟩
theorem vWa:zS prog 1000 0 40 (zQ (zR f173) 0) qO2:=lp (A:=yEz) qO2 (fun d=>(d.1.1.1,d.1.2.2.1.1,(wF d.2.1))) yXw Ks FU (e3 lL QT Lp) zF
def vQq:=zJ 173 [.c (.dat true zG),.c .i] (.tup [(false,[.fro zG]),(false,vC)]) (fun k d=>Kr k d.1 d.2.1) (fun x=>(x.1,x.2,())) (fun d=>(d.1,d.2.1))
theorem vVs:zD prog vQq:=fA f173 yEz (e3 lL QT Lp) (qD vWa)
def vDy:=zJ 174 [.c (.dat true zG),.c .i] (.tup [(false,[.fro zG]),(false,vC)]) (fun k d=>Kq k d.1 d.2.1) (fun x=>(x.1,x.2,())) (fun d=>(d.1,d.2.1))
theorem abe:zD prog vDy:=fA f174 n0 (e3 lL qWc Lp) zF
def vJ2:=zJ 176 [.c (.dat true zG),.c .i,.c .i] (.tup [(false,[.fro zG]),(false,vC)]) (fun k d=>Kp k d.1 d.2.1 d.2.2.1) (fun x=>(x.1,x.2,())) (fun d=>(d.1,d.2.1))
theorem vEw:zD prog vJ2:=fA f176 n0 (e3 lL qWc Lp) zF
def vEi:=yW 110 [.ptr true BH,.c (.p .i),.agg La] (.c .i) [BI] 0 (fun k d=>Bf k (yB d d.2.2.2.2.2.2.2.2.2.2.2.2.2.2.2.2.2.2.1) d.2.2.2.2.2.2.2.2.2.2.2.2.2.2.2.2.2.2.2.1 (vCu d)) (fun x=>(x.1,(xL x.2 ()))) (fun d=>(d.1,(BJ d)))
theorem vK2:zD prog vEi:=fX f110 n0 1 (e7 vL4 lL uj vVs abe yBq vEw) zF
def vW8:=yW 111 [.ptr true BH,.c (.p .i),.agg La] (.c .i) [BI] 0 (fun k d=>Bg k (yB d d.2.2.2.2.2.2.2.2.2.2.2.2.2.2.2.2.2.2.1) d.2.2.2.2.2.2.2.2.2.2.2.2.2.2.2.2.2.2.2.1 (vCu d)) (fun x=>(x.1,(xL x.2 ()))) (fun d=>(d.1,(BJ d)))
theorem abf:zD prog vW8:=fX f111 n0 1 (e2 xP qUh) zF
def vPr:=zJ 178 [.c (.dat false .i),.c .i,.c .i] (.c (.own .i)) (fun k d=>ua k d.1 d.2.1 d.2.2.1) (fun x=>(x,())) (fun d=>d.1)
theorem qJg:zD prog vPr:=fA f178 n0 e0 zF
def abg:=zJ 283 [.c .i] (.c (.own .i)) (fun k d=>OT k d.1) (fun x=>(x,())) (fun d=>d.1)
theorem qOm:zD prog abg:=fA f283 n0 e0 zF
def yN8:zE:=sp [sO 0 0,sI 3] [oA .i]
def vBx:zE:=sp [sO 0 0] [oA .i]
def yYu (f:Int→AC→Option AC)(d:yN8.den):=f d.1.2.1.1 d.2.1
def qYo:zT:=⟨[yN8],[(.exit 0,vBx)],AC,fun k d=>yYu (qSx k k) d,fun b x _ K=>K (.exit 0) (zM b vBx (((),()),(x,())))⟩
def yYy:zY:=⟨[],[(2,qYo)],[],true⟩
theorem vE8:zS prog 1000 0 35 (zQ (zR f284) 0) qYo:=lp (A:=yYy) qYo (fun d=>d.2.1) yYu qSx ySm e0 zF
def vEt:=yW 284 [.c (.own .i)] (.c (.own .i)) [] 0 (fun k d=>FK k d.1) (fun x=>(x,())) (fun d=>d.1)
theorem Lq:zD prog vEt:=fX f284 yYy 0 e0 (qD vE8)
def yVp:zE:=sp [sI 1,sO 5 0,sO 6 1,sI 7,sI 8] [oA .i,oA .i]
def yFf:zE:=sp [sI 1,sO 5 0,sO 6 1,sI 7] [oA .i,oA .i]
def yRp (f:qT1)(d:yVp.den):=f d.1.1.1 d.1.2.2.2.1.1 d.1.2.2.2.2.1.1 d.2.1 d.2.2.1
def qTu:zT:=⟨[yVp],[(.exit 2,yFf)],qTl,fun k d=>yRp (qLg k k) d,fun b x _ K=>K (.exit 2) (zM b yFf (((x.1,()),(),(),(x.2.1,()),()),(x.2.2.1,x.2.2.2,())))⟩
def yYh (f:qSd)(d:yFf.den):=f d.1.1.1 d.1.2.2.2.1.1 d.2.1 d.2.2.1
def qQo:zT:=⟨[yFf],[(.exit 0,yDd)],AC,fun k d=>yYh (OQ k k) d,fun b x _ K=>K (.exit 0) (zM b yDd (((),()),(x,())))⟩
def qY6:zY:=⟨[],[(7,qTu),(4,qQo)],[],true⟩
theorem vS0:zS prog 1000 0 47 (zQ (zQ (zR f253) 0) 0) qTu:=lp (A:=qY6) qTu (fun d=>(d.1.1.1,d.1.2.2.2.1.1,d.2.1,d.2.2.1)) yRp qLg yFe (e2 qOm Lq) zF
theorem abh:zS prog 1000 0 47 (zQ (zR f253) 0) qQo:=lp (A:=qY6) qQo (fun d=>d.2.1) yYh OQ yO0 (e2 qOm Lq) (qD vS0)
def vNz:=zJ 253 [.c .i,.c .i] (.c (.own .i)) (fun k d=>OR k d.1 d.2.1) (fun x=>(x,())) (fun d=>d.1)
theorem vM5:zD prog vNz:=fA f253 qY6 (e2 qOm Lq) (qD abh)
def yR2:zE:=sp [sO 0 0,sI 1,sI 5] [oA .i]
def yZo (f:Int→Int→AC→Option AC)(d:yR2.den):=f d.1.2.1.1 d.1.2.2.1.1 d.2.1
def qVp:zT:=⟨[yR2],[(.exit 0,vBx)],AC,fun k d=>yZo (OO k k) d,fun b x _ K=>K (.exit 0) (zM b vBx (((),()),(x,())))⟩
def yMc:zY:=⟨[],[(2,qVp)],[],true⟩
theorem vZg:zS prog 1000 0 23 (zQ (zR f254) 0) qVp:=lp (A:=yMc) qVp (fun d=>d.2.1) yZo OO yW2 (e1 Lq) zF
def vSs:=yW 254 [.c (.own .i),.c (.p .i)] (.c (.own .i)) [] 0 (fun k d=>ON k d.1 d.2.1) (fun x=>(x,())) (fun d=>d.1)
theorem vQ9:zD prog vSs:=fX f254 yMc 0 (e1 Lq) (qD vZg)
def ySs:zE:=sp [sO 0 0,sI 1,sI 6,sI 7] [oA .i]
def yZ6 (f:Yx)(d:ySs.den):=f d.1.2.1.1 d.1.2.2.1.1 d.1.2.2.2.1.1 d.2.1
def QU:zT:=⟨[ySs],[(.exit 0,vBx)],AC,fun k d=>yZ6 (Ki k k) d,fun b x _ K=>K (.exit 0) (zM b vBx (((),()),(x,())))⟩
def yZb:zE:=sp [sO 0 0,sI 9] [oA .i]
def yLh:zE:=sp [sI 4,(5,.c .bool)] []
def yOy (f:qJj)(d:yZb.den):=f d.1.2.1.1 d.2.1
def QV:zT:=⟨[yZb],[(.exit 2,vBx),(.ret,yLh)],(AC⊕jY),fun k d=>yOy (FL k k) d,fun b x _ K=>match x with|.inl x=>K (.exit 2) (zM b vBx (((),()),(x,())))|.inr x=>K .ret (zM b yLh (((x.1,()),(x.2,()),()),()))⟩
def qQ2:zY:=⟨[],[(3,QU),(9,QV)],[],true⟩
theorem vFe:zS prog 1000 0 66 (zQ (zR f255) 0) QU:=lp (A:=qQ2) QU (fun d=>d.2.1) yZ6 Ki yZ8 e0 zF
theorem vF8:zS prog 1000 0 66 (zQ (zR f255) 1) QV:=lp (A:=qQ2) QV (fun d=>match d with|.inl d=>.inl d.2.1|.inr d=>.inr (d.1.1.1,d.1.2.1.1)) yOy FL yLy e0 zF
def abi:=yW 255 [.c (.own .i),.c (.p .i)] (.tup [(false,vC),(false,[.bool])]) [] 0 (fun k d=>OP k d.1 d.2.1) (fun x=>(x.1,x.2,())) (fun d=>(d.1,d.2.1))
theorem vPw:zD prog abi:=fX f255 qQ2 0 e0 (loopsOK_of (n:=2) (by kernel_rfl) fun i hi=>match i,hi with|0,_=>⟨QU,by kernel_rfl,vFe⟩|1,_=>⟨QV,by kernel_rfl,vF8⟩|i+2,hi=>absurd hi (by omega))
def vJ6:=zJ 220 [.c .i,.c .i,.c .i] (.tup [(false,vC),(false,[.bool])]) (fun k d=>OZ k d.1 d.2.1 d.2.2.1) (fun x=>(x.1,x.2,())) (fun d=>(d.1,d.2.1))
theorem ySx:zD prog vJ6:=fA f220 n0 (e3 vM5 vQ9 vPw) zF
def vWs:=zJ 221 [.c .i,.c .i] (.tup [(false,vC),(false,[.bool])]) (fun k d=>FN k d.1 d.2.1) (fun x=>(x.1,x.2,())) (fun d=>(d.1,d.2.1))
theorem qNp:zD prog vWs:=fA f221 n0 e0 zF
def yOf:zE:=sp [(0,.c (.dat false jK)),(1,.c (.dat false .i)),(2,.c (.dat false .i)),sI 8,sI 9] []
def yVe:zE:=sp [sI 8] []
def yL2 (f:yAz)(d:yOf.den):=f d.1.1.1 d.1.2.1.1 d.1.2.2.1.1 d.1.2.2.2.1.1 d.1.2.2.2.2.1.1
def qSk:zT:=⟨[yOf],[(.exit 0,yVe),(.ret,yH2)],(Int⊕jY),fun k d=>yL2 (Kn k k) d,fun b x _ K=>match x with|.inl x=>K (.exit 0) (zM b yVe (((x,()),()),()))|.inr x=>K .ret (zM b yH2 (((x.1,()),(x.2,()),()),()))⟩
def yNc:zY:=⟨[],[(5,qSk)],[],true⟩
theorem vT0:zS prog 1000 0 63 (zQ (zR f179) 0) qSk:=lp (A:=yNc) qSk (fun d=>match d with|.inl d=>.inl d.1.1.1|.inr d=>.inr (d.1.1.1,d.1.2.1.1)) yL2 Kn FO (e2 ySx qNp) zF
def vYc:=zJ 179 [.c (.dat false jK),.c (.dat false .i),.c (.dat false .i)] (.tup [(false,vC),(false,[.bool])]) (fun k d=>A7 k d.1 d.2.1 d.2.2.1) (fun x=>(x.1,x.2,())) (fun d=>(d.1,d.2.1))
theorem qSu:zD prog vYc:=fA f179 yNc (e2 ySx qNp) (qD vT0)
def vMd:=yW 112 [.ptr true BH,.c (.p .i),.c (.p .i)] (.c .i) [BI] 0 (fun k d=>O8 k (yB d d.2.2.2.2.2.2.2.2.2.2.2.2.2.2.2.2.2.2.1) d.2.2.2.2.2.2.2.2.2.2.2.2.2.2.2.2.2.2.2.1 d.2.2.2.2.2.2.2.2.2.2.2.2.2.2.2.2.2.2.2.2.1) (fun x=>(x.1,(xL x.2 ()))) (fun d=>(d.1,(BJ d)))
theorem vJv:zD prog vMd:=fX f112 n0 1 (e3 qJg qSu xP) zF
def vC8:=zJ 180 [.agg nz,.c .i] (.tup [(true,[.i,.i,.i]),(false,vC)]) (fun k d=>F6 k (d.1,d.2.1,d.2.2.1) d.2.2.2.1) (fun x=>(x.1.1,x.1.2.1,x.1.2.2,x.2,())) (fun d=>((d.1,d.2.1,d.2.2.1),d.2.2.2.1))
theorem vYe:zD prog vC8:=fA f180 n0 (e2 qNp QL) zF
def vUm:=yW 113 [.ptr true BH,.c (.p .bool),.c (.p .i),.c (.p .i)] (.c .i) [BI] 0 (fun k d=>F7 k (yB d d.2.2.2.2.2.2.2.2.2.2.2.2.2.2.2.2.2.2.1) d.2.2.2.2.2.2.2.2.2.2.2.2.2.2.2.2.2.2.2.1 d.2.2.2.2.2.2.2.2.2.2.2.2.2.2.2.2.2.2.2.2.1 d.2.2.2.2.2.2.2.2.2.2.2.2.2.2.2.2.2.2.2.2.2.1) (fun x=>(x.1,(xL x.2 ()))) (fun d=>(d.1,(BJ d)))
theorem vDu:zD prog vUm:=fX f113 n0 1 (e3 qUh xP vYe) zF
def yU7:zE:=sp [sP 0 0,sO 7 1,sP 8 2,sI 9] [oB qSw,oA .i,oB rW,oA qX,.mat,oA .i,.mat]
def yZl:zE:=sp [sP 0 0,sO 7 1,sP 8 2] [oB qSw,oA .i,oB rW,oA qX,.mat,oA .i,.mat]
def yZm:zE:=sp [sP 0 0,sI 6] [oB qSw]
def yR1 (f:qYh)(d:yU7.den):=f d.1.2.2.2.1.1 (ft d.2.1) d.2.2.1 d.2.2.2.2.1 d.2.2.2.2.2.1 d.2.2.2.2.2.2.1 d.2.2.2.2.2.2.2.1
def qWw:zT:=⟨[yU7],[(.exit 0,yZl),(.ret,yZm)],qOc,fun k d=>yR1 (ub k k) d,fun b x _ K=>match x with|.inl x=>K (.exit 0) (zM b yZl (((),(),(),()),((jL x.1 ()),x.2.1,(),x.2.2.1,x.2.2.2.1,x.2.2.2.2.1,x.2.2.2.2.2,())))|.inr x=>K .ret (zM b yZm (((),(x.1,()),()),((jL x.2 ()),())))⟩
def yFs:zY:=⟨[],[(6,qWw)],[],true⟩
theorem abj:zS prog 1000 1 93 (zQ (zR f114) 0) qWw:=lp (A:=yFs) qWw (fun d=>match d with|.inl d=>.inl ((ft d.2.1),d.2.2.1,d.2.2.2.2.1,d.2.2.2.2.2.1,d.2.2.2.2.2.2.1,d.2.2.2.2.2.2.2.1)|.inr d=>.inr (d.1.2.1.1,(ft d.2.1))) yR1 ub F8 (e3 qJg xP qSu) zF
def vKb:=yW 114 [.ptr true BH,.c (.p .i),.c (.p .i)] (.c .i) [BI] 0 (fun k d=>O9 k (yB d d.2.2.2.2.2.2.2.2.2.2.2.2.2.2.2.2.2.2.1) d.2.2.2.2.2.2.2.2.2.2.2.2.2.2.2.2.2.2.2.1 d.2.2.2.2.2.2.2.2.2.2.2.2.2.2.2.2.2.2.2.2.1) (fun x=>(x.1,(xL x.2 ()))) (fun d=>(d.1,(BJ d)))
theorem vOl:zD prog vKb:=fX f114 yFs 1 (e3 qJg xP qSu) (qD abj)
def vI4:=yW 54 [.ptr true BH,.agg vL] (.c .i) [BI] 0 (fun k d=>xr k (yB d d.2.2.2.2.2.2.2.2.2.2.2.2.2.2.2.2.2.2.1) (vF4 d)) (fun x=>(x.1,(xL x.2 ()))) (fun d=>(d.1,(BJ d)))
theorem vSa:zD prog vI4:=fX f54 n0 1 (e6 vXv vK2 abf vJv vDu vOl) zF
def qTc:=zJ 15 [.agg Qs,.agg xD,.agg GP] (.tup [(true,xE),(false,[.own yI]),(false,vC)]) (fun k d=>xu k (yR d) (ui d) (Zp d)) (fun x=>(wO x.1 (x.2.1,x.2.2,()))) (fun d=>((qS d),d.2.2.2.2.2.2.2.2.2.2.2.1,d.2.2.2.2.2.2.2.2.2.2.2.2.1))
theorem vO0:zD prog qTc:=fA f15 n0 (e7 vRx xO uj vLd vSa Ln QI) zF
def qLd:=yW 18 [.chn [Qz,QA,mF]] (.agg xE) [QB,QC,kG] 0 (fun k d=>BB k (jv d) (QD d) (QE d)) (fun x=>(wO x.1 ((),(jL x.2.1 ((),(gF x.2.2.1 (jt x.2.2.2 ()))))))) (fun d=>((qS d),(vTx d),(vKa d),(vHj d)))
theorem yQ1:zD prog qLd:=fX f18 n0 0 e0 zF
def yJh:zE:=sp [(0,.c (.dat false .i)),(1,.c (.dat false .i)),sI 5] []
def vAf (f:qPt)(d:yJh.den):=f d.1.1.1 d.1.2.1.1 d.1.2.2.1.1
def qIi:zT:=⟨[yJh],[(.exit 0,yQs),(.ret,yP1)],(Unit⊕Bool),fun k d=>vAf (IV k k) d,fun b x _ K=>match x with|.inl x=>K (.exit 0) (zM b yQs ((),()))|.inr x=>K .ret (zM b yP1 (((x,()),()),()))⟩
def yDx:zY:=⟨[],[(4,qIi)],[],false⟩
theorem vI7:zS prog 1000 0 26 (zQ (zR f58) 0) qIi:=lp (A:=yDx) qIi (fun d=>match d with|.inl d=>.inl ()|.inr d=>.inr d.1.1.1) vAf IV DN e0 zF
def qJy:=zJ 58 [.c (.dat false .i),.c (.dat false .i)] (.c .bool) (fun k d=>tx k d.1 d.2.1) (fun x=>(x,())) (fun d=>d.1)
theorem QW:zD prog qJy:=fA f58 yDx e0 (qD vI7)
def yU1:zE:=sp [(0,.c (.dat false (.sl .i))),(1,.c (.dat false (.sl .i))),sI 5] []
def yJi (f:qXp)(d:yU1.den):=f d.1.1.1 d.1.2.1.1 d.1.2.2.1.1
def qIr:zT:=⟨[yU1],[(.exit 0,yQs),(.ret,yP1)],(Unit⊕Bool),fun k d=>yJi (IW k k) d,fun b x _ K=>match x with|.inl x=>K (.exit 0) (zM b yQs ((),()))|.inr x=>K .ret (zM b yP1 (((x,()),()),()))⟩
def vAo:zY:=⟨[],[(4,qIr)],[],false⟩
theorem abk:zS prog 1000 0 27 (zQ (zR f59) 0) qIr:=lp (A:=vAo) qIr (fun d=>match d with|.inl d=>.inl ()|.inr d=>.inr d.1.1.1) yJi IW DO (e1 QW) zF
def qUz:=zJ 59 [.c (.dat false (.sl .i)),.c (.dat false (.sl .i))] (.c .bool) (fun k d=>Aw k d.1 d.2.1) (fun x=>(x,())) (fun d=>d.1)
theorem yGd:zD prog qUz:=fA f59 vAo (e1 QW) (qD abk)
def yWp:zE:=sp [sP 2 0,sP 3 1,sI 5] [oB jH,oB jH]
def yIx (f:qMh)(d:yWp.den):=(vF (vF (f d.1.2.2.1.1) d.2.1) d.2.2.1)
def qPi:zT:=⟨[yWp],[(.exit 0,yQs),(.ret,yP1)],(Unit⊕Bool),fun k d=>yIx (IY k k) d,fun b x _ K=>match x with|.inl x=>K (.exit 0) (zM b yQs ((),()))|.inr x=>K .ret (zM b yP1 (((x,()),()),()))⟩
def vG2:Env:=⟨prog,fun t=>[119].any (Nat.beq t),fg [qUz,qJy]⟩
theorem ySp:jJ vG2:=MV (l:=[qUz,qJy]) (eqT:=fun t=>[119].any (Nat.beq t)) (Sf (fun t h=>TR (p:=fun t=>prog.keyTypeAt 8 t&& !prog.eqGuardType prog.depth t) (l:=[119]) (List.forall_mem_cons.2 ⟨by kernel_rfl,List.forall_mem_nil _⟩) t h)) gE ⟨yGd,QW,trivial⟩
def yOj:zY:=⟨[],[(4,qPi)],[],false⟩
theorem vZr:zS prog 1000 0 55 (zQ (zR f57) 0) qPi:=lp (A:=yOj) qPi (fun d=>match d with|.inl d=>.inl ()|.inr d=>.inr d.1.1.1) yIx IY DP ySp zF
def vD6:=zJ 57 [.agg jN,.agg jN] (.c .bool) (fun k d=>(lJ (IX k) d)) (fun x=>(x,())) (fun d=>d.1)
theorem vR8:zD prog vD6:=fA f57 yOj ySp (qD vZr)
def yKg:zE:=sp [(0,.c (.dat false zG)),(1,.c (.dat false zG)),sI 5] []
def vA0 (f:qY3)(d:yKg.den):=f d.1.1.1 d.1.2.1.1 d.1.2.2.1.1
def qKk:zT:=⟨[yKg],[(.exit 0,yQs),(.ret,yP1)],(Unit⊕Bool),fun k d=>vA0 (KW k k) d,fun b x _ K=>match x with|.inl x=>K (.exit 0) (zM b yQs ((),()))|.inr x=>K .ret (zM b yP1 (((x,()),()),()))⟩
def abl:Env:=⟨prog,fun t=>[142].any (Nat.beq t),fg []⟩
theorem yTb:jJ abl:=MV (l:=[]) (eqT:=fun t=>[142].any (Nat.beq t)) (Sf (fun t h=>TR (p:=fun t=>prog.keyTypeAt 8 t&& !prog.eqGuardType prog.depth t) (l:=[142]) (List.forall_mem_cons.2 ⟨by kernel_rfl,List.forall_mem_nil _⟩) t h)) gE trivial
def yTl:zY:=⟨[],[(4,qKk)],[],false⟩
theorem vY2:zS prog 1000 0 26 (zQ (zR f60) 0) qKk:=lp (A:=yTl) qKk (fun d=>match d with|.inl d=>.inl ()|.inr d=>.inr d.1.1.1) vA0 KW GG yTb zF
def vNj:=zJ 60 [.c (.dat false zG),.c (.dat false zG)] (.c .bool) (fun k d=>KV k d.1 d.2.1) (fun x=>(x,())) (fun d=>d.1)
theorem vLo:zD prog vNj:=fA f60 yTl yTb (qD vY2)
def qJk:=zJ 17 [.agg pI,.agg pI] (.c .bool) (fun k d=>Px k (qS d) (vUg d)) (fun x=>(x,())) (fun d=>d.1)
theorem vTk:zD prog qJk:=fA f17 n0 (e4 vR8 QW yGd vLo) zF
def yHl:zE:=sp [(0,.c (.dat false .i)),sO 3 0,sI 4,sI 5] [oA (.int .u8)]
def yJz:zE:=sp [(0,.c (.dat false .i)),sO 3 0,sI 4] [oA (.int .u8)]
def vBk (f:qIu)(d:yHl.den):=f d.1.1.1 d.1.2.2.1.1 d.1.2.2.2.1.1 d.2.1
def qZ4:zT:=⟨[yHl],[(.exit 2,yJz)],Yt,fun k d=>vBk (J4 k k) d,fun b x _ K=>K (.exit 2) (zM b yJz (((x.1,()),(),(x.2.1,()),()),(x.2.2,())))⟩
def yR6 (f:yY5)(d:yJz.den):=f d.1.1.1 d.1.2.2.1.1 d.2.1
def qZy:zT:=⟨[yJz],[(.exit 0,yQ0)],AC,fun k d=>yR6 (A4 k k) d,fun b x _ K=>K (.exit 0) (zM b yQ0 (((),()),(x,())))⟩
def qQv:zY:=⟨[],[(6,qZ4),(3,qZy)],[],true⟩
theorem vM8:zS prog 1000 0 30 (zQ (zQ (zR f28) 0) 0) qZ4:=lp (A:=qQv) qZ4 (fun d=>(d.1.1.1,d.1.2.2.1.1,d.2.1)) vBk J4 OM e0 zF
theorem vWz:zS prog 1000 0 30 (zQ (zR f28) 0) qZy:=lp (A:=qQv) qZy (fun d=>d.2.1) yR6 A4 FE e0 (qD vM8)
def qS9:=zJ 28 [.c (.dat false .i)] (.c (.own (.int .u8))) (fun k d=>xd k d.1) (fun x=>(x,())) (fun d=>d.1)
theorem QX:zD prog qS9:=fA f28 qQv e0 (qD vWz)
def abm:=zJ 66 [.c (.dat false .i)] (.c (.own (.int .u8))) (fun k d=>jn k d.1) (fun x=>(x,())) (fun d=>d.1)
theorem Lr:zD prog abm:=fA f66 n0 (e1 QX) zF
def yKi:zE:=⟨[(0,.c (.dat false (.sl .i))),sO 3 0,sI 4],[oA (.int .u8)],[(3,none,(.int .u8),false)]⟩
def vAe (f:qM3)(d:yKi.den):=f d.1.1.1 d.1.2.2.1.1 d.2.1
def qJx:zT:=⟨[yKi],[(.exit 0,yQ0)],AC,fun k d=>vAe (FF k k) d,fun b x _ K=>K (.exit 0) (zM b yQ0 (((),()),(x,())))⟩
def yHt:zY:=⟨[],[(3,qJx)],[],true⟩
theorem vMg:zS prog 1000 0 19 (zQ (zR f67) 0) qJx:=lp (A:=yHt) qJx (fun d=>d.2.1) vAe FF FG (e1 Lr) zF
def vDr:=zJ 67 [.c (.dat false (.sl .i))] (.c (.own (.int .u8))) (fun k d=>oF k d.1) (fun x=>(x,())) (fun d=>d.1)
theorem qNn:zD prog vDr:=fA f67 yHt (e1 Lr) (qD vMg)
def yV2:zE:=sp [sP 1 0,sP 4 1,sO 5 2,sI 6] [oB xM,oB jH,oA (.int .u8)]
def yI2:zE:=sp [sP 1 0,sP 4 1,sO 5 2] [oB xM,oB jH,oA (.int .u8)]
def yNo (f:qJt)(d:yV2.den):=f d.1.2.2.2.1.1 (qS d.2.1) (gj d.2.2.1) d.2.2.2.1
def QY:zT:=⟨[yV2],[(.exit 0,yI2)],qTm,fun k d=>yNo (tS k k) d,fun b x _ K=>K (.exit 0) (zM b yI2 (((),(),(),()),((wO x.1 ()),(gF x.2.1 ()),x.2.2,())))⟩
def vBo:zE:=sp [sP 1 0,sO 5 1,sI 7] [oB xM,oA (.int .u8)]
def yHs:zE:=sp [sP 1 0,sO 5 1] [oB xM,oA (.int .u8)]
def yZu (f:qR5)(d:vBo.den):=f d.1.2.2.1.1 (qS d.2.1) d.2.2.1
def QZ:zT:=⟨[vBo],[(.exit 2,yHs)],qOg,fun k d=>yZu (tT k k) d,fun b x _ K=>K (.exit 2) (zM b yHs (((),(),()),((wO x.1 ()),x.2,())))⟩
def qWj:zY:=⟨[],[(7,QY),(16,QZ)],[],true⟩
theorem vFh:zS prog 1000 0 127 (zQ (zR f29) 0) QY:=lp (A:=qWj) QY (fun d=>((qS d.2.1),(gj d.2.2.1),d.2.2.2.1)) yNo tS FH (e2 Lr qNn) zF
theorem vOh:zS prog 1000 0 127 (zQ (zR f29) 1) QZ:=lp (A:=qWj) QZ (fun d=>((qS d.2.1),d.2.2.1)) yZu tT FI (e2 Lr qNn) zF
def qUn:=zJ 29 [.agg pI] (.c (.own (.int .u8))) (fun k d=>FJ k (qS d)) (fun x=>(x,())) (fun d=>d.1)
theorem vRb:zD prog qUn:=fA f29 qWj (e2 Lr qNn) (loopsOK_of (n:=2) (by kernel_rfl) fun i hi=>match i,hi with|0,_=>⟨QY,by kernel_rfl,vFh⟩|1,_=>⟨QZ,by kernel_rfl,vOh⟩|i+2,hi=>absurd hi (by omega))
def vQ8:=Im 23 [.agg vL] (.c (.nil)) [] 0 (.c (.own (.int .u8))) [] 0 (fun k d=>Bn k (wF d)) (fun x=>((),())) (fun x=>(x,())) (fun d=>()) (fun d=>d.1)
theorem yQz:zD prog vQ8:=fN f23 ⟨[1],[],[],true⟩ 0 (e3 yGh qMm QX) zF
def vOi:=zJ 16 [.c (.nilp)] (.c .bool) (fun k d=>sb k) (fun x=>(x,())) (fun d=>d.1)
theorem yUi:zD prog vOi:=fA f16 n0 e0 zF
def vXn:=zJ 13 [.c (.nilp),.c .i,.c (.dat false (.int .u8))] (.c (.own yI)) (fun k d=>qVz k d.2.1 d.2.2.1) (fun x=>(x,())) (fun d=>d.1)
theorem vQp:zD prog vXn:=fA f13 n0 (e3 yUi Zk yJu) zF
def vEk:=zJ 18 [.c (.nilp)] (.agg YL) (fun k d=>Ls k) (fun x=>(wO x ())) (fun d=>(qS d))
theorem vMy:zD prog vEk:=fA f18 n0 e0 zF
def qV0:=zJ 22 [.c .i] (.agg [.i,.own jK,.i,.i,.i]) (fun k d=>jq k d.1) (fun x=>(jD x ())) (fun d=>(yR d))
theorem yB7:zD prog qV0:=fA f22 n0 e0 zF
def qJ8:=zJ 26 [] (.c .bool) (fun k d=>Yi k) (fun x=>(x,())) (fun d=>d.1)
theorem abn:zD prog qJ8:=fA f26 n0 (e11 F2q yB7 yHx uj yQz vGv yQ1 yCn vMy vQp yUi) zF
def qSe:=zJ 27 [.c (.dat false (.int .u8))] (.tup [(false,[.own (.int .u8)]),(false,[.bool])]) (fun k d=>GI k d.1) (fun x=>(x.1,x.2,())) (fun d=>(d.1,d.2.1))
theorem vDi:zD prog qSe:=fA f27 n0 e0 zF
def qS2:=Im 31 [.agg GP] (.c (.nil)) [] 0 (.c (.own (.int .u8))) [] 0 (fun k d=>Bx k (oJ d)) (fun x=>((),())) (fun x=>(x,())) (fun d=>()) (fun d=>d.1)
theorem vMs:zD prog qS2:=fN f31 n0 0 (e2 yQz QX) zF
def yIm:zE:=⟨[(1,.c (.dat false yI)),(2,.c (.dat false yI)),sI 3,sP 9 0,sP 10 1,sI 11],[oB xN,oB gi],[(9,some 1,.bool,true),(10,some 1,.bool,true),(10,some 2,.bool,true),(10,some 3,.bool,true),(10,some 4,.bool,true),(10,some 5,.bool,true),(10,some 6,.bool,true),(10,some 7,.bool,true),(10,some 8,.bool,true)]⟩
def yZ5:zE:=sp [(2,.c (.dat false yI)),sI 3,sP 9 0,sP 10 1] [oB xN,oB gi]
def yL3 (f:qVg)(d:yIm.den):=f d.1.1.1 d.1.2.1.1 d.1.2.2.1.1 d.1.2.2.2.2.2.1.1 (yR d.2.1) (qS d.2.2.1)
def PN:zT:=⟨[yIm],[(.exit 0,yZ5)],qO8,fun k d=>yL3 (GJ k k) d,fun b x _ K=>K (.exit 0) (zM b yZ5 (((x.1,()),(x.2.1,()),(),(),()),((jD x.2.2.1 ()),(wO x.2.2.2 ()),())))⟩
def yUo:zE:=sp [(2,.c (.dat false yI)),sP 9 0,sP 10 1,sP 12 2,sI 15] [oB xN,oB gi,oB yO5,oA (.int .u8),oA (.int .u8)]
def yLl:zE:=sp [sP 9 0,sP 10 1,sP 12 2] [oB xN,oB gi,oB yO5,oA (.int .u8),oA (.int .u8)]
def yB1 (f:qMp)(d:yUo.den):=f d.1.1.1 d.1.2.2.2.2.1.1 (yR d.2.1) (qS d.2.2.1) (oJ d.2.2.2.1) d.2.2.2.2.1 d.2.2.2.2.2.1
def PO:zT:=⟨[yUo],[(.exit 2,yLl)],qIe,fun k d=>yB1 (BA k k) d,fun b x _ K=>K (.exit 2) (zM b yLl (((),(),(),()),((jD x.1 ()),(wO x.2.1 ()),(GO x.2.2.1 ()),x.2.2.2.1,x.2.2.2.2,())))⟩
def yGo:Env:=⟨prog,fun _=>false,fg [qV0,qRd,qTc,R2q,qS9,qUn,qSe,qYa,qS2,qP7,qLd,qJk,qJ8]⟩
theorem PM:jJ yGo:=nh gE ⟨yB7,vRn,vO0,F2q,QX,vRb,vDi,Y5,vMs,yHx,yQ1,vTk,abn,trivial⟩
def qRy:zY:=⟨[],[(6,PN),(13,PO)],[],true⟩
theorem vQ6:zS prog 1000 0 127 (zQ (zR f5) 0) PN:=lp (A:=qRy) PN (fun d=>(d.1.1.1,d.1.2.1.1,(yR d.2.1),(qS d.2.2.1))) yL3 GJ GK PM zF
theorem vPu:zS prog 1000 0 127 (zQ (zR f5) 1) PO:=lp (A:=qRy) PO (fun d=>((yR d.2.1),(qS d.2.2.1),(oJ d.2.2.2.1),d.2.2.2.2.1,d.2.2.2.2.2.1)) yB1 BA xC PM zF
def Yj:List AS:=[.c .i,.c (.dat false yI),.c (.dat false yI),.c .i]
theorem vO4:Uh yGo qRy 0 f5 Yj (.c .bool) (fun d=>d.1) (fun k d=>PK k d.1 d.2.1 d.2.2.1 d.2.2.2.1):=by intro k d;kernel_rfl
end
end Go.Ab.Gi
