/- part 100 -/
import Derived.Test.YthpehdcmpldloaaGreatGiXS
import Derived.Test.YthpehdcmpldloaaGreatGiAbE
import Derived.Test.YthpehdcmpldloaaGreatProg
set_option linter.unusedVariables false
set_option maxRecDepth 100000
set_option maxHeartbeats 4000000
namespace Go.Ab.Gi
open Go.RowKit Go.Lib Go.Proofs Go.Proofs.Tryz
noncomputable section
theorem gu:prog.follows .mixedOrders=true:=by kernel_rfl
abbrev n0:qA:=⟨[],[],[],true⟩
theorem e0:jG ⟨prog,fun _=>false,eW []⟩:=oT (l:=[]) gu trivial
theorem e1 {a0}(h0:zD prog a0):jG ⟨prog,fun _=>false,eW [a0]⟩:=oT (l:=[a0]) gu ⟨h0,trivial⟩
theorem e2 {a0 a1}(h0:zD prog a0)(h1:zD prog a1):jG ⟨prog,fun _=>false,eW [a0,a1]⟩:=oT (l:=[a0,a1]) gu ⟨h0,h1,trivial⟩
theorem e3 {a0 a1 a2}(h0:zD prog a0)(h1:zD prog a1)(h2:zD prog a2):jG ⟨prog,fun _=>false,eW [a0,a1,a2]⟩:=oT (l:=[a0,a1,a2]) gu ⟨h0,h1,h2,trivial⟩
theorem e4 {a0 a1 a2 a3}(h0:zD prog a0)(h1:zD prog a1)(h2:zD prog a2)(h3:zD prog a3):jG ⟨prog,fun _=>false,eW [a0,a1,a2,a3]⟩:=oT (l:=[a0,a1,a2,a3]) gu ⟨h0,h1,h2,h3,trivial⟩
theorem e5 {a0 a1 a2 a3 a4}(h0:zD prog a0)(h1:zD prog a1)(h2:zD prog a2)(h3:zD prog a3)(h4:zD prog a4):jG ⟨prog,fun _=>false,eW [a0,a1,a2,a3,a4]⟩:=oT (l:=[a0,a1,a2,a3,a4]) gu ⟨h0,h1,h2,h3,h4,trivial⟩
theorem e6 {a0 a1 a2 a3 a4 a5}(h0:zD prog a0)(h1:zD prog a1)(h2:zD prog a2)(h3:zD prog a3)(h4:zD prog a4)(h5:zD prog a5):jG ⟨prog,fun _=>false,eW [a0,a1,a2,a3,a4,a5]⟩:=oT (l:=[a0,a1,a2,a3,a4,a5]) gu ⟨h0,h1,h2,h3,h4,h5,trivial⟩
theorem e7 {a0 a1 a2 a3 a4 a5 a6}(h0:zD prog a0)(h1:zD prog a1)(h2:zD prog a2)(h3:zD prog a3)(h4:zD prog a4)(h5:zD prog a5)(h6:zD prog a6):jG ⟨prog,fun _=>false,eW [a0,a1,a2,a3,a4,a5,a6]⟩:=oT (l:=[a0,a1,a2,a3,a4,a5,a6]) gu ⟨h0,h1,h2,h3,h4,h5,h6,trivial⟩
theorem e8 {a0 a1 a2 a3 a4 a5 a6 a7}(h0:zD prog a0)(h1:zD prog a1)(h2:zD prog a2)(h3:zD prog a3)(h4:zD prog a4)(h5:zD prog a5)(h6:zD prog a6)(h7:zD prog a7):jG ⟨prog,fun _=>false,eW [a0,a1,a2,a3,a4,a5,a6,a7]⟩:=oT (l:=[a0,a1,a2,a3,a4,a5,a6,a7]) gu ⟨h0,h1,h2,h3,h4,h5,h6,h7,trivial⟩
theorem e9 {a0 a1 a2 a3 a4 a5 a6 a7 a8}(h0:zD prog a0)(h1:zD prog a1)(h2:zD prog a2)(h3:zD prog a3)(h4:zD prog a4)(h5:zD prog a5)(h6:zD prog a6)(h7:zD prog a7)(h8:zD prog a8):jG ⟨prog,fun _=>false,eW [a0,a1,a2,a3,a4,a5,a6,a7,a8]⟩:=oT (l:=[a0,a1,a2,a3,a4,a5,a6,a7,a8]) gu ⟨h0,h1,h2,h3,h4,h5,h6,h7,h8,trivial⟩
theorem e10 {a0 a1 a2 a3 a4 a5 a6 a7 a8 a9}(h0:zD prog a0)(h1:zD prog a1)(h2:zD prog a2)(h3:zD prog a3)(h4:zD prog a4)(h5:zD prog a5)(h6:zD prog a6)(h7:zD prog a7)(h8:zD prog a8)(h9:zD prog a9):jG ⟨prog,fun _=>false,eW [a0,a1,a2,a3,a4,a5,a6,a7,a8,a9]⟩:=oT (l:=[a0,a1,a2,a3,a4,a5,a6,a7,a8,a9]) gu ⟨h0,h1,h2,h3,h4,h5,h6,h7,h8,h9,trivial⟩
theorem e11 {a0 a1 a2 a3 a4 a5 a6 a7 a8 a9 IS}(h0:zD prog a0)(h1:zD prog a1)(h2:zD prog a2)(h3:zD prog a3)(h4:zD prog a4)(h5:zD prog a5)(h6:zD prog a6)(h7:zD prog a7)(h8:zD prog a8)(h9:zD prog a9)(Jl:zD prog IS):jG ⟨prog,fun _=>false,eW [a0,a1,a2,a3,a4,a5,a6,a7,a8,a9,IS]⟩:=oT (l:=[a0,a1,a2,a3,a4,a5,a6,a7,a8,a9,IS]) gu ⟨h0,h1,h2,h3,h4,h5,h6,h7,h8,h9,Jl,trivial⟩
def XR:=yU 9 [.c (.p .i)] (.c (.link 0)) [kY] 1 (fun k d=>P8 k d.1) (fun x=>((),(kh x ()))) (fun d=>(Hf d))
theorem F2q:zD prog XR:=fX f9 n0 0 e0 zF
def R3q:=zJ 72 [.c .i,.c .i,.c .i] (.c .bool) (fun k d=>td k d.1 d.2.1 d.2.2.1) (fun x=>(x,())) (fun d=>d.1)
theorem F3q:zD prog R3q:=fA f72 n0 e0 zF
def R4q:=zJ 71 [.agg [.i,.i]] (.c .bool) (fun k d=>vBl k (d.1,d.2.1)) (fun x=>(x,())) (fun d=>d.1)
theorem F4q:zD prog R4q:=fA f71 n0 (e1 F3q) zF
def yXi:zE:=sp [(0,.c (.dat false jA)),(1,.c (.lit (.fn 71 []))),sI 7,sI 8] []
def yS2:zE:=sp [] []
def vAc:zE:=sp [sI 4] []
def yEt (f:XS)(d:yXi.den):=f d.1.1.1 d.1.2.2.1.1 d.1.2.2.2.1.1
def XT:zW:=⟨[yXi],[(.exit 0,yS2),(.ret,vAc)],(Unit⊕Int),fun k d=>yEt (XU k k) d,fun b x _ K=>match x with|.inl x=>K (.exit 0) (zN b yS2 ((),()))|.inr x=>K .ret (zN b vAc (((x,()),()),()))⟩
def A5q:qA:=⟨[],[(2,XT)],[],true⟩
theorem XV:zU prog 1000 0 19 (zR (zS f121) 0) XT:=lp (A:=A5q) XT (fun d=>match d with|.inl d=>.inl ()|.inr d=>.inr d.1.1.1) yEt XU yFt (e1 F4q) zF
def R5q:=zJ 121 [.c (.dat false jA),.c (.fn 71)] (.c .i) (fun k d=>yB3 k d.1) (fun x=>(x,())) (fun d=>d.1)
theorem F5q:zD prog R5q:=fA f121 A5q (e1 F4q) (loops1 XV)
def R6q:=zJ 73 [.c (.dat false jA),.c (.fn 71)] (.c .bool) (fun k d=>yWy k d.1) (fun x=>(x,())) (fun d=>d.1)
theorem F6q:zD prog R6q:=fA f73 n0 (e1 F5q) zF
def R7q:=zJ 32 [.agg ki] (.c .bool) (fun k d=>qp k (yV d)) (fun x=>(x,())) (fun d=>d.1)
theorem F7q:zD prog R7q:=fA f32 n0 (e2 F3q F6q) zF
def R8q:=zJ 69 [.c .i] (.c .bool) (fun k d=>Qe k d.1) (fun x=>(x,())) (fun d=>d.1)
theorem XW:zD prog R8q:=fA f69 n0 e0 zF
def R9q:=xh 186 false (.int .u8) (.own (.int .u8)) B9
theorem F9q:zD prog R9q:=fC f186 n0 e0 zF
def XX:=zJ 123 [.ptr Ly,.c .i] (.c (.own (.int .u8))) (fun k d=>Xw k (iq d) d.2.2.2.2.2.2.2.2.2.2.1) (fun x=>(x,())) (fun d=>d.1)
theorem vQq:zD prog XX:=fA f123 n0 (e2 XW F9q) zF
def yHy:zE:=⟨[(0,.c (.dat false (.int .u8))),sO 2 0],[oA (.sl (.int .u8))],[(2,none,(.sl (.int .u8)),false)]⟩
def yDs:zE:=sp [(0,.c (.dat false (.int .u8))),sO 2 0] [oA (.sl (.int .u8))]
def yKo (f:XY)(d:yHy.den):=f d.1.1.1 d.2.1
def XZ:zW:=⟨[yHy],[(.exit 0,yDs)],X0,fun k d=>yKo (DY k k) d,fun b x _ K=>K (.exit 0) (zN b yDs (((x.1,()),(),()),(x.2,())))⟩
def yUz:qA:=⟨[],[(1,XZ)],[],true⟩
theorem X1:zU prog 1000 0 43 (zR (zS f122) 0) XZ:=lp (A:=yUz) XZ (fun d=>(d.1.1.1,d.2.1)) yKo DY DZ e0 zF
def vJt:=zJ 122 [.c (.dat false (.int .u8))] (.tup [(false,[.own (.sl (.int .u8))]),(false,vC)]) (fun k d=>NI k d.1) (fun x=>(x.1,x.2,())) (fun d=>(d.1,d.2.1))
theorem vXm:zD prog vJt:=fA f122 yUz e0 (loops1 X1)
def yL0:zE:=sp [(0,.c (.dat false (.int .u8))),sO 4 0,(5,.c (.int .u64)),(16,.c (.dat false (.int .u8))),sI 17,sI 18] [oA .i]
def yJ8:zE:=sp [(0,.c (.dat false (.int .u8))),sO 4 0,(5,.c (.int .u64))] [oA .i]
def yQj (f:X2)(d:yL0.den):=f d.1.1.1 d.1.2.2.1.1 d.1.2.2.2.1.1 d.1.2.2.2.2.1.1 d.1.2.2.2.2.2.1.1 d.2.1
def X3:zW:=⟨[yL0],[(.exit 2,yJ8)],X4,fun k d=>yQj (DM k k) d,fun b x _ K=>K (.exit 2) (zN b yJ8 (((x.1,()),(),(x.2.1,()),()),(x.2.2,())))⟩
def yYm:zE:=⟨[(0,.c (.dat false (.int .u8))),sO 4 0],[oA .i],[(4,none,.i,false)]⟩
def yUw:zE:=sp [sO 4 0] [oA .i]
def vA5 (f:AC→AC→Option AC)(d:yYm.den):=f d.1.1.1 d.2.1
def X5:zW:=⟨[yYm],[(.exit 0,yUw)],AC,fun k d=>vA5 (DN k k) d,fun b x _ K=>K (.exit 0) (zN b yUw (((),()),(x,())))⟩
def X6:qA:=⟨[],[(7,X3),(4,X5)],[],true⟩
theorem vVa:zU prog 1000 0 36 (zR (zR (zS f90) 0) 0) X3:=lp (A:=X6) X3 (fun d=>(d.1.1.1,d.1.2.2.1.1,d.2.1)) yQj DM NA e0 zF
theorem X7:zU prog 1000 0 36 (zR (zS f90) 0) X5:=lp (A:=X6) X5 (fun d=>d.2.1) vA5 DN DO e0 (loops1 vVa)
def vQv:=zJ 90 [.c (.dat false (.int .u8))] (.tup [(false,[.own .i]),(false,vC)]) (fun k d=>sF k d.1) (fun x=>(x.1,x.2,())) (fun d=>(d.1,d.2.1))
theorem Qf:zD prog vQv:=fA f90 X6 e0 (loops1 X7)
def vU8:=zJ 74 [.ptr Ly,.c .i] (.tup [(false,vC),(false,[.fro (.int .u8)]),(false,[.fro (.sl (.int .u8))])]) (fun k d=>yk k (iq d) d.2.2.2.2.2.2.2.2.2.2.1) (fun x=>(x.1,x.2.1,x.2.2,())) (fun d=>(d.1,d.2.1,d.2.2.1))
theorem vU9:zD prog vU8:=fA f74 n0 (e3 vQq vXm Qf) zF
def vE8:=zJ 33 [.ptr Ly] (.tup [(false,vC),(false,vC),(false,[.fro (.int .u8)]),(false,[.fro (.sl (.int .u8))]),(false,[.bool])]) (fun k d=>Ln k (iq d)) (fun x=>(jI x ())) (fun d=>(d.1,d.2.1,d.2.2.1,d.2.2.2.1,d.2.2.2.2.1))
theorem X8:zD prog vE8:=fA f33 ⟨[],[],[(2,3)],true⟩ (e1 vU9) (Nb (n:=1) (by kernel_rfl) fun i hi=>match i,hi with|0,_=>.inr ⟨by kernel_rfl,zF⟩|i+1,hi=>absurd hi (by omega))
def vFj:=zJ 129 [.c .i] (.c .bool) (fun k d=>JC k d.1) (fun x=>(x,())) (fun d=>d.1)
theorem Qg:zD prog vFj:=fA f129 ⟨[],[],[],false⟩ e0 zF
def yJ7:zE:=sp [sI 1,sO 5 0,sI 13,sI 14] [oA .i]
def yOf:zE:=sp [sO 5 0] [oA .i]
def vBi (f:X9)(d:yJ7.den):=f d.1.1.1 d.1.2.2.1.1 d.1.2.2.2.1.1 d.2.1
def Ya:zW:=⟨[yJ7],[(.exit 0,yOf)],AC,fun k d=>vBi (JD k k) d,fun b x _ K=>K (.exit 0) (zN b yOf (((),()),(x,())))⟩
def yOi:qA:=⟨[],[(5,Ya)],[],false⟩
theorem vKk:zU prog 1000 0 23 (zR (zS f79) 0) Ya:=lp (A:=yOi) Ya (fun d=>d.2.1) vBi JD EG (e1 Qg) zF
def vDc:=zJ 79 [.c .i,.c .i] (.c (.own .i)) (fun k d=>Bh k d.1 d.2.1) (fun x=>(x,())) (fun d=>d.1)
theorem Cc:zD prog vDc:=fA f79 yOi (e1 Qg) (loops1 vKk)
def yDq:zE:=sp [sI 0,sI 1,sO 5 0,sI 13,sI 14] [.mat]
def yPj:zE:=sp [sO 5 0] [.mat]
def yW7 (f:Yb)(d:yDq.den):=f d.1.1.1 d.1.2.1.1 d.1.2.2.2.1.1 d.1.2.2.2.2.1.1 d.2.1
def Yc:zW:=⟨[yDq],[(.exit 0,yPj)],EQ,fun k d=>yW7 (JE k k) d,fun b x _ K=>K (.exit 0) (zN b yPj (((),()),(x,())))⟩
def yYa:qA:=⟨[11],[(5,Yc)],[],false⟩
theorem vNo:zU prog 1000 0 25 (zR (zS f78) 0) Yc:=lp (A:=yYa) Yc (fun d=>d.2.1) yW7 JE EI (e2 Qg Cc) zF
def vO4:=zJ 78 [.c .i,.c .i] (.c (.mat)) (fun k d=>EH k d.1 d.2.1) (fun x=>(x,())) (fun d=>d.1)
theorem LA:zD prog vO4:=fA f78 yYa (e2 Qg Cc) (loops1 vNo)
def yRd:zE:=⟨[sP 1 0,sP 2 1,sI 3,sP 4 2,(20,.c (.dat false jA)),sI 21,sI 22],[oB qt,oB ft,oB Qh,oA qX,.mat,oA .i,.mat,oA .i],[(4,some 5,.i,false)]⟩
def yE2:zE:=sp [sP 1 0,sP 2 1,sI 3,sP 4 2] [oB qt,oB ft,oB Qh,oA qX,.mat,oA .i,.mat,oA .i]
def yIe (f:Yd)(d:yRd.den):=f d.1.2.2.1.1 d.1.2.2.2.2.1.1 d.1.2.2.2.2.2.1.1 d.1.2.2.2.2.2.2.1.1 (yV d.2.1) (d.2.2.1.1,d.2.2.1.2.1,d.2.2.1.2.2.1) (d.2.2.2.1.1,d.2.2.2.1.2.1,d.2.2.2.1.2.2.1) d.2.2.2.2.1 d.2.2.2.2.2.1 d.2.2.2.2.2.2.1 d.2.2.2.2.2.2.2.1 d.2.2.2.2.2.2.2.2.1
def Qi:zW:=⟨[yRd],[(.exit 0,yE2)],Ye,fun k d=>yIe (Yf k k) d,fun b x _ K=>K (.exit 0) (zN b yE2 (((),(),(x.1,()),(),()),((jI x.2.1 ()),(x.2.2.1.1,x.2.2.1.2.1,x.2.2.1.2.2,()),(x.2.2.2.1.1,x.2.2.2.1.2.1,x.2.2.2.1.2.2,()),x.2.2.2.2.1,x.2.2.2.2.2.1,x.2.2.2.2.2.2.1,x.2.2.2.2.2.2.2.1,x.2.2.2.2.2.2.2.2,())))⟩
def vBq:zE:=⟨[sP 1 0,sP 2 1,sP 4 2,sI 34,sI 35],[oB qt,oB ft,oB yVr,oA qX,.mat,oA .i,.mat,oA .i,.mat],[(4,some 6,(.sl .i),true)]⟩
def yVw:zE:=sp [sP 2 0,sP 4 1] [oB ft,oB yCi,oA qX,.mat,oA .i,.mat,oA .i,.mat]
def yKx (f:Yg)(d:vBq.den):=f d.1.2.2.2.1.1 d.1.2.2.2.2.1.1 (yV d.2.1) (d.2.2.1.1,d.2.2.1.2.1,d.2.2.1.2.2.1) (d.2.2.2.1.1,d.2.2.2.1.2.1,d.2.2.2.1.2.2.1) d.2.2.2.2.1 d.2.2.2.2.2.1 d.2.2.2.2.2.2.1 d.2.2.2.2.2.2.2.1 d.2.2.2.2.2.2.2.2.1 d.2.2.2.2.2.2.2.2.2.1
def Qj:zW:=⟨[vBq],[(.exit 2,yVw)],Yh,fun k d=>yKx (Yi k k) d,fun b x _ K=>K (.exit 2) (zN b yVw (((),(),()),((x.1.1,x.1.2.1,x.1.2.2,()),(x.2.1.1,x.2.1.2.1,x.2.1.2.2,()),x.2.2.1,x.2.2.2.1,x.2.2.2.2.1,x.2.2.2.2.2.1,x.2.2.2.2.2.2.1,x.2.2.2.2.2.2.2,())))⟩
def Yj:qA:=⟨[43,44],[(4,Qi),(9,Qj)],[],true⟩
theorem vN7:zU prog 1000 0 48 (zR (zS f36) 0) Qi:=lp (A:=Yj) Qi (fun d=>(d.1.2.2.1.1,(yV d.2.1),(d.2.2.1.1,d.2.2.1.2.1,d.2.2.1.2.2.1),(d.2.2.2.1.1,d.2.2.2.1.2.1,d.2.2.2.1.2.2.1),d.2.2.2.2.1,d.2.2.2.2.2.1,d.2.2.2.2.2.2.1,d.2.2.2.2.2.2.2.1,d.2.2.2.2.2.2.2.2.1)) yIe Yf yOo (e2 LA Cc) zF
theorem vI7:zU prog 1000 0 48 (zR (zS f36) 1) Qj:=lp (A:=Yj) Qj (fun d=>((d.2.1.1,d.2.1.2.1,d.2.1.2.2.1),(d.2.2.1.1,d.2.2.1.2.1,d.2.2.1.2.2.1),d.2.2.2.1,d.2.2.2.2.1,d.2.2.2.2.2.1,d.2.2.2.2.2.2.1,d.2.2.2.2.2.2.2.1,d.2.2.2.2.2.2.2.2.1)) yKx Yi vAq (e2 LA Cc) zF
def vIp:=zJ 36 [.agg ki] (.agg Yk) (fun k d=>qn k (yV d)) (fun x=>(wZ x ())) (fun d=>(qV d))
theorem yOb:zD prog vIp:=fA f36 Yj (e2 LA Cc) (oP (n:=2) (by kernel_rfl) fun i hi=>match i,hi with|0,_=>⟨Qi,by kernel_rfl,vN7⟩|1,_=>⟨Qj,by kernel_rfl,vI7⟩|i+2,hi=>absurd hi (by omega))
def vK4:=zJ 76 [.c .bool] (.c .i) (fun k d=>NG k d.1) (fun x=>(x,())) (fun d=>d.1)
theorem Yl:zD prog vK4:=fA f76 n0 e0 zF
def yEa:zE:=sp [sO 3 0,sI 5,sI 6,(11,.c (.dat false .i)),sI 12,sI 13] [oA (.int .u8)]
def yIl:zE:=sp [sO 3 0,(11,.c (.dat false .i)),sI 12,sI 13] [oA (.int .u8)]
def yA6 (f:Ym)(d:yEa.den):=f d.1.2.1.1 d.1.2.2.1.1 d.1.2.2.2.1.1 d.1.2.2.2.2.1.1 d.1.2.2.2.2.2.1.1 d.2.1
def Yn:zW:=⟨[yEa],[(.exit 2,yIl)],Yo,fun k d=>yA6 (xm k k) d,fun b x _ K=>K (.exit 2) (zN b yIl (((),(x.1,()),(x.2.1,()),(x.2.2.1,()),()),(x.2.2.2,())))⟩
def yC5:zE:=sp [sO 3 0] [oA (.int .u8)]
def yMv (f:Yp)(d:yIl.den):=f d.1.2.1.1 d.1.2.2.1.1 d.1.2.2.2.1.1 d.2.1
def Yq:zW:=⟨[yIl],[(.exit 0,yC5)],AC,fun k d=>yMv (A7 k k) d,fun b x _ K=>K (.exit 0) (zN b yC5 (((),()),(x,())))⟩
def Yr:qA:=⟨[],[(6,Yn),(3,Yq)],[],true⟩
theorem vIj:zU prog 1000 0 31 (zR (zR (zS f101) 0) 0) Yn:=lp (A:=Yr) Yn (fun d=>(d.1.2.1.1,d.1.2.2.1.1,d.1.2.2.2.1.1,d.2.1)) yA6 xm ND e0 zF
theorem vT1:zU prog 1000 0 31 (zR (zS f101) 0) Yq:=lp (A:=Yr) Yq (fun d=>d.2.1) yMv A7 DR e0 (loops1 vIj)
def vEn:=zJ 101 [.c (.dat false .i)] (.c (.own (.int .u8))) (fun k d=>xn k d.1) (fun x=>(x,())) (fun d=>d.1)
theorem Qk:zD prog vEn:=fA f101 Yr e0 (loops1 vT1)
def vIb:=zJ 128 [.c (.dat false .i)] (.c (.own (.int .u8))) (fun k d=>NF k d.1) (fun x=>(x,())) (fun d=>d.1)
theorem yDg:zD prog vIb:=fA f128 n0 (e1 Qk) zF
def yJl:zE:=⟨[sO 3 0,(6,.c (.dat false (.sl .i))),sI 7,sI 8],[oA (.int .u8)],[(3,none,(.int .u8),false)]⟩
def yLb (f:Ys)(d:yJl.den):=f d.1.2.1.1 d.1.2.2.1.1 d.1.2.2.2.1.1 d.2.1
def Yt:zW:=⟨[yJl],[(.exit 0,yC5)],AC,fun k d=>yLb (DT k k) d,fun b x _ K=>K (.exit 0) (zN b yC5 (((),()),(x,())))⟩
def yCo:qA:=⟨[],[(3,Yt)],[],true⟩
theorem Yu:zU prog 1000 0 18 (zR (zS f77) 0) Yt:=lp (A:=yCo) Yt (fun d=>d.2.1) yLb DT DU (e1 yDg) zF
def vGq:=zJ 77 [.c (.dat false (.sl .i))] (.c (.own (.int .u8))) (fun k d=>I5 k d.1) (fun x=>(x,())) (fun d=>d.1)
theorem Yv:zD prog vGq:=fA f77 yCo (e1 yDg) (loops1 Yu)
def yPq:zE:=sp [sP 1 0,sP 3 1,sO 4 2,(39,.c (.dat true qX)),sI 40,sI 41] [oB iU,oB wA,oA (.sl .i)]
def yEu:zE:=sp [sP 1 0,sP 3 1,sO 4 2] [oB iU,oB wA,oA (.sl .i)]
def yU0 (f:Yw)(d:yPq.den):=f d.1.2.2.2.1.1 d.1.2.2.2.2.1.1 d.1.2.2.2.2.2.1.1 (qV d.2.1) (fu d.2.2.1) d.2.2.2.1
def Ql:zW:=⟨[yPq],[(.exit 0,yEu)],Yx,fun k d=>yU0 (A8 k k) d,fun b x _ K=>K (.exit 0) (zN b yEu (((),(),(),()),((wZ x.1 ()),(gO x.2.1 ()),x.2.2,())))⟩
def yM2:zE:=sp [sP 1 0,sO 4 1,(79,.c (.dat true zG)),sI 80,sI 81] [oB iU,oA (.sl .i)]
def yMw:zE:=sp [sP 1 0,sO 4 1] [oB iU,oA (.sl .i)]
def yYd (f:Yy)(d:yM2.den):=f d.1.2.2.1.1 d.1.2.2.2.1.1 d.1.2.2.2.2.1.1 (qV d.2.1) d.2.2.1
def Qm:zW:=⟨[yM2],[(.exit 2,yMw)],Yz,fun k d=>yYd (A9 k k) d,fun b x _ K=>K (.exit 2) (zN b yMw (((),(),()),((wZ x.1 ()),x.2,())))⟩
def YA:qA:=⟨[],[(4,Ql),(14,Qm)],[],true⟩
theorem YB:zU prog 1000 0 110 (zR (zS f35) 0) Ql:=lp (A:=YA) Ql (fun d=>((qV d.2.1),(fu d.2.2.1),d.2.2.2.1)) yU0 A8 DV (e2 Yl Yv) zF
theorem vTj:zU prog 1000 0 110 (zR (zS f35) 1) Qm:=lp (A:=YA) Qm (fun d=>((qV d.2.1),d.2.2.1)) yYd A9 DW (e2 Yl Yv) zF
def vJs:=zJ 35 [.agg yo] (.c (.own (.int .u8))) (fun k d=>mb k (qV d)) (fun x=>(x,())) (fun d=>d.1)
theorem Cd:zD prog vJs:=fA f35 YA (e2 Yl Yv) (oP (n:=2) (by kernel_rfl) fun i hi=>match i,hi with|0,_=>⟨Ql,by kernel_rfl,YB⟩|1,_=>⟨Qm,by kernel_rfl,vTj⟩|i+2,hi=>absurd hi (by omega))
def vF7:=zJ 124 [.c (.dat false (.int .u8))] (.tup [(false,[.own (.int .u8)]),(false,[.bool])]) (fun k d=>I3 k d.1) (fun x=>(x.1,x.2,())) (fun d=>(d.1,d.2.1))
theorem yFs:zD prog vF7:=fA f124 n0 e0 zF
def vVn:=zJ 125 [.ptr Ly] (.c .i) (fun k d=>Xu k (iq d)) (fun x=>(x,())) (fun d=>d.1)
theorem vDt:zD prog vVn:=fA f125 n0 e0 zF
def vDu:=zJ 68 [.ptr Ly] (.c .bool) (fun k d=>Qn k (iq d)) (fun x=>(x,())) (fun d=>d.1)
theorem YC:zD prog vDu:=fA f68 n0 e0 zF
def vYi:=yU 70 [.ptr true nk] (.c .bool) [kY] 0 (fun k d=>kV k (iq d)) (fun x=>(x.1,(kh x.2 ()))) (fun d=>(d.1,(Hf d)))
theorem YD:zD prog vYi:=fX f70 ⟨[],[],[(6,3)],true⟩ 1 e0 (Nb (n:=1) (by kernel_rfl) fun i hi=>match i,hi with|0,_=>.inr ⟨by kernel_rfl,zF⟩|i+1,hi=>absurd hi (by omega))
def YE:=yU 126 [.ptr true nk,.c (.p .i)] (.c .i) [kY] 0 (fun k d=>P1 k (iq d) d.2.2.2.2.2.2.2.2.2.2.1) (fun x=>(x.1,(kh x.2 ()))) (fun d=>(d.1,(Hf d)))
theorem vCl:zD prog YE:=fX f126 n0 1 (e3 YC XW YD) zF
def vCq:=yU 30 [.ptr true nk,.c (.p .i),.c (.p (.dat false (.int .u8)))] (.c .i) [kY] 0 (fun k d=>yj k (iq d) d.2.2.2.2.2.2.2.2.2.2.1 d.2.2.2.2.2.2.2.2.2.2.2.1) (fun x=>(x.1,(kh x.2 ()))) (fun d=>(d.1,(Hf d)))
theorem yR8:zD prog vCq:=fX f30 n0 1 (e3 YC XW YD) zF
def vMu:=yU 127 [.ptr true nk] (.c .i) [kY] 0 (fun k d=>u9 k (iq d)) (fun x=>(x.1,(kh x.2 ()))) (fun d=>(d.1,(Hf d)))
theorem yBw:zD prog vMu:=fX f127 ⟨[],[],[(4,3)],true⟩ 1 (e2 YC YD) (Nb (n:=1) (by kernel_rfl) fun i hi=>match i,hi with|0,_=>.inr ⟨by kernel_rfl,zF⟩|i+1,hi=>absurd hi (by omega))
def YF:=yU 75 [.ptr true nk,.c (.p .i),.c (.p .i),.c (.p (.dat false (.int .u8)))] (.c .i) [kY] 0 (fun k d=>Lj k (iq d) d.2.2.2.2.2.2.2.2.2.2.1 d.2.2.2.2.2.2.2.2.2.2.2.1 d.2.2.2.2.2.2.2.2.2.2.2.2.1) (fun x=>(x.1,(kh x.2 ()))) (fun d=>(d.1,(Hf d)))
theorem yDm:zD prog YF:=fX f75 n0 1 (e6 Qk yFs vDt vCl yR8 yBw) zF
def vNg:=Nr 34 [.ptr true nk,.c (.p (.dat false (.int .u8)))] (.tup [(false,[.link 1]),(false,[.fro (.int .u8)]),(false,[.fro (.sl (.int .u8))]),(false,vC)]) [kY,[.link 0,.i,.i,.i,.bool]] 1 (.tup [(false,[.nilp]),(false,[.own (.int .u8)]),(false,[.own (.sl (.int .u8))]),(false,vC)]) [kY] 0 (fun k d=>P2 k (iq d) d.2.2.2.2.2.2.2.2.2.2.1) (fun x=>((),x.1,x.2.1,x.2.2.1,(kh x.2.2.2.1 ((),(gO x.2.2.2.2 ()))))) (fun x=>((),x.1,x.2.1,x.2.2.1,(kh x.2.2.2 ()))) (fun d=>(d.2.1,d.2.2.1,d.2.2.2.1,(yKh d),(vXl d))) (fun d=>(d.2.1,d.2.2.1,d.2.2.2.1,(yKh d)))
theorem yGj:zD prog vNg:=fN f34 n0 1 (e2 X8 yDm) zF
def vRl:=zJ 130 [.c (.dat true (.int .u8))] (.tup [(false,[.own .i]),(false,[.fro (.int .u8)]),(false,[.bool])]) (fun k d=>NH k d.1) (fun x=>(x.1,x.2.1,x.2.2,())) (fun d=>(d.1,d.2.1,d.2.2.1))
theorem vVw:zD prog vRl:=fA f130 n0 (e1 Qf) zF
def vL6:=yU 82 [.ptr true [.p (.dat true (.int .u8)),.p .bool]] (.c (.own .i)) [[.fro (.int .u8),.bool]] 0 (fun k d=>xR k (d.1,d.2.1)) (fun x=>(x.1,x.2.1,x.2.2,())) (fun d=>(d.1,(d.2.1,d.2.2.1)))
theorem Hg:zD prog vL6:=fX f82 n0 1 (e1 vVw) zF
def vS7:=yU 80 [.ptr true [.p (.dat true (.int .u8)),.p .bool],.c (.p .i)] (.c (.own .i)) [[.fro (.int .u8),.bool]] 0 (fun k d=>F2 k (d.1,d.2.1) d.2.2.1) (fun x=>(x.1,x.2.1,x.2.2,())) (fun d=>(d.1,(d.2.1,d.2.2.1)))
theorem YG:zD prog vS7:=fX f80 n0 1 (e1 Hg) zF
def yG5:zE:=⟨[sP 0 0,sI 1,sO 5 1],[oB Hh,oA (.sl .i)],[(5,none,(.sl .i),false)]⟩
def yCe:zE:=sp [sP 0 0,sO 5 1] [oB Hh,oA (.sl .i)]
def vAa (f:YH)(d:yG5.den):=f d.1.2.1.1 (d.2.1.1,d.2.1.2.1) d.2.2.1
def YI:zW:=⟨[yG5],[(.exit 0,yCe)],YJ,fun k d=>vAa (Kx k k) d,fun b x _ K=>K (.exit 0) (zN b yCe (((),(),()),((x.1.1,x.1.2,()),x.2,())))⟩
def yNf:qA:=⟨[],[(2,YI)],[],true⟩
theorem vKw:zU prog 1000 1 23 (zR (zS f81) 0) YI:=lp (A:=yNf) YI (fun d=>((d.2.1.1,d.2.1.2.1),d.2.2.1)) vAa Kx Pc (e1 Hg) zF
def YK:=yU 81 [.ptr true [.p (.dat true (.int .u8)),.p .bool],.c (.p .i)] (.c (.own (.sl .i))) [[.fro (.int .u8),.bool]] 0 (fun k d=>F3 k (d.1,d.2.1) d.2.2.1) (fun x=>(x.1,x.2.1,x.2.2,())) (fun d=>(d.1,(d.2.1,d.2.2.1)))
theorem YL:zD prog YK:=fX f81 yNf 1 (e1 Hg) (loops1 vKw)
def YM:=zJ 83 [.c (.dat false (.int .u8)),.c (.dat false (.int .u8))] (.c .bool) (fun k d=>Ws k d.1 d.2.1) (fun x=>(x,())) (fun d=>d.1)
theorem YN:zD prog YM:=fA f83 n0 e0 zF
def yUc:zE:=⟨[(0,.c (.dat true (.int .u8))),sP 2 0,sP 4 1,sO 5 2,sP 6 3,sI 7],[oB ft,oB Hh,oA .i,oB yVa,oA qX],[(6,some 1,qX,false)]⟩
def yOu:zE:=sp [(0,.c (.dat true (.int .u8))),sP 2 0,sP 4 1,sO 5 2,sP 6 3] [oB ft,oB Hh,oA .i,oB yVa,oA qX]
def yRw (f:YO)(d:yUc.den):=f d.1.1.1 d.1.2.2.2.2.2.1.1 (d.2.1.1,d.2.1.2.1,d.2.1.2.2.1) (d.2.2.1.1,d.2.2.1.2.1) d.2.2.2.1 (d.2.2.2.2.1.1,d.2.2.2.2.1.2.1,d.2.2.2.2.1.2.2.1) d.2.2.2.2.2.1
def Qo:zW:=⟨[yUc],[(.exit 0,yOu)],YP,fun k d=>yRw (F4 k k) d,fun b x _ K=>K (.exit 0) (zN b yOu (((x.1,()),(),(),(),(),()),((x.2.1.1,x.2.1.2.1,x.2.1.2.2,()),(x.2.2.1.1,x.2.2.1.2,()),x.2.2.2.1,(x.2.2.2.2.1.1,x.2.2.2.2.1.2.1,x.2.2.2.2.1.2.2,()),x.2.2.2.2.2,())))⟩
def yN3:zE:=⟨[(0,.c (.dat true (.int .u8))),sP 2 0,sP 4 1,sP 6 2,sI 9],[oB ft,oB Hh,oB vAt,oA qX,oA (.sl .i),oA .i,oA (.sl .i),oA .i,oA (.sl .i),oA zG],[(6,some 7,zG,false)]⟩
def yWo:zE:=sp [(0,.c (.dat true (.int .u8))),sP 2 0,sP 4 1,sP 6 2] [oB ft,oB Hh,oB vAt,oA qX,oA (.sl .i),oA .i,oA (.sl .i),oA .i,oA (.sl .i),oA zG]
def yNk (f:YQ)(d:yN3.den):=f d.1.1.1 d.1.2.2.2.2.1.1 (d.2.1.1,d.2.1.2.1,d.2.1.2.2.1) (d.2.2.1.1,d.2.2.1.2.1) (d.2.2.2.1.1,d.2.2.2.1.2.1,d.2.2.2.1.2.2.1) d.2.2.2.2.1 d.2.2.2.2.2.1 d.2.2.2.2.2.2.1 d.2.2.2.2.2.2.2.1 d.2.2.2.2.2.2.2.2.1 d.2.2.2.2.2.2.2.2.2.1 d.2.2.2.2.2.2.2.2.2.2.1
def Qp:zW:=⟨[yN3],[(.exit 2,yWo)],YR,fun k d=>yNk (F5 k k) d,fun b x _ K=>K (.exit 2) (zN b yWo (((x.1,()),(),(),(),()),((x.2.1.1,x.2.1.2.1,x.2.1.2.2,()),(x.2.2.1.1,x.2.2.1.2,()),(x.2.2.2.1.1,x.2.2.2.1.2.1,x.2.2.2.1.2.2,()),x.2.2.2.2.1,x.2.2.2.2.2.1,x.2.2.2.2.2.2.1,x.2.2.2.2.2.2.2.1,x.2.2.2.2.2.2.2.2.1,x.2.2.2.2.2.2.2.2.2.1,x.2.2.2.2.2.2.2.2.2.2,())))⟩
def YS:qA:=⟨[],[(5,Qo),(15,Qp)],[],true⟩
theorem vSv:zU prog 1000 0 146 (zR (zS f37) 0) Qo:=lp (A:=YS) Qo (fun d=>(d.1.1.1,(d.2.1.1,d.2.1.2.1,d.2.1.2.2.1),(d.2.2.1.1,d.2.2.1.2.1),d.2.2.2.1,(d.2.2.2.2.1.1,d.2.2.2.2.1.2.1,d.2.2.2.2.1.2.2.1),d.2.2.2.2.2.1)) yRw F4 Pd (e5 YG YL Hg Cd YN) zF
theorem vHy:zU prog 1000 0 146 (zR (zS f37) 1) Qp:=lp (A:=YS) Qp (fun d=>(d.1.1.1,(d.2.1.1,d.2.1.2.1,d.2.1.2.2.1),(d.2.2.1.1,d.2.2.1.2.1),(d.2.2.2.1.1,d.2.2.2.1.2.1,d.2.2.2.1.2.2.1),d.2.2.2.2.1,d.2.2.2.2.2.1,d.2.2.2.2.2.2.1,d.2.2.2.2.2.2.2.1,d.2.2.2.2.2.2.2.2.1,d.2.2.2.2.2.2.2.2.2.1,d.2.2.2.2.2.2.2.2.2.2.1)) yNk F5 Pe (e5 YG YL Hg Cd YN) zF
def vO8:=zJ 37 [.c (.dat true (.int .u8))] (.tup [(true,yp),(false,[.bool])]) (fun k d=>Ky k d.1) (fun x=>(wZ x.1 (x.2,()))) (fun d=>((qV d),d.2.2.2.2.2.2.2.2.2.2.2.1))
theorem yG2:zD prog vO8:=fA f37 YS (e5 YG YL Hg Cd YN) (oP (n:=2) (by kernel_rfl) fun i hi=>match i,hi with|0,_=>⟨Qo,by kernel_rfl,vSv⟩|1,_=>⟨Qp,by kernel_rfl,vHy⟩|i+2,hi=>absurd hi (by omega))
def YT:=zJ 98 [.c .i] (.c .i) (fun k d=>uo k d.1) (fun x=>(x,())) (fun d=>d.1)
theorem Qq:zD prog YT:=fA f98 n0 e0 zF
def YU:=zJ 44 [.c (.dat false (.int .u8))] (.tup [(true,qu),(false,vC)]) (fun k d=>A4 k d.1) (fun x=>(ir x.1 (x.2,()))) (fun d=>((wG d),d.2.2.2.2.2.2.2.1))
theorem YV:zD prog YU:=fA f44 n0 (e2 Qf Qq) zF
def vIc:=zJ 39 [.c (.dat false (.int .u8))] (.tup [(true,[.i,.i,.i,.i,.i,.i,.i,.i]),(false,vC)]) (fun k d=>sU k d.1) (fun x=>(Hi x.1 (x.2,()))) (fun d=>((nZ d),d.2.2.2.2.2.2.2.2.1))
theorem yPb:zD prog vIc:=fA f39 n0 (e2 Qf YV) zF
def YW:=zJ 150 [.c .i] (.c .bool) (fun k d=>O7 k d.1) (fun x=>(x,())) (fun d=>d.1)
theorem vM7:zD prog YW:=fA f150 n0 e0 zF
def vS4:=zJ 151 [.c .i] (.c .bool) (fun k d=>Ku k d.1) (fun x=>(x,())) (fun d=>d.1)
theorem vJf:zD prog vS4:=fA f151 n0 e0 zF
def yTq:zE:=sp [(13,.c (.dat true .i)),sI 14,sI 15] []
def yQv:zE:=sp [(2,.c .bool)] []
def yHh (f:YX)(d:yTq.den):=f d.1.1.1 d.1.2.1.1 d.1.2.2.1.1
def YY:zW:=⟨[yTq],[(.exit 0,yS2),(.ret,yQv)],(Unit⊕Bool),fun k d=>yHh (mh k k) d,fun b x _ K=>match x with|.inl x=>K (.exit 0) (zN b yS2 ((),()))|.inr x=>K .ret (zN b yQv (((x,()),()),()))⟩
def yIg:qA:=⟨[],[(5,YY)],[],true⟩
theorem vD2:zU prog 1000 0 22 (zR (zS f152) 0) YY:=lp (A:=yIg) YY (fun d=>match d with|.inl d=>.inl ()|.inr d=>.inr d.1.1.1) yHh mh lz (e1 Qq) zF
def vX3:=zJ 152 [.agg vO] (.c .bool) (fun k d=>kb k (wG d)) (fun x=>(x,())) (fun d=>d.1)
theorem yVz:zD prog vX3:=fA f152 yIg (e1 Qq) (loops1 vD2)
def vKs:=zJ 91 [.agg ki,.agg tf,.agg LB] (.c .i) (fun k d=>uO k (yV d) (qq d) (YZ d)) (fun x=>(x,())) (fun d=>d.1)
theorem Y0:zD prog vKs:=fA f91 n0 (e3 vM7 vJf yVz) zF
def Y1:=zJ 195 [.agg vO,.ptr [.i]] (.c .bool) (fun k d=>(mj (V5 k) d)) (fun x=>(x,())) (fun d=>d.1)
theorem yFp:zD prog Y1:=fA f195 ⟨[],[],[],false⟩ e0 zF
def yW0:zE:=⟨[(1,.c (.lit (.fn 195 [1001000]))),sO 5 1,(8,.c (.dat false zG)),sI 9,sI 10],[.robox [.i],oA zG],[(5,none,zG,false)]⟩
def yLh:zE:=sp [sO 5 0] [oA zG]
def yDa (f:Y2)(d:yW0.den):=f d.1.2.2.1.1 d.1.2.2.2.1.1 d.1.2.2.2.2.1.1 d.2.1.1 d.2.2.1
def Y3:zW:=⟨[yW0],[(.exit 0,yLh)],Y4,fun k d=>yDa (Ki k k) d,fun b x _ K=>K (.exit 0) (zN b yLh (((),()),(x,())))⟩
def yFe:qA:=⟨[],[(3,Y3)],[],false⟩
theorem vQ2:zU prog 1000 0 23 (zR (zS f194) 0) Y3:=lp (A:=yFe) Y3 (fun d=>d.2.1) yDa Ki FH (e1 yFp) zF
def vOb:=zJ 194 [.c (.dat false zG),.fn 195 [[.i]]] (.c (.own zG)) (fun k d=>V4 k d.1 d.2.1) (fun x=>(x,())) (fun d=>d.1)
theorem vRq:zD prog vOb:=fA f194 yFe (e1 yFp) (loops1 vQ2)
def vUh:=zJ 153 [.c (.dat false zG),.c .i] (.c (.own zG)) (fun k d=>Kh k d.1 d.2.1) (fun x=>(x,())) (fun d=>d.1)
theorem LC:zD prog vUh:=fA f153 ⟨[],[],[],false⟩ (e1 vRq) zF
def Y5:=yU 93 [.ptr true [.p .i,.p (.nil),.p .i,.p .i,.p .i,.p .i,.p (.nil),.p (.nil),.p (.nil),.p (.nil),.p (.nil),.p (.nil),.p (.nil),.p (.nil),.p .i,.p .bool,.p .i,.p (.nil)],.c (.p .i),.c (.p (.dat false .i))] (.tup []) [[.i,.own jA,.i,.i,.i,.i,.own qX,.mat,.own .i,.mat,.own .i,.mat,.own zG,.own .i,.i,.bool,.i,.own yH]] 0 (fun k d=>yDo k (d.1,(Qr d (d.2.2.2.2.2.2.2.2.2.2.2.2.2.2.1,d.2.2.2.2.2.2.2.2.2.2.2.2.2.2.2.1,d.2.2.2.2.2.2.2.2.2.2.2.2.2.2.2.2.1))) d.2.2.2.2.2.2.2.2.2.2.2.2.2.2.2.2.2.2.1 d.2.2.2.2.2.2.2.2.2.2.2.2.2.2.2.2.2.2.2.1) (fun x=>(jH x ())) (fun d=>(jY d))
theorem vE9:zD prog Y5:=fX f93 n0 1 e0 zF
def vWa:=zJ 92 [.agg tf,.c .i] (.c (.own yH)) (fun k d=>BZ k (qV d) d.2.2.2.2.2.2.2.2.2.2.2.1) (fun x=>(x,())) (fun d=>d.1)
theorem vFb:zD prog vWa:=fA f92 n0 (e2 LC vE9) zF
def vS1:=yU 93 [.ptr true yq,.c (.p .i),.c (.p (.dat false .i))] (.tup []) [lA] 0 (fun k d=>K4 k (lB d) d.2.2.2.2.2.2.2.2.2.2.2.2.2.2.2.2.2.2.1 d.2.2.2.2.2.2.2.2.2.2.2.2.2.2.2.2.2.2.2.1) (fun x=>(jH x ())) (fun d=>(jY d))
theorem yGd:zD prog vS1:=fX f93 n0 1 e0 zF
def vUj:=zJ 84 [.c .i,.c .i,.c .i] (.c .bool) (fun k d=>vF k d.1 d.2.1 d.2.2.1) (fun x=>(x,())) (fun d=>d.1)
theorem iu:zD prog vUj:=fA f84 n0 e0 zF
def vZb:=zJ 269 [.agg ki,.c .i] (.c .bool) (fun k d=>Kr k (yV d) d.2.2.2.2.2.1) (fun x=>(x,())) (fun d=>d.1)
theorem vNa:zD prog vZb:=fA f269 n0 e0 zF
def vOn:=zJ 237 [.agg ki,.c .i,.agg vO] (.c .bool) (fun k d=>O2 k (yV d) d.2.2.2.2.2.1 (Y6 d)) (fun x=>(x,())) (fun d=>d.1)
theorem vJ0:zD prog vOn:=fA f237 n0 (e1 vNa) zF
def vS8:=zJ 201 [.agg ki,.c .i,.c .i] (.c .i) (fun k d=>BE k (yV d) d.2.2.2.2.2.1 d.2.2.2.2.2.2.1) (fun x=>(x,())) (fun d=>d.1)
theorem Y7:zD prog vS8:=fA f201 n0 e0 zF
def vGo:=zJ 196 [.agg ki,.c .i,.agg vO] (.c .i) (fun k d=>F0 k (yV d) d.2.2.2.2.2.1 (Y6 d)) (fun x=>(x,())) (fun d=>d.1)
theorem yZh:zD prog vGo:=fA f196 n0 (e2 vJ0 Y7) zF
def vFi:=zJ 267 [.c .i] (.c .bool) (fun k d=>OA k d.1) (fun x=>(x,())) (fun d=>d.1)
theorem vVr:zD prog vFi:=fA f267 n0 e0 zF
def vL4:=zJ 233 [.c .i,.c .i] (.c .bool) (fun k d=>Oz k d.1 d.2.1) (fun x=>(x,())) (fun d=>d.1)
theorem vCi:zD prog vL4:=fA f233 n0 (e1 vVr) zF
def vKr:=zJ 234 [.c .i] (.c .bool) (fun k d=>OC k d.1) (fun x=>(x,())) (fun d=>d.1)
theorem yId:zD prog vKr:=fA f234 n0 e0 zF
def yMl:zE:=sp [(0,.c (.dat false .i)),sI 1,sI 6,sI 7,sI 8] []
def yU6:zE:=sp [(0,.c (.dat false .i)),sI 1,sI 6,sI 7] []
def yH0 (f:Y8)(d:yMl.den):=f d.1.1.1 d.1.2.1.1 d.1.2.2.1.1 d.1.2.2.2.1.1 d.1.2.2.2.2.1.1
def Y9:zW:=⟨[yMl],[(.exit 0,yU6)],Za,fun k d=>yH0 (J3 k k) d,fun b x _ K=>K (.exit 0) (zN b yU6 (((x.1,()),(x.2.1,()),(x.2.2.1,()),(x.2.2.2,()),()),()))⟩
def yVb:qA:=⟨[],[(3,Y9)],[],true⟩
theorem vYp:zU prog 1000 0 54 (zR (zS f191) 0) Y9:=lp (A:=yVb) Y9 (fun d=>(d.1.1.1,d.1.2.1.1,d.1.2.2.1.1,d.1.2.2.2.1.1)) yH0 J3 OB (e2 vCi yId) zF
def vCu:=zJ 191 [.c (.dat false .i),.c .i] (.tup [(false,vC),(false,[.bool])]) (fun k d=>Fi k d.1 d.2.1) (fun x=>(x.1,x.2,())) (fun d=>(d.1,d.2.1))
theorem yN4:zD prog vCu:=fA f191 yVb (e2 vCi yId) (loops1 vYp)
def vNv:=xh 239 false .i (.own .i) pW
theorem LD:zD prog vNv:=fC f239 ⟨[],[],[],false⟩ e0 zF
theorem vTx (A X:Option Addr)(n c vc:Nat)(w w':World)(rv:Value)(hr:(Builtin.append_ #[36,36] 36 #[.slice A n c,.slice X 1 vc]).run prog w=.ok rv w'):
    Calls prog 238 #[.slice A n c,.int .i64 n,.slice X 1 vc] w fun e oU=>e=.returned rv∧oU=w':=by
  have t0:prog.underlying 36=some (.slice 2):=by kernel_rfl
  have t3:prog.underlying 3=some (.int .i64):=by kernel_rfl
  have z0:∀w,(Go.sizeOf 2).run prog w=.ok 1 w:=fun w=>by kernel_rfl
  have u0:=run_underlying t0;have u3:=run_underlying t3
  go_enter Proofs.Tryz.func238,Proofs.Tryz.ntmps238
  go_wp2_with (at_builtin;refine Lib.wpList_append_run _ rfl _ _ _ _ rfl _ _ rfl rfl _ _ hr ?_)
  all_goals (go_ret;exact⟨rfl,rfl⟩)
theorem vX9:Ns prog 238 36 3 1 where
  ends:=vTx
  grow B off n c i X vo vc N G w w1 w2 w3 hi hnc aO KA hG hz hA hB:=by
    simp only[Nat.mul_one] at hA hB;have t0:prog.underlying 36=some (.slice 2):=by kernel_rfl
    have t3:prog.underlying 3=some (.int .i64):=by kernel_rfl
    have z0:∀w,(Go.sizeOf 2).run prog w=.ok 1 w:=fun w=>by kernel_rfl
    have u0:=run_underlying t0;have u3:=run_underlying t3;have mixed:prog.follows .mixedOrders=true:=gu;have Zb:¬((i:Int)=(n:Int)):=by omega
    have sm:IntKind.i64.wrap ((i:Int)+1)=(i:Int)+1:=by rw[IntKind.wrap_i64];omega
    have fi:(0:Int)≤(i:Int)+1:=by omega
    have fj:i≤n:=by omega
    have gH:((i:Int)+1).toNat=i+1:=by omega
    have Zc:¬(c=i):=by omega
    have hz3:(c:Int)<(n:Int)+1:=by omega
    have Lu:(i:Int)≤(n:Int):=by omega
    have hGi:¬(G=i):=by omega
    have Zd:¬(G=i+1):=by omega
    go_enter Proofs.Tryz.func238,Proofs.Tryz.ntmps238
    go_wp2_with (first
      |(at_builtin;refine Lib.wpList_append_run _ rfl _ _ _ _ rfl _ _ rfl rfl _ _ hz ?_)
      |(at_builtin;refine Nw _ rfl _ _ 36 36 rfl _ _ rfl rfl (hA _) ?_))
    go_region_law_o (refine Nx rfl _ _ 36 36 rfl (.slice (some ⟨N,(i+1),none⟩) (n+1-(i+1)) (G-(i+1))) (.slice (some ⟨B,off+i,none⟩) (n-i) (c-i)) (by simp[Act.eval,Act.put]) (by simp[Act.eval,Act.put]) (hB (G-(i+1)) (c-i)) ?_)
    go_wp2
    go_ret
    exact⟨rfl,rfl⟩
  shift B off n c i X vo vc w w1 w2 hi aO KA se hA hB:=by
    simp only[Nat.mul_one] at hA hB;have t0:prog.underlying 36=some (.slice 2):=by kernel_rfl
    have t3:prog.underlying 3=some (.int .i64):=by kernel_rfl
    have z0:∀w,(Go.sizeOf 2).run prog w=.ok 1 w:=fun w=>by kernel_rfl
    have u0:=run_underlying t0;have u3:=run_underlying t3;have mixed:prog.follows .mixedOrders=true:=gu;have Zb:¬((i:Int)=(n:Int)):=by omega
    have sm:IntKind.i64.wrap ((i:Int)+1)=(i:Int)+1:=by rw[IntKind.wrap_i64];omega
    have fi:(0:Int)≤(i:Int)+1:=by omega
    have fj:i≤n:=by omega
    have gH:((i:Int)+1).toNat=i+1:=by omega
    have Zc:¬(c=i):=by omega
    have uY:=fun lb cb=>yMx (P:=prog) (fo:=270) (tb:=4) (e:=2) (size:=1) Proofs.Tryz.func270 (by kernel_rfl) (by kernel_rfl) (by kernel_rfl) (by kernel_rfl) t0 z0 se vo (off+(i+1)) vc lb cb
    have hb2:¬(c=i+1):=by omega
    have Lu:(i:Int)≤(n:Int)+1:=by omega
    go_enter Proofs.Tryz.func238,Proofs.Tryz.ntmps238
    go_wp2_with (simp only[uY])
    go_region_law_o (refine Nx rfl _ _ 36 36 rfl (.slice (some ⟨B,off+(i+1),none⟩) (n-i) (c-(i+1))) (.slice (some ⟨B,off+i,none⟩) (n+1-i) (c-i)) (by simp[Act.eval,Act.put]) (by simp[Act.eval,Act.put]) (hA _ _) ?_)
    go_wp2_with (at_builtin;refine Nw _ rfl _ _ 36 36 rfl _ _ rfl rfl (hB _) ?_)
    go_ret
    exact⟨rfl,rfl⟩
def vEw:Nat×nK:=(238,Un .i 8)
theorem vDq:zD prog vEw:=yOj (e:=2) (fn:=f238) vX9
def Ze:=zJ 197 [.c (.dat true .i),.c .i] (.tup [(false,[.fro .i]),(false,vC)]) (fun k d=>Fj k d.1 d.2.1) (fun x=>(x.1,x.2,())) (fun d=>(d.1,d.2.1))
theorem ySw:zD prog Ze:=fA f197 n0 (e3 yN4 LD vDq) zF
def vZr:=zJ 167 [.agg vO,.ptr [.i]] (.c .bool) (fun k d=>(mj (VC k) d)) (fun x=>(x,())) (fun d=>d.1)
theorem yH3:zD prog vZr:=fA f167 ⟨[],[],[],false⟩ e0 zF
def yWi:zE:=sp [(0,.c (.dat false zG)),(1,.c (.lit (.fn 167 [1001000]))),sI 7,sI 8] [.robox [.i]]
def yYt (f:Zf)(d:yWi.den):=f d.1.1.1 d.1.2.2.1.1 d.1.2.2.2.1.1 d.2.1.1
def Zg:zW:=⟨[yWi],[(.exit 0,yS2),(.ret,vAc)],(Unit⊕Int),fun k d=>yYt (E6 k k) d,fun b x _ K=>match x with|.inl x=>K (.exit 0) (zN b yS2 ((),()))|.inr x=>K .ret (zN b vAc (((x,()),()),()))⟩
def vBk:qA:=⟨[],[(2,Zg)],[],false⟩
theorem vGt:zU prog 1000 0 19 (zR (zS f166) 0) Zg:=lp (A:=vBk) Zg (fun d=>match d with|.inl d=>.inl ()|.inr d=>.inr d.1.1.1) yYt E6 E7 (e1 yH3) zF
def vO6:=zJ 166 [.c (.dat false zG),.fn 167 [[.i]]] (.c .i) (fun k d=>VD k d.1 d.2.1) (fun x=>(x,())) (fun d=>d.1)
theorem vUy:zD prog vO6:=fA f166 vBk (e1 yH3) (loops1 vGt)
def vQ8:=zJ 97 [.c (.dat false zG),.c .i] (.c .i) (fun k d=>nS k d.1 d.2.1) (fun x=>(x,())) (fun d=>d.1)
theorem yr:zD prog vQ8:=fA f97 ⟨[],[],[],false⟩ (e1 vUy) zF
def Zh:=zJ 268 [.c .i] (.c .bool) (fun k d=>Ox k d.1) (fun x=>(x,())) (fun d=>d.1)
theorem vVb:zD prog Zh:=fA f268 ⟨[],[],[],false⟩ e0 zF
def vTk:=zJ 236 [.c .i,.c .i] (.c .i) (fun k d=>JW k d.1 d.2.1) (fun x=>(x,())) (fun d=>d.1)
theorem vYm:zD prog vTk:=fA f236 ⟨[],[],[],false⟩ (e1 vVb) zF
def qZ9:zE:=sp [sI 3,(6,.c (.dat false .i)),sI 7,sI 8] []
def yNe:zE:=sp [sI 3] []
def yO4:zE:=sp [sI 2] []
def yOg (f:Zi)(d:qZ9.den):=f d.1.1.1 d.1.2.1.1 d.1.2.2.1.1 d.1.2.2.2.1.1
def Zj:zW:=⟨[qZ9],[(.exit 0,yNe),(.ret,yO4)],(Int⊕Int),fun k d=>yOg (JV k k) d,fun b x _ K=>match x with|.inl x=>K (.exit 0) (zN b yNe (((x,()),()),()))|.inr x=>K .ret (zN b yO4 (((x,()),()),()))⟩
def yHr:qA:=⟨[],[(3,Zj)],[],false⟩
theorem vDa:zU prog 1000 0 18 (zR (zS f235) 0) Zj:=lp (A:=yHr) Zj (fun d=>match d with|.inl d=>.inl d.1.1.1|.inr d=>.inr d.1.1.1) yOg JV yBg e0 zF
def vCo:=zJ 235 [.c (.dat false .i)] (.c .i) (fun k d=>Ow k d.1) (fun x=>(x,())) (fun d=>d.1)
theorem vD0:zD prog vCo:=fA f235 yHr e0 (loops1 vDa)
def vXe:=zJ 193 [.agg vO,.agg vO] (.c .i) (fun k d=>(Hj (E8 k) d)) (fun x=>(x,())) (fun d=>d.1)
theorem Hk:zD prog vXe:=fA f193 ⟨[],[],[],false⟩ (e2 vYm vD0) zF
def vJg:=xh 241 false zG (.own zG) xy
theorem Qs:zD prog vJg:=fC f241 ⟨[],[],[],false⟩ e0 zF
theorem vNc (A X:Option Addr)(n c vc:Nat)(w w':World)(rv:Value)(hr:(Builtin.append_ #[39,39] 39 #[.slice A n c,.slice X 1 vc]).run prog w=.ok rv w'):
    Calls prog 240 #[.slice A n c,.int .i64 n,.slice X 1 vc] w fun e oU=>e=.returned rv∧oU=w':=by
  have t0:prog.underlying 39=some (.slice 142):=by kernel_rfl
  have t3:prog.underlying 3=some (.int .i64):=by kernel_rfl
  have z0:∀w,(Go.sizeOf 142).run prog w=.ok 7 w:=fun w=>by kernel_rfl
  have u0:=run_underlying t0;have u3:=run_underlying t3
  go_enter Proofs.Tryz.func240,Proofs.Tryz.ntmps240
  go_wp2_with (at_builtin;refine Lib.wpList_append_run _ rfl _ _ _ _ rfl _ _ rfl rfl _ _ hr ?_)
  all_goals (go_ret;exact⟨rfl,rfl⟩)
theorem vWd:Ns prog 240 39 3 7 where
  ends:=vNc
  grow B off n c i X vo vc N G w w1 w2 w3 hi hnc aO KA hG hz hA hB:=by
    have t0:prog.underlying 39=some (.slice 142):=by kernel_rfl
    have t3:prog.underlying 3=some (.int .i64):=by kernel_rfl
    have z0:∀w,(Go.sizeOf 142).run prog w=.ok 7 w:=fun w=>by kernel_rfl
    have u0:=run_underlying t0;have u3:=run_underlying t3;have mixed:prog.follows .mixedOrders=true:=gu;have Zb:¬((i:Int)=(n:Int)):=by omega
    have sm:IntKind.i64.wrap ((i:Int)+1)=(i:Int)+1:=by rw[IntKind.wrap_i64];omega
    have fi:(0:Int)≤(i:Int)+1:=by omega
    have fj:i≤n:=by omega
    have gH:((i:Int)+1).toNat=i+1:=by omega
    have Zc:¬(c=i):=by omega
    have hz3:(c:Int)<(n:Int)+1:=by omega
    have Lu:(i:Int)≤(n:Int):=by omega
    have hGi:¬(G=i):=by omega
    have Zd:¬(G=i+1):=by omega
    go_enter Proofs.Tryz.func240,Proofs.Tryz.ntmps240
    go_wp2_with (first
      |(at_builtin;refine Lib.wpList_append_run _ rfl _ _ _ _ rfl _ _ rfl rfl _ _ hz ?_)
      |(at_builtin;refine Nw _ rfl _ _ 39 39 rfl _ _ rfl rfl (hA _) ?_))
    go_region_law_o (refine Nx rfl _ _ 39 39 rfl (.slice (some ⟨N,(i+1)*7,none⟩) (n+1-(i+1)) (G-(i+1))) (.slice (some ⟨B,off+i*7,none⟩) (n-i) (c-i)) (by simp[Act.eval,Act.put]) (by simp[Act.eval,Act.put]) (hB (G-(i+1)) (c-i)) ?_)
    go_wp2
    go_ret
    exact⟨rfl,rfl⟩
  shift B off n c i X vo vc w w1 w2 hi aO KA se hA hB:=by
    have t0:prog.underlying 39=some (.slice 142):=by kernel_rfl
    have t3:prog.underlying 3=some (.int .i64):=by kernel_rfl
    have z0:∀w,(Go.sizeOf 142).run prog w=.ok 7 w:=fun w=>by kernel_rfl
    have u0:=run_underlying t0;have u3:=run_underlying t3;have mixed:prog.follows .mixedOrders=true:=gu;have Zb:¬((i:Int)=(n:Int)):=by omega
    have sm:IntKind.i64.wrap ((i:Int)+1)=(i:Int)+1:=by rw[IntKind.wrap_i64];omega
    have fi:(0:Int)≤(i:Int)+1:=by omega
    have fj:i≤n:=by omega
    have gH:((i:Int)+1).toNat=i+1:=by omega
    have Zc:¬(c=i):=by omega
    have uY:=fun lb cb=>yMx (P:=prog) (fo:=272) (tb:=4) (e:=142) (size:=7) Proofs.Tryz.func272 (by kernel_rfl) (by kernel_rfl) (by kernel_rfl) (by kernel_rfl) t0 z0 se vo (off+(i+1)*7) vc lb cb
    have hb2:¬(c=i+1):=by omega
    have Lu:(i:Int)≤(n:Int)+1:=by omega
    go_enter Proofs.Tryz.func240,Proofs.Tryz.ntmps240
    go_wp2_with (simp only[uY])
    go_region_law_o (refine Nx rfl _ _ 39 39 rfl (.slice (some ⟨B,off+(i+1)*7,none⟩) (n-i) (c-(i+1))) (.slice (some ⟨B,off+i*7,none⟩) (n+1-i) (c-i)) (by simp[Act.eval,Act.put]) (by simp[Act.eval,Act.put]) (hA _ _) ?_)
    go_wp2_with (at_builtin;refine Nw _ rfl _ _ 39 39 rfl _ _ rfl rfl (hB _) ?_)
    go_ret
    exact⟨rfl,rfl⟩
def vHn:Nat×nK:=(240,Un zG 56)
theorem Qt:zD prog vHn:=yOj (e:=142) (fn:=f240) vWd
def yFu:zE:=sp [(0,.c (.dat true zG)),sP 3 0,sI 6] [oB wW]
def yZ0 (f:Zk)(d:yFu.den):=f d.1.1.1 d.1.2.2.1.1 (wG d.2.1)
def Zl:zW:=⟨[yFu],[(.exit 1,yFu)],Zm,fun k d=>yZ0 (JZ k k) d,fun b x _ K=>K (.exit 1) (zN b yFu (((x.1,()),(),(x.2.1,()),()),((ir x.2.2 ()),())))⟩
def yZd:qA:=⟨[],[(6,Zl)],[],true⟩
theorem vOt:zU prog 1000 0 40 (zR (zS f198) 0) Zl:=lp (A:=yZd) Zl (fun d=>(d.1.1.1,d.1.2.2.1.1,(wG d.2.1))) yZ0 JZ Fc (e4 yr Hk Qs Qt) zF
def vLs:=zJ 198 [.c (.dat true zG),.agg vO] (.tup [(false,[.fro zG]),(false,vC)]) (fun k d=>xz k d.1 (Qu d)) (fun x=>(x.1,x.2,())) (fun d=>(d.1,d.2.1))
theorem Qv:zD prog vLs:=fA f198 yZd (e4 yr Hk Qs Qt) (loops1 vOt)
def vGc:=yU 154 [.ptr true yt,.agg LF] (.c .i) [lA] 0 (fun k d=>O3 k (jY d) (yZr d)) (fun x=>(x.1,(jH x.2 ()))) (fun d=>(d.1,(kj d)))
theorem vGj:zD prog vGc:=fX f154 n0 1 (e4 iu yZh ySw Qv) zF
def vT2:=zJ 199 [.ptr Zn,.c .i] (.tup [(true,qu),(false,vC)]) (fun k d=>Zo k (jY d) d.2.2.2.2.2.2.2.2.2.2.2.2.2.2.2.2.2.2.1) (fun x=>(ir x.1 (x.2,()))) (fun d=>((wG d),d.2.2.2.2.2.2.2.1))
theorem yHu:zD prog vT2:=fA f199 n0 (e1 yr) zF
def vMe:=yU 242 [.c (.own zG),.c (.p .i),.c (.p .i)] (.c (.own zG)) [] 0 (fun k d=>JU k d.1 d.2.1 d.2.2.1) (fun x=>(x,())) (fun d=>d.1)
theorem yQ6:zD prog vMe:=fX f242 ⟨[],[],[],false⟩ 0 e0 zF
def vZ1:=zJ 200 [.c (.dat true zG),.c .i] (.tup [(false,[.fro zG]),(true,qu),(false,vC)]) (fun k d=>qa k d.1 d.2.1) (fun x=>(Qw x ())) (fun d=>(Qx d))
theorem qw:zD prog vZ1:=fA f200 ⟨[],[],[],false⟩ (e3 yr Qs yQ6) zF
def vOm:=yU 93 [.ptr true yt,.c (.p .i),.c (.p (.dat false .i))] (.tup []) [lA] 0 (fun k d=>uN k (jY d) d.2.2.2.2.2.2.2.2.2.2.2.2.2.2.2.2.2.2.1 d.2.2.2.2.2.2.2.2.2.2.2.2.2.2.2.2.2.2.2.1) (fun x=>(jH x ())) (fun d=>(jY d))
theorem yDb:zD prog vOm:=fX f93 n0 1 e0 zF
def vRz:=zJ 202 [.c (.dat true zG),.c .i,.c .i] (.tup [(false,[.fro zG]),(false,vC)]) (fun k d=>Fe k d.1 d.2.1 d.2.2.1) (fun x=>(x.1,x.2,())) (fun d=>(d.1,d.2.1))
theorem yL5:zD prog vRz:=fA f202 n0 (e2 qw Qv) zF
def vRg:=zJ 200 [.c (.dat false zG),.c .i] (.tup [(false,[.own zG]),(true,qu),(false,vC)]) (fun k d=>VJ k d.1 d.2.1) (fun x=>(Qw x ())) (fun d=>(Qx d))
theorem yHn:zD prog vRg:=fA f200 ⟨[],[],[],false⟩ (e3 yr Qs yQ6) zF
def yR3:zE:=sp [sO 6 0,sP 7 1,sI 9] [oA zG,oB wW]
def yDy (f:Zp)(d:yR3.den):=f d.1.2.2.1.1 d.2.1 (wG d.2.2.1)
def Zq:zW:=⟨[yR3],[(.exit 0,yR3)],Zr,fun k d=>yDy (J2 k k) d,fun b x _ K=>K (.exit 0) (zN b yR3 (((),(),(x.1,()),()),(x.2.1,(ir x.2.2 ()),())))⟩
def yMt:qA:=⟨[],[(5,Zq)],[],true⟩
theorem vHz:zU prog 1000 0 41 (zR (zS f203) 0) Zq:=lp (A:=yMt) Zq (fun d=>(d.1.2.2.1.1,d.2.1,(wG d.2.2.1))) yDy J2 Fg (e3 yHn Hk Qt) zF
def vVs:=zJ 203 [.c (.dat true zG),.c .i] (.tup [(false,[.fro zG]),(false,vC)]) (fun k d=>Fh k d.1 d.2.1) (fun x=>(x.1,x.2,())) (fun d=>(d.1,d.2.1))
theorem yYc:zD prog vVs:=fA f203 yMt (e3 yHn Hk Qt) (loops1 vHz)
def Zs:=zJ 204 [.c (.dat true zG),.c .i] (.tup [(false,[.fro zG]),(false,vC)]) (fun k d=>Ff k d.1 d.2.1) (fun x=>(x.1,x.2,())) (fun d=>(d.1,d.2.1))
theorem yLi:zD prog Zs:=fA f204 n0 (e2 qw Qv) zF
def vHa:=yU 155 [.ptr true yt,.agg vO] (.c .i) [lA] 0 (fun k d=>xN k (jY d) (Hl d)) (fun x=>(x.1,(jH x.2 ()))) (fun d=>(d.1,(kj d)))
theorem vTg:zD prog vHa:=fX f155 n0 1 (e8 yHu qw yDb iu Y7 yL5 yYc yLi) zF
def vP3:=xh 243 false qX (.own qX) UX
theorem vMh:zD prog vP3:=fC f243 ⟨[],[],[],false⟩ e0 zF
def Zt:=xh 208 true (.sl .i) (.jun) UU
theorem yV7:zD prog Zt:=fC f208 ⟨[],[],[],false⟩ e0 zF
def yA0:zE:=sp [sO 3 0,(8,.c (.dat true (.sl .i))),sI 9,sI 10] [.pmat]
def yY5:zE:=sp [sO 3 0] [.pmat]
def yWu (f:Zu)(d:yA0.den):=f d.1.2.1.1 d.1.2.2.1.1 d.1.2.2.2.1.1 d.2.1.1 d.2.1.2
def Zv:zW:=⟨[yA0],[(.exit 0,yY5)],(EQ×Nat),fun k d=>yWu (Jj k k) d,fun b x _ K=>K (.exit 0) (zN b yY5 (((),()),((x.1,x.2),())))⟩
def yOl:qA:=⟨[],[(3,Zv)],[],false⟩
theorem vI3:zU prog 1000 0 22 (zR (zS f244) 0) Zv:=lp (A:=yOl) Zv (fun d=>d.2.1) yWu Jj Ei (e2 yV7 LD) zF
def vJl:=zJ 244 [.c (.dat true (.sl .i))] (.c (.mat)) (fun k d=>Jk k d.1) (fun x=>(x,())) (fun d=>d.1)
theorem vQ0:zD prog vJl:=fA f244 yOl (e2 yV7 LD) (loops1 vI3)
def vW8:=zJ 205 [.agg [.dat false qX,.dat true (.sl .i),.dat false .i,.dat true (.sl .i)]] (.agg [.own qX,.mat,.own .i,.mat]) (fun k d=>(vJ (gk k) d)) (fun x=>(gO x ())) (fun d=>(fu d))
theorem pq:zD prog vW8:=fA f205 ⟨[],[],[],false⟩ (e3 vMh vQ0 LD) zF
def vH3:=zJ 206 [.ptr Zn,.c .i] (.c .bool) (fun k d=>Zw k (jY d) d.2.2.2.2.2.2.2.2.2.2.2.2.2.2.2.2.2.2.1) (fun x=>(x,())) (fun d=>d.1)
theorem yDz:zD prog vH3:=fA f206 n0 (e1 iu) zF
def vMt:=yU 156 [.ptr true yt,.agg vO] (.c .i) [lA] 0 (fun k d=>xO k (jY d) (Hl d)) (fun x=>(x.1,(jH x.2 ()))) (fun d=>(d.1,(kj d)))
theorem vFk:zD prog vMt:=fX f156 n0 1 (e3 pq yDz iu) zF
def vC7:=zJ 207 [.ptr Zn,.c .i] (.c .bool) (fun k d=>LG k (jY d) d.2.2.2.2.2.2.2.2.2.2.2.2.2.2.2.2.2.2.1) (fun x=>(x,())) (fun d=>d.1)
theorem Hm:zD prog vC7:=fA f207 n0 (e1 iu) zF
def vEv:=xh 208 true (.sl .i) (.own (.sl .i)) F1
theorem yUo:zD prog vEv:=fC f208 ⟨[],[],[],false⟩ e0 zF
def vNb:=zJ 209 [.c (.dat false .i),.c .i,.c .i] (.c (.own .i)) (fun k d=>qd k d.1 d.2.1 d.2.2.1) (fun x=>(x,())) (fun d=>d.1)
theorem Hn:zD prog vNb:=fA f209 n0 (e1 LD) zF
def Zx:=zJ 230 [.c .i] (.c .bool) (fun k d=>VN k d.1) (fun x=>(x,())) (fun d=>d.1)
theorem vEa:zD prog Zx:=fA f230 n0 e0 zF
def vMd:=zJ 231 [.c (.int .u64),.c (.int .u64)] (.tup [(false,[.int .u64]),(false,[.int .u64])]) (fun k d=>J4 k d.1 d.2.1) (fun x=>(x.1,x.2,())) (fun d=>(d.1,d.2.1))
theorem vSj:zD prog vMd:=fA f231 n0 e0 zF
def vF2:=zJ 293 [.c (.int .u64)] (.c .i) (fun k d=>vBv k d.1) (fun x=>(x,())) (fun d=>d.1)
theorem vO2:zD prog vF2:=fA f293 n0 e0 zF
def vH0:=zJ 266 [.c (.int .u64)] (.c .i) (fun k d=>yT9 k d.1) (fun x=>(x,())) (fun d=>d.1)
theorem Zy:zD prog vH0:=fA f266 n0 (e1 vO2) zF
def vA2:zE:=sp [(2,.c (.int .u64)),(8,.c (.int .u64)),(9,.c (.int .u64)),(10,.c (.int .u64)),(11,.c (.int .u64)),(13,.c (.int .u64)),(14,.c (.int .u64)),(15,.c (.int .u64)),(16,.c (.int .u64))] []
def yKq:zE:=sp [(2,.c (.int .u64)),(8,.c (.int .u64)),(9,.c (.int .u64)),(10,.c (.int .u64)),(11,.c (.int .u64)),(13,.c (.int .u64)),(14,.c (.int .u64)),(15,.c (.int .u64))] []
def yB9 (f:Zz)(d:vA2.den):=f d.1.1.1 d.1.2.1.1 d.1.2.2.1.1 d.1.2.2.2.1.1 d.1.2.2.2.2.1.1 d.1.2.2.2.2.2.1.1 d.1.2.2.2.2.2.2.1.1 d.1.2.2.2.2.2.2.2.1.1 d.1.2.2.2.2.2.2.2.2.1.1
def Qy:zW:=⟨[vA2],[(.exit 0,yKq)],qP,fun k d=>yB9 (ZB k k) d,fun b x _ K=>K (.exit 0) (zN b yKq (((x.1,()),(x.2.1,()),(x.2.2.1,()),(x.2.2.2.1,()),(x.2.2.2.2.1,()),(x.2.2.2.2.2.1,()),(x.2.2.2.2.2.2.1,()),(x.2.2.2.2.2.2.2,()),()),()))⟩
def yV8:zE:=sp [(2,.c (.int .u64)),(8,.c (.int .u64)),(9,.c (.int .u64)),(10,.c (.int .u64)),(14,.c (.int .u64)),(15,.c (.int .u64)),(16,.c (.int .u64)),(17,.c (.int .u64)),(18,.c (.int .u64))] []
def yVj:zE:=sp [(2,.c (.int .u64)),(8,.c (.int .u64)),(14,.c (.int .u64)),(15,.c (.int .u64)),(17,.c (.int .u64)),(18,.c (.int .u64))] []
def yCu (f:ZC)(d:yV8.den):=f d.1.1.1 d.1.2.1.1 d.1.2.2.1.1 d.1.2.2.2.1.1 d.1.2.2.2.2.1.1 d.1.2.2.2.2.2.1.1 d.1.2.2.2.2.2.2.1.1 d.1.2.2.2.2.2.2.2.1.1 d.1.2.2.2.2.2.2.2.2.1.1
def Qz:zW:=⟨[yV8],[(.exit 2,yVj)],LW,fun k d=>yCu (ZE k k) d,fun b x _ K=>K (.exit 2) (zN b yVj (((x.1,()),(x.2.1,()),(x.2.2.1,()),(x.2.2.2.1,()),(x.2.2.2.2.1,()),(x.2.2.2.2.2,()),()),()))⟩
def ZF:qA:=⟨[],[(17,Qy),(24,Qz)],[],true⟩
theorem ZG:zU prog 1000 0 135 (zR (zS f232) 0) Qy:=lp (A:=ZF) Qy (fun d=>(d.1.1.1,d.1.2.1.1,d.1.2.2.1.1,d.1.2.2.2.1.1,d.1.2.2.2.2.1.1,d.1.2.2.2.2.2.1.1,d.1.2.2.2.2.2.2.1.1,d.1.2.2.2.2.2.2.2.1.1)) yB9 ZB yMc (e1 Zy) zF
theorem ZH:zU prog 1000 0 135 (zR (zS f232) 1) Qz:=lp (A:=ZF) Qz (fun d=>(d.1.1.1,d.1.2.1.1,d.1.2.2.1.1,d.1.2.2.2.1.1,d.1.2.2.2.2.1.1,d.1.2.2.2.2.2.1.1)) yCu ZE yFj (e1 Zy) zF
def vX6:=zJ 232 [.c (.int .u64),.c (.int .u64),.c (.int .u64)] (.tup [(false,[.int .u64]),(false,[.int .u64])]) (fun k d=>OF k d.1 d.2.1 d.2.2.1) (fun x=>(x.1,x.2,())) (fun d=>(d.1,d.2.1))
theorem vXj:zD prog vX6:=fA f232 ZF (e1 Zy) (oP (n:=2) (by kernel_rfl) fun i hi=>match i,hi with|0,_=>⟨Qy,by kernel_rfl,ZG⟩|1,_=>⟨Qz,by kernel_rfl,ZH⟩|i+2,hi=>absurd hi (by omega))
def vGi:=(149,Nq)
theorem ZI:zD prog vGi:=vFo (fn:=f149)
def ZJ:=zJ 190 [.c .i,.c .i,.c .i] (.tup [(false,vC),(false,[.bool])]) (fun k d=>OG k d.1 d.2.1 d.2.2.1) (fun x=>(x.1,x.2,())) (fun d=>(d.1,d.2.1))
theorem yPc:zD prog ZJ:=fA f190 n0 (e4 vEa vSj vXj ZI) zF
def yLo:zE:=sp [sI 4,(5,.c (.int .u64)),(9,.c (.dat false .i)),sI 10,sI 11] []
def vAg:zE:=sp [sI 4,(5,.c (.int .u64))] []
def yAt (f:ZK)(d:yLo.den):=f d.1.1.1 d.1.2.1.1 d.1.2.2.1.1 d.1.2.2.2.1.1 d.1.2.2.2.2.1.1
def ZL:zW:=⟨[yLo],[(.exit 0,vAg)],vX,fun k d=>yAt (Fl k k) d,fun b x _ K=>K (.exit 0) (zN b vAg (((x.1,()),(x.2,()),()),()))⟩
def yF1:qA:=⟨[],[(4,ZL)],[],false⟩
theorem vDx:zU prog 1000 0 37 (zR (zS f88) 0) ZL:=lp (A:=yF1) ZL (fun d=>(d.1.1.1,d.1.2.1.1)) yAt Fl Fm (e1 ZI) zF
def vZu:=zJ 88 [.c (.dat false .i)] (.tup [(false,vC),(false,[.bool])]) (fun k d=>Fk k d.1) (fun x=>(x.1,x.2,())) (fun d=>(d.1,d.2.1))
theorem QA:zD prog vZu:=fA f88 yF1 (e1 ZI) (loops1 vDx)
def yXt:zE:=⟨[(1,.c (.dat false .i)),(2,.c (.dat false .i)),sO 8 0,(25,.c (.dat false jA)),sI 26,sI 27],[oA .i],[(8,none,.i,false)]⟩
def yLy:zE:=sp [sO 8 0] [oA .i]
def yJh:zE:=sp [sI 6,(7,.c .bool)] []
def yZg (f:ZM)(d:yXt.den):=f d.1.1.1 d.1.2.1.1 d.1.2.2.2.1.1 d.1.2.2.2.2.1.1 d.1.2.2.2.2.2.1.1 d.2.1
def ZN:zW:=⟨[yXt],[(.exit 0,yLy),(.ret,yJh)],(AC⊕fa),fun k d=>yZg (Fp k k) d,fun b x _ K=>match x with|.inl x=>K (.exit 0) (zN b yLy (((),()),(x,())))|.inr x=>K .ret (zN b yJh (((x.1,()),(x.2,()),()),()))⟩
def yM5:qA:=⟨[],[(5,ZN)],[],true⟩
theorem vL2:zU prog 1000 0 57 (zR (zS f141) 0) ZN:=lp (A:=yM5) ZN (fun d=>match d with|.inl d=>.inl d.2.1|.inr d=>.inr (d.1.1.1,d.1.2.1.1)) yZg Fp Fq (e2 yPc QA) zF
def vMa:=zJ 141 [.c (.dat false jA),.c (.dat false .i),.c (.dat false .i)] (.tup [(false,vC),(false,[.bool])]) (fun k d=>sM k d.1 d.2.1 d.2.2.1) (fun x=>(x.1,x.2,())) (fun d=>(d.1,d.2.1))
theorem yu:zD prog vMa:=fA f141 yM5 (e2 yPc QA) (loops1 vL2)
def vXk:=yU 157 [.ptr true yt,.c (.p .i),.c (.p .i)] (.c .i) [lA] 0 (fun k d=>O4 k (jY d) d.2.2.2.2.2.2.2.2.2.2.2.2.2.2.2.2.2.2.1 d.2.2.2.2.2.2.2.2.2.2.2.2.2.2.2.2.2.2.2.1) (fun x=>(x.1,(jH x.2 ()))) (fun d=>(d.1,(kj d)))
theorem vNe:zD prog vXk:=fX f157 n0 1 (e6 Hm iu yUo Hn yu pq) zF
def vNi:=zJ 274 [.c .i,.c .i] (.tup [(false,vC),(false,[.bool])]) (fun k d=>O5 k d.1 d.2.1) (fun x=>(x.1,x.2,())) (fun d=>(d.1,d.2.1))
theorem ZO:zD prog vNi:=fA f274 ⟨[],[],[],false⟩ e0 zF
def ZP:=zJ 132 [.agg n9] (.c .bool) (fun k d=>NJ k d.1 d.2.1 d.2.2.1) (fun x=>(x,())) (fun d=>d.1)
theorem yTz:zD prog ZP:=fA f132 ⟨[],[],[],false⟩ e0 zF
def vY2:=zJ 245 [.agg n9,.c .i] (.tup [(true,[.i,.i,.i]),(false,vC)]) (fun k d=>Kt k (d.1,d.2.1,d.2.2.1) d.2.2.2.1) (fun x=>(x.1.1,x.1.2.1,x.1.2.2,x.2,())) (fun d=>((d.1,d.2.1,d.2.2.1),d.2.2.2.1))
theorem yCt:zD prog vY2:=fA f245 n0 (e2 ZO yTz) zF
def ZQ:=zJ 210 [.agg n9,.c .i] (.tup [(true,[.i,.i,.i]),(false,vC)]) (fun k d=>Gp k (d.1,d.2.1,d.2.2.1) d.2.2.2.1) (fun x=>(x.1.1,x.1.2.1,x.1.2.2,x.2,())) (fun d=>((d.1,d.2.1,d.2.2.1),d.2.2.2.1))
theorem yH5:zD prog ZQ:=fA f210 n0 (e1 yCt) zF
def vZ4:=zJ 246 [.agg n9,.c .i] (.c .i) (fun k d=>(vJ (xr k) d)) (fun x=>(x,())) (fun d=>d.1)
theorem QB:zD prog vZ4:=fA f246 ⟨[],[],[],false⟩ e0 zF
def vWl:=zJ 211 [.agg n9,.c .i,.c .i] (.tup [(true,[.i,.i,.i]),(false,vC)]) (fun k d=>Gq k (d.1,d.2.1,d.2.2.1) d.2.2.2.1 d.2.2.2.2.1) (fun x=>(x.1.1,x.1.2.1,x.1.2.2,x.2,())) (fun d=>((d.1,d.2.1,d.2.2.1),d.2.2.2.1))
theorem yK7:zD prog vWl:=fA f211 n0 (e2 yCt QB) zF
def ZR:=zJ 212 [.agg n9,.c .i] (.c .i) (fun k d=>Gr k (d.1,d.2.1,d.2.2.1) d.2.2.2.1) (fun x=>(x,())) (fun d=>d.1)
theorem yFh:zD prog ZR:=fA f212 n0 e0 zF
def vN6:=yU 158 [.ptr true yt,.c (.p .i),.c (.p .i),.c (.p .i)] (.c .i) [lA] 0 (fun k d=>ZS k (jY d) d.2.2.2.2.2.2.2.2.2.2.2.2.2.2.2.2.2.2.1 d.2.2.2.2.2.2.2.2.2.2.2.2.2.2.2.2.2.2.2.1 d.2.2.2.2.2.2.2.2.2.2.2.2.2.2.2.2.2.2.2.2.1) (fun x=>(x.1,(jH x.2 ()))) (fun d=>(d.1,(kj d)))
theorem vQh:zD prog vN6:=fX f158 n0 1 (e5 iu yH5 yK7 yFh pq) zF
def yEb:zE:=sp [sP 0 0,sO 7 2,sP 8 3,(40,.c (.dat true (.sl .i))),sI 41,sI 42] [oB ZT,oA yH,oA .i,oB yJe,oA qX,.mat,oA .i,.mat]
def yO5:zE:=sp [sP 0 0,sO 7 2,sP 8 3] [oB ZT,oA yH,oA .i,oB yJe,oA qX,.mat,oA .i,.mat]
def yC6:zE:=sp [sP 0 0,sI 6] [oB ZT,oA yH]
def yTe (f:ZU)(d:yEb.den):=f d.1.2.2.2.1.1 d.1.2.2.2.2.1.1 d.1.2.2.2.2.2.1.1 (lB d.2.1) d.2.2.1 d.2.2.2.1 d.2.2.2.2.2.1 d.2.2.2.2.2.2.1 d.2.2.2.2.2.2.2.1 d.2.2.2.2.2.2.2.2.1
def ZV:zW:=⟨[yEb],[(.exit 0,yO5),(.ret,yC6)],ZW,fun k d=>yTe (ZX k k) d,fun b x _ K=>match x with|.inl x=>K (.exit 0) (zN b yO5 (((),(),(),()),((vS x.1 ()),x.2.1,x.2.2.1,(),x.2.2.2.1,x.2.2.2.2.1,x.2.2.2.2.2.1,x.2.2.2.2.2.2,())))|.inr x=>K .ret (zN b yC6 (((),(x.1,()),()),((vS x.2.1 ()),x.2.2,())))⟩
def yL7:qA:=⟨[],[(6,ZV)],[],true⟩
theorem vVu:zU prog 1000 1 81 (zR (zS f159) 0) ZV:=lp (A:=yL7) ZV (fun d=>match d with|.inl d=>.inl ((lB d.2.1),d.2.2.1,d.2.2.2.1,d.2.2.2.2.2.1,d.2.2.2.2.2.2.1,d.2.2.2.2.2.2.2.1,d.2.2.2.2.2.2.2.2.1)|.inr d=>.inr (d.1.2.1.1,(lB d.2.1),d.2.2.1)) yTe ZX vAr (e5 Hm iu Hn pq yu) zF
def vC9:=yU 159 [.ptr true yt,.c (.p .i),.c (.p .i)] (.c .i) [lA] 0 (fun k d=>yW9 k (jY d) d.2.2.2.2.2.2.2.2.2.2.2.2.2.2.2.2.2.2.1 d.2.2.2.2.2.2.2.2.2.2.2.2.2.2.2.2.2.2.2.1) (fun x=>(x.1,(jH x.2 ()))) (fun d=>(d.1,(kj d)))
theorem vKp:zD prog vC9:=fX f159 yL7 1 (e5 Hm iu Hn pq yu) (loops1 vVu)
def ZY:=yU 94 [.ptr true yt,.agg vO] (.c .i) [lA] 0 (fun k d=>GW k (jY d) (Hl d)) (fun x=>(x.1,(jH x.2 ()))) (fun d=>(d.1,(kj d)))
theorem vKu:zD prog ZY:=fX f94 n0 1 (e6 vGj vTg vFk vNe vQh vKp) zF
def vHx:=zJ 89 [.agg ki,.c .i] (.c .bool) (fun k d=>(kk (BD k) d)) (fun x=>(x,())) (fun d=>d.1)
theorem QC:zD prog vHx:=fA f89 ⟨[],[],[],false⟩ e0 zF
def vY6:=zJ 162 [.c .i,.c .i,.c (.dat false .i)] (.agg [.i,.i,.i,.i,.i,.i,.i,.i]) (fun k d=>qg k d.1 d.2.1 d.2.2.1) (fun x=>(Hi x ())) (fun d=>(nZ d))
theorem yv:zD prog vY6:=fA f162 ⟨[],[],[],false⟩ e0 zF
def yWm:zE:=⟨[sP 1 0,sP 2 1,sO 4 2,(10,.c (.dat true zG)),sI 11,sI 12],[oB iU,oB ft,oA yH],[(4,none,yH,false)]⟩
def yY3:zE:=sp [sP 1 0,sP 2 1,sO 4 2] [oB iU,oB ft,oA yH]
def yHa (f:ZZ)(d:yWm.den):=(tg (f d.1.2.2.2.1.1 d.1.2.2.2.2.1.1 d.1.2.2.2.2.2.1.1) d.2.1) d.2.2.1.1 d.2.2.1.2.1 d.2.2.1.2.2.1 d.2.2.2.1
def QD:zW:=⟨[yWm],[(.exit 0,yY3)],Z0,fun k d=>yHa (FT k k) d,fun b x _ K=>K (.exit 0) (zN b yY3 (((),(),(),()),((yw x ()),(x.2.2.2.2.2.2.2.2.2.2.2.1,x.2.2.2.2.2.2.2.2.2.2.2.2.1,x.2.2.2.2.2.2.2.2.2.2.2.2.2.1,()),x.2.2.2.2.2.2.2.2.2.2.2.2.2.2,())))⟩
def yPp:zE:=sp [sP 1 0,sP 2 1,sO 4 2,(28,.c (.dat true qX)),sI 29,sI 30] [oB iU,oB ft,oA yH]
def yPx (f:Z1)(d:yPp.den):=(tg (f d.1.2.2.2.1.1 d.1.2.2.2.2.1.1 d.1.2.2.2.2.2.1.1) d.2.1) d.2.2.1.1 d.2.2.1.2.1 d.2.2.1.2.2.1 d.2.2.2.1
def QE:zW:=⟨[yPp],[(.exit 2,yY3)],Z0,fun k d=>yPx (Kp k k) d,fun b x _ K=>K (.exit 2) (zN b yY3 (((),(),(),()),((yw x ()),(x.2.2.2.2.2.2.2.2.2.2.2.1,x.2.2.2.2.2.2.2.2.2.2.2.2.1,x.2.2.2.2.2.2.2.2.2.2.2.2.2.1,()),x.2.2.2.2.2.2.2.2.2.2.2.2.2.2,())))⟩
def Z3:qA:=⟨[],[(3,QD),(8,QE)],[],false⟩
theorem vRw:zU prog 1000 0 48 (zR (zS f160) 0) QD:=lp (A:=Z3) QD (fun d=>(yw d.2.1 (d.2.2.1.1,d.2.2.1.2.1,d.2.2.1.2.2.1,d.2.2.2.1))) yHa FT FU (e1 yv) zF
theorem vIq:zU prog 1000 0 48 (zR (zS f160) 1) QE:=lp (A:=Z3) QE (fun d=>(yw d.2.1 (d.2.2.1.1,d.2.2.1.2.1,d.2.2.1.2.2.1,d.2.2.2.1))) yPx Kp FW (e1 yv) zF
def vF9:=zJ 160 [.agg yo] (.tup [(true,[.i,.fro qX,.fro (.sl .i),.fro .i,.fro (.sl .i),.fro .i,.fro (.sl .i),.own zG,.fro .i,.i,.bool]),(false,[.own yH])]) (fun k d=>(tg (O1 k) d)) (fun x=>(Ho x ())) (fun d=>(Hq d))
theorem yK2:zD prog vF9:=fA f160 Z3 (e1 yv) (oP (n:=2) (by kernel_rfl) fun i hi=>match i,hi with|0,_=>⟨QD,by kernel_rfl,vRw⟩|1,_=>⟨QE,by kernel_rfl,vIq⟩|i+2,hi=>absurd hi (by omega))
def vDr:=zJ 161 [.agg vO,.c .i] (.c .bool) (fun k d=>(mj (Wd k) d)) (fun x=>(x,())) (fun d=>d.1)
theorem vAw:zD prog vDr:=fA f161 ⟨[],[],[],false⟩ e0 zF
def vO9:=zJ 163 [.agg ki,.c .i] (.c .bool) (fun k d=>(kk (FZ k) d)) (fun x=>(x,())) (fun d=>d.1)
theorem yU9:zD prog vO9:=fA f163 ⟨[],[],[],false⟩ e0 zF
def vTz:=zJ 281 [.agg vO,.c .i] (.c .bool) (fun k d=>(mj (Vq k) d)) (fun x=>(x,())) (fun d=>d.1)
theorem Z4:zD prog vTz:=fA f281 ⟨[],[],[],false⟩ e0 zF
def vSa:=zJ 280 [.agg vO,.ptr [.i]] (.c .bool) (fun k d=>(mj (Vp k) d)) (fun x=>(x,())) (fun d=>d.1)
theorem yQc:zD prog vSa:=fA f280 ⟨[],[],[],false⟩ (e1 Z4) zF
def yOs:zE:=⟨[(1,.c (.lit (.fn 280 [1001000]))),sO 5 1,(8,.c (.dat false zG)),sI 9,sI 10],[.robox [.i],oA zG],[(5,none,zG,false)]⟩
def yCw (f:Y2)(d:yOs.den):=f d.1.2.2.1.1 d.1.2.2.2.1.1 d.1.2.2.2.2.1.1 d.2.1.1 d.2.2.1
def Z6:zW:=⟨[yOs],[(.exit 0,yLh)],Y4,fun k d=>yCw (JN k k) d,fun b x _ K=>K (.exit 0) (zN b yLh (((),()),(x,())))⟩
def yT8:qA:=⟨[],[(3,Z6)],[],false⟩
theorem vMm:zU prog 1000 0 23 (zR (zS f194) 0) Z6:=lp (A:=yT8) Z6 (fun d=>d.2.1) yCw JN EU (e1 yQc) zF
def vKd:=zJ 194 [.c (.dat false zG),.fn 280 [[.i]]] (.c (.own zG)) (fun k d=>Vo k d.1 d.2.1) (fun x=>(x,())) (fun d=>d.1)
theorem vK9:zD prog vKd:=fA f194 yT8 (e1 yQc) (loops1 vMm)
def vPn:=zJ 251 [.c (.dat false zG),.c .i] (.c (.own zG)) (fun k d=>ET k d.1 d.2.1) (fun x=>(x,())) (fun d=>d.1)
theorem Ce:zD prog vPn:=fA f251 ⟨[],[],[],false⟩ (e1 vK9) zF
def Z8:=zJ 305 [.agg vO,.ptr vO] (.c .bool) (fun k d=>(Hj (Vv k) d)) (fun x=>(x,())) (fun d=>d.1)
theorem yNs:zD prog Z8:=fA f305 ⟨[],[],[],false⟩ e0 zF
def yIm:zE:=sp [(0,.c (.dat false zG)),(1,.c (.lit (.fn 305 [1001000]))),sI 7,sI 8] [.robox wW]
def yV1 (f:Z9)(d:yIm.den):=(mm (f d.1.1.1 d.1.2.2.1.1 d.1.2.2.2.1.1) d.2.1)
def qZe:zW:=⟨[yIm],[(.exit 0,yS2),(.ret,vAc)],(Unit⊕Int),fun k d=>yV1 (JS k k) d,fun b x _ K=>match x with|.inl x=>K (.exit 0) (zN b yS2 ((),()))|.inr x=>K .ret (zN b vAc (((x,()),()),()))⟩
def yGo:qA:=⟨[],[(2,qZe)],[],false⟩
theorem vV0:zU prog 1000 0 19 (zR (zS f166) 0) qZe:=lp (A:=yGo) qZe (fun d=>match d with|.inl d=>.inl ()|.inr d=>.inr d.1.1.1) yV1 JS E1 (e1 yNs) zF
def vOp:=zJ 166 [.c (.dat false zG),.fn 305 [vO]] (.c .i) (fun k d=>(mj (Vw k) d)) (fun x=>(x,())) (fun d=>d.1)
theorem vR6:zD prog vOp:=fA f166 yGo (e1 yNs) (loops1 vV0)
def vVy:=zJ 148 [.c (.dat false zG),.fn 305 [vO]] (.c .bool) (fun k d=>(mj (Oo k) d)) (fun x=>(x,())) (fun d=>d.1)
theorem vEf:zD prog vVy:=fA f148 ⟨[],[],[],false⟩ (e1 vR6) zF
def vLz:=yU 304 [.agg vO,.ptr true [.map],.ptr false [.p (.dat false zG)]] (.c .bool) [[.map]] 0 (fun k d=>(QF (Vz k) d)) (fun x=>(x.1,x.2,())) (fun d=>(d.1,d.2.1))
theorem yXb:zD prog vLz:=fX f304 ⟨[],[],[],false⟩ 3 (e1 vEf) zF
def yUk:zE:=⟨[(1,.c (.lit (.fn 304 [1001000,1001002]))),sO 5 3,(8,.c (.dat false zG)),sI 9,sI 10],[oB [.lit (.map 1001001)],.imap,.robox [.dat false zG],oA zG],[(5,none,zG,false)]⟩
def yG0:zE:=sp [(1,.c (.lit (.fn 304 [1001000,1001002]))),sO 5 3] [oB [.lit (.map 1001001)],.imap,.robox [.dat false zG],oA zG]
def yRu (f:qYe)(d:yUk.den):=f d.1.2.2.1.1 d.1.2.2.2.1.1 d.1.2.2.2.2.1.1 d.2.2.1 d.2.2.2.1.1 d.2.2.2.2.1
def qXq:zW:=⟨[yUk],[(.exit 0,yG0)],qSn,fun k d=>yRu (E2 k k) d,fun b x _ K=>K (.exit 0) (zN b yG0 (((),(),()),((),x.1,(x.2.1,()),x.2.2,())))⟩
def yPr:qA:=⟨[],[(3,qXq)],[],false⟩
theorem vPj:zU prog 1000 2 23 (zR (zS f194) 0) qXq:=lp (A:=yPr) qXq (fun d=>(d.2.2.1,d.2.2.2.1.1,d.2.2.2.2.1)) yRu E2 E3 (e1 yXb) zF
def vRr:=yU 194 [.c (.p (.dat false zG)),.fn 304 [(true,[.map]),(false,[.p (.dat false zG)])]] (.c (.own zG)) [[.map]] 0 (fun k d=>Vy k d.1 d.2.1 d.2.2.1) (fun x=>(x.1,x.2,())) (fun d=>(d.1,d.2.1))
theorem vPc:zD prog vRr:=fX f194 yPr 2 (e1 yXb) (loops1 vPj)
def aaa:=zJ 296 [.c (.dat false zG),.c .i] (.c (.own zG)) (fun k d=>JT k d.1 d.2.1) (fun x=>(x,())) (fun d=>d.1)
theorem LH:zD prog aaa:=fA f296 ⟨[],[],[],false⟩ (e2 Ce vPc) zF
def vZx:=zJ 144 [.agg jV,.agg vO] (.c .bool) (fun k d=>(tg (Em k) d)) (fun x=>(x,())) (fun d=>d.1)
theorem qZ2:zD prog vZx:=fA f144 ⟨[],[],[],false⟩ e0 zF
def vF6:=zJ 306 [.agg vO,.ptr jV] (.c .bool) (fun k d=>(tg (Vl k) d)) (fun x=>(x,())) (fun d=>d.1)
theorem yEh:zD prog vF6:=fA f306 ⟨[],[],[],false⟩ (e1 qZ2) zF
def yL8:zE:=sp [(0,.c (.dat false zG)),(1,.c (.lit (.fn 306 [1001000]))),sI 7,sI 8] [.robox jZ]
def yF3 (f:qSu)(d:yL8.den):=(vJ (f d.1.1.1 d.1.2.2.1.1 d.1.2.2.2.1.1) d.2.1)
def qI3:zW:=⟨[yL8],[(.exit 0,yS2),(.ret,vAc)],(Unit⊕Int),fun k d=>yF3 (JL k k) d,fun b x _ K=>match x with|.inl x=>K (.exit 0) (zN b yS2 ((),()))|.inr x=>K .ret (zN b vAc (((x,()),()),()))⟩
def yE5:qA:=⟨[],[(2,qI3)],[],false⟩
theorem vS0:zU prog 1000 0 19 (zR (zS f166) 0) qI3:=lp (A:=yE5) qI3 (fun d=>match d with|.inl d=>.inl ()|.inr d=>.inr d.1.1.1) yF3 JL ES (e1 yEh) zF
def aab:=zJ 166 [.c (.dat false zG),.fn 306 [jV]] (.c .i) (fun k d=>(lC (Vm k) d)) (fun x=>(x,())) (fun d=>d.1)
theorem vDv:zD prog aab:=fA f166 yE5 (e1 yEh) (loops1 vS0)
def vWo:=zJ 148 [.c (.dat false zG),.fn 306 [jV]] (.c .bool) (fun k d=>(lC (Oj k) d)) (fun x=>(x,())) (fun d=>d.1)
theorem vOl:zD prog vWo:=fA f148 ⟨[],[],[],false⟩ (e1 vDv) zF
def yVq:zE:=sp [sP 4 0,sP 5 1,(15,.c (.dat false zG)),sI 16,sI 17] [oB [.lit .nsl,.lit .nsl,.lit .nsl],oB qZ5,oA .i,oA .i,.mat]
def yAm:zE:=sp [sP 4 0,sP 5 1] [oB [.lit .nsl,.lit .nsl,.lit .nsl],oB qZ5,oA .i,oA .i,.mat]
def ySs (f:qZo)(d:yVq.den):=f d.1.2.2.1.1 d.1.2.2.2.1.1 d.1.2.2.2.2.1.1 d.2.2.2.1 d.2.2.2.2.1 d.2.2.2.2.2.1
def qUz:zW:=⟨[yVq],[(.exit 0,yAm)],qV3,fun k d=>ySs (JH k k) d,fun b x _ K=>K (.exit 0) (zN b yAm (((),(),()),((),(),x.1,x.2.1,x.2.2,())))⟩
def ySt:qA:=⟨[],[(3,qUz)],[],false⟩
theorem vHd:zU prog 1000 0 84 (zR (zS f298) 0) qUz:=lp (A:=ySt) qUz (fun d=>(d.2.2.2.1,d.2.2.2.2.1,d.2.2.2.2.2.1)) ySs JH EJ (e2 Cc LA) zF
def vSn:=zJ 298 [.c .i,.c (.dat false zG)] (.agg [.own .i,.own .i,.mat]) (fun k d=>Oe k d.1 d.2.1) (fun x=>(x.1,x.2.1,x.2.2,())) (fun d=>(d.1,d.2.1,d.2.2.1))
theorem vB7:zD prog vSn:=fA f298 ySt (e2 Cc LA) (loops1 vHd)
def vW4:=zJ 299 [.agg vO,.ptr [.i]] (.c .bool) (fun k d=>(mj (Vd k) d)) (fun x=>(x,())) (fun d=>d.1)
theorem yI0:zD prog vW4:=fA f299 ⟨[],[],[],false⟩ e0 zF
def yK0:zE:=sp [(0,.c (.dat false zG)),(1,.c (.lit (.fn 299 [1001000]))),sI 7,sI 8] [.robox [.i]]
def yIx (f:Zf)(d:yK0.den):=f d.1.1.1 d.1.2.2.1.1 d.1.2.2.2.1.1 d.2.1.1
def qSk:zW:=⟨[yK0],[(.exit 0,yS2),(.ret,vAc)],(Unit⊕Int),fun k d=>yIx (JI k k) d,fun b x _ K=>match x with|.inl x=>K (.exit 0) (zN b yS2 ((),()))|.inr x=>K .ret (zN b vAc (((x,()),()),()))⟩
def yQp:qA:=⟨[],[(2,qSk)],[],false⟩
theorem vKt:zU prog 1000 0 19 (zR (zS f166) 0) qSk:=lp (A:=yQp) qSk (fun d=>match d with|.inl d=>.inl ()|.inr d=>.inr d.1.1.1) yIx JI EK (e1 yI0) zF
def vK0:=zJ 166 [.c (.dat false zG),.fn 299 [[.i]]] (.c .i) (fun k d=>Ve k d.1 d.2.1) (fun x=>(x,())) (fun d=>d.1)
theorem vX4:zD prog vK0:=fA f166 yQp (e1 yI0) (loops1 vKt)
def vJ3:=zJ 148 [.c (.dat false zG),.fn 299 [[.i]]] (.c .bool) (fun k d=>Of k d.1 d.2.1) (fun x=>(x,())) (fun d=>d.1)
theorem vAn:zD prog vJ3:=fA f148 ⟨[],[],[],false⟩ (e1 vX4) zF
def yM6:zE:=sp [sI 5,(12,.c (.dat false .i)),sI 13,sI 14] []
def yKf:zE:=sp [sI 5] []
def yBj (f:Int→AC→Int→Int→Option Int)(d:yM6.den):=f d.1.1.1 d.1.2.1.1 d.1.2.2.1.1 d.1.2.2.2.1.1
def qO4:zW:=⟨[yM6],[(.exit 0,yKf)],Int,fun k d=>yBj (EE k k) d,fun b x _ K=>K (.exit 0) (zN b yKf (((x,()),()),()))⟩
def yNi:qA:=⟨[],[(3,qO4)],[],false⟩
theorem vTl:zU prog 1000 0 23 (zR (zS f307) 0) qO4:=lp (A:=yNi) qO4 (fun d=>d.1.1.1) yBj EE EF e0 zF
def aac:=zJ 307 [.agg jV,.c .i] (.c .i) (fun k d=>(lC (Ob k) d)) (fun x=>(x,())) (fun d=>d.1)
theorem yVx:zD prog aac:=fA f307 yNi e0 (loops1 vTl)
def vEm:=zJ 308 [.c .i,.c .i] (.c .bool) (fun k d=>EM k d.1 d.2.1) (fun x=>(x,())) (fun d=>d.1)
theorem qWo:zD prog vEm:=fA f308 ⟨[],[],[],false⟩ e0 zF
def vR2:=zJ 309 [.agg vO,.ptr [.i],.ptr n9,.ptr QG,.ptr [.i],.ptr jV] (.c .bool) (fun k d=>(vFv (Vg k) d)) (fun x=>(x,())) (fun d=>d.1)
theorem yOe:zD prog vR2:=fA f309 ⟨[],[],[],false⟩ (e2 QB qWo) zF
def ySm:zE:=sp [(0,.c (.dat false zG)),(1,.c (.lit (.fn 309 [1001000,1001001,1001002,1001003,1001004]))),sI 7,sI 8] [.robox [.i],.robox [.i,.i,.i],.robox qZq,.robox [.i],.robox jZ]
def yZq (f:qYh)(d:ySm.den):=(vJ (f d.1.1.1 d.1.2.2.1.1 d.1.2.2.2.1.1 d.2.1.1 d.2.2.1.1 d.2.2.1.2.1 d.2.2.1.2.2.1 d.2.2.2.1.1 d.2.2.2.1.2.1 d.2.2.2.1.2.2.1 d.2.2.2.2.1.1) d.2.2.2.2.2.1)
def qX3:zW:=⟨[ySm],[(.exit 0,yS2),(.ret,vAc)],(Unit⊕Int),fun k d=>yZq (JK k k) d,fun b x _ K=>match x with|.inl x=>K (.exit 0) (zN b yS2 ((),()))|.inr x=>K .ret (zN b vAc (((x,()),()),()))⟩
def yLj:qA:=⟨[],[(2,qX3)],[],false⟩
theorem vEk:zU prog 1000 0 19 (zR (zS f166) 0) qX3:=lp (A:=yLj) qX3 (fun d=>match d with|.inl d=>.inl ()|.inr d=>.inr d.1.1.1) yZq JK EN (e1 yOe) zF
def aad:=zJ 166 [.c (.dat false zG),.fn 309 [[.i],n9,QG,[.i],jV]] (.c .i) (fun k d=>(qNp (Vh k) d)) (fun x=>(x,())) (fun d=>d.1)
theorem vWt:zD prog aad:=fA f166 yLj (e1 yOe) (loops1 vEk)
def vUp:=zJ 148 [.c (.dat false zG),.fn 309 [[.i],n9,QG,[.i],jV]] (.c .bool) (fun k d=>(qNp (Og k) d)) (fun x=>(x,())) (fun d=>d.1)
theorem yQz:zD prog vUp:=fA f148 ⟨[],[],[],false⟩ (e1 vWt) zF
def yQ2:zE:=sp [(3,.c (.dat false zG)),sP 4 0,sP 5 1,sP 6 2,sP 9 3,sP 10 4,sI 11,(39,.c (.dat false .i)),sI 40,sI 41] [oB qZq,oB jZ,oB [.i],oB [.i,.i,.i],oB [.i]]
def ySj:zE:=sp [(3,.c (.dat false zG)),sP 4 0,sP 5 1,sP 6 2,sP 9 3,sP 10 4,sI 11] [oB qZq,oB jZ,oB [.i],oB [.i,.i,.i],oB [.i]]
def yIt (f:qR6)(d:yQ2.den):=(vJ (f d.1.1.1 d.1.2.2.2.2.2.2.1.1 d.1.2.2.2.2.2.2.2.1.1 d.1.2.2.2.2.2.2.2.2.1.1 d.1.2.2.2.2.2.2.2.2.2.1.1 d.2.1.1 d.2.1.2.1 d.2.1.2.2.1) d.2.2.1) d.2.2.2.1.1 d.2.2.2.2.1.1 d.2.2.2.2.1.2.1 d.2.2.2.2.1.2.2.1 d.2.2.2.2.2.1.1
def qX7:zW:=⟨[yQ2],[(.exit 0,ySj)],qZc,fun k d=>yIt (Bj k k) d,fun b x _ K=>K (.exit 0) (zN b ySj (((x.1,()),(),(),(),(),(),(x.2.1,()),()),((x.2.2.1,x.2.2.2.1,x.2.2.2.2.1,()),(vUx x ()),(x.2.2.2.2.2.2.2.2.2.1,()),(x.2.2.2.2.2.2.2.2.2.2.1,x.2.2.2.2.2.2.2.2.2.2.2.1,x.2.2.2.2.2.2.2.2.2.2.2.2.1,()),(x.2.2.2.2.2.2.2.2.2.2.2.2.2,()),())))⟩
def yXp:qA:=⟨[],[(7,qX7)],[],false⟩
theorem vLt:zU prog 1000 0 59 (zR (zS f300) 0) qX7:=lp (A:=yXp) qX7 (fun d=>(d.1.1.1,d.1.2.2.2.2.2.2.1.1,d.2.1.1,d.2.1.2.1,d.2.1.2.2.1,(vL d.2.2.1 (d.2.2.2.1.1,d.2.2.2.2.1.1,d.2.2.2.2.1.2.1,d.2.2.2.2.1.2.2.1,d.2.2.2.2.2.1.1)))) yIt Bj EO (e3 yVx qWo yQz) zF
def vYh:=zJ 300 [.agg QG,.agg jV,.c .i,.c (.dat false zG)] (.c .bool) (fun k d=>(QF (Oi k) d)) (fun x=>(x,())) (fun d=>d.1)
theorem yAe:zD prog vYh:=fA f300 yXp (e3 yVx qWo yQz) (loops1 vLt)
def yZj:zE:=⟨[(1,.c (.dat false zG)),sP 2 0,sP 5 1,sO 6 5,sI 16,sI 17],[oB jZ,oB qZ5,oA .i,oA .i,.mat,oA .i],[(6,none,.i,false)]⟩
def yHm:zE:=sp [sO 6 0] [oA .i]
def yE9 (f:qL6)(d:yZj.den):=(vJ (f d.1.1.1 d.1.2.2.2.2.1.1 d.1.2.2.2.2.2.1.1) d.2.1) d.2.2.2.1 d.2.2.2.2.1 d.2.2.2.2.2.1 d.2.2.2.2.2.2.1
def qS8:zW:=⟨[yZj],[(.exit 0,yHm)],AC,fun k d=>yE9 (EP k k) d,fun b x _ K=>K (.exit 0) (zN b yHm (((),()),(x,())))⟩
def yC4:qA:=⟨[],[(4,qS8)],[],false⟩
theorem vPh:zU prog 1000 0 37 (zR (zS f277) 0) qS8:=lp (A:=yC4) qS8 (fun d=>d.2.1) yE9 EP ER (e3 vB7 vAn yAe) zF
def aae:=zJ 277 [.agg jV,.c (.dat false zG)] (.c (.own .i)) (fun k d=>(lC (Bk k) d)) (fun x=>(x,())) (fun d=>d.1)
theorem LI:zD prog aae:=fA f277 yC4 (e3 vB7 vAn yAe) (loops1 vPh)
def vL8:=zJ 297 [.agg jV,.c (.dat false zG)] (.c .bool) (fun k d=>(lC (Bl k) d)) (fun x=>(x,())) (fun d=>d.1)
theorem LJ:zD prog vL8:=fA f297 ⟨[],[],[],false⟩ (e2 vOl LI) zF
def vDd:=zJ 282 [.agg vO,.ptr jV] (.c .bool) (fun k d=>(tg (U2 k) d)) (fun x=>(x,())) (fun d=>d.1)
theorem yRz:zD prog vDd:=fA f282 ⟨[],[],[],false⟩ (e1 qZ2) zF
def yJd:zE:=sp [(0,.c (.dat false zG)),(1,.c (.lit (.fn 282 [1001000]))),sI 7,sI 8] [.robox jZ]
def yBt (f:qSu)(d:yJd.den):=(vJ (f d.1.1.1 d.1.2.2.1.1 d.1.2.2.2.1.1) d.2.1)
def qQo:zW:=⟨[yJd],[(.exit 0,yS2),(.ret,vAc)],(Unit⊕Int),fun k d=>yBt (Jt k k) d,fun b x _ K=>match x with|.inl x=>K (.exit 0) (zN b yS2 ((),()))|.inr x=>K .ret (zN b vAc (((x,()),()),()))⟩
def yD6:qA:=⟨[],[(2,qQo)],[],false⟩
theorem vNz:zU prog 1000 0 19 (zR (zS f166) 0) qQo:=lp (A:=yD6) qQo (fun d=>match d with|.inl d=>.inl ()|.inr d=>.inr d.1.1.1) yBt Jt En (e1 yRz) zF
def vTi:=zJ 166 [.c (.dat false zG),.fn 282 [jV]] (.c .i) (fun k d=>(lC (U3 k) d)) (fun x=>(x,())) (fun d=>d.1)
theorem vCx:zD prog vTi:=fA f166 yD6 (e1 yRz) (loops1 vNz)
def vV8:=zJ 148 [.c (.dat false zG),.fn 282 [jV]] (.c .bool) (fun k d=>(lC (NW k) d)) (fun x=>(x,())) (fun d=>d.1)
theorem yRj:zD prog vV8:=fA f148 ⟨[],[],[],false⟩ (e1 vCx) zF
def vSf:=zJ 131 [.agg n9] (.c .bool) (fun k d=>UM k d.1 d.2.1 d.2.2.1) (fun x=>(x,())) (fun d=>d.1)
theorem yG9:zD prog vSf:=fA f131 ⟨[],[],[],false⟩ (e1 yTz) zF
def yXw:zE:=sp [(0,.c (.dat false qX)),(1,.c (.lit (.fn 131 []))),sI 7,sI 8] []
def yXd (f:qHz)(d:yXw.den):=f d.1.1.1 d.1.2.2.1.1 d.1.2.2.2.1.1
def qUq:zW:=⟨[yXw],[(.exit 0,yS2),(.ret,vAc)],(Unit⊕Int),fun k d=>yXd (Ja k k) d,fun b x _ K=>match x with|.inl x=>K (.exit 0) (zN b yS2 ((),()))|.inr x=>K .ret (zN b vAc (((x,()),()),()))⟩
def yZe:qA:=⟨[],[(2,qUq)],[],false⟩
theorem vG5:zU prog 1000 0 19 (zR (zS f187) 0) qUq:=lp (A:=yZe) qUq (fun d=>match d with|.inl d=>.inl ()|.inr d=>.inr d.1.1.1) yXd Ja D9 (e1 yG9) zF
def vUu:=zJ 187 [.c (.dat false qX),.c (.fn 131)] (.c .i) (fun k d=>UN k d.1) (fun x=>(x,())) (fun d=>d.1)
theorem vU5:zD prog vUu:=fA f187 yZe (e1 yG9) (loops1 vG5)
def vNl:=zJ 133 [.c (.dat false qX),.c (.fn 131)] (.c .bool) (fun k d=>NM k d.1) (fun x=>(x,())) (fun d=>d.1)
theorem vLj:zD prog vNl:=fA f133 ⟨[],[],[],false⟩ (e1 vU5) zF
def aaf:=zJ 135 [.c .i] (.c .bool) (fun k d=>UK k d.1) (fun x=>(x,())) (fun d=>d.1)
theorem vQm:zD prog aaf:=fA f135 ⟨[],[],[],false⟩ e0 zF
def vQd:=zJ 188 [.c .i,.ptr [.fn 135]] (.c .bool) (fun k d=>UO k d.1) (fun x=>(x,())) (fun d=>d.1)
theorem yUd:zD prog vQd:=fA f188 ⟨[],[],[],false⟩ (e1 vQm) zF
def yM7:zE:=sp [(0,.c (.dat false .i)),(1,.c (.lit (.fn 188 [1001000]))),sI 7,sI 8] [.robox [.lit (.fn 135 [])]]
def yWj (f:qPo)(d:yM7.den):=f d.1.1.1 d.1.2.2.1.1 d.1.2.2.2.1.1
def qK7:zW:=⟨[yM7],[(.exit 0,yS2),(.ret,vAc)],(Unit⊕Int),fun k d=>yWj (Jb k k) d,fun b x _ K=>match x with|.inl x=>K (.exit 0) (zN b yS2 ((),()))|.inr x=>K .ret (zN b vAc (((x,()),()),()))⟩
def yNv:qA:=⟨[],[(2,qK7)],[],false⟩
theorem vIy:zU prog 1000 0 19 (zR (zS f189) 0) qK7:=lp (A:=yNv) qK7 (fun d=>match d with|.inl d=>.inl ()|.inr d=>.inr d.1.1.1) yWj Jb Ea (e1 yUd) zF
def vYz:=zJ 189 [.c (.dat false .i),.fn 188 [[.fn 135]]] (.c .i) (fun k d=>UP k d.1) (fun x=>(x,())) (fun d=>d.1)
theorem vZ3:zD prog vYz:=fA f189 yNv (e1 yUd) (loops1 vIy)
def vCr:=zJ 139 [.c (.dat false .i),.fn 188 [[.fn 135]]] (.c .bool) (fun k d=>NN k d.1) (fun x=>(x,())) (fun d=>d.1)
theorem vZi:zD prog vCr:=fA f139 ⟨[],[],[],false⟩ (e1 vZ3) zF
def vT5:=zJ 136 [.c (.dat false .i),.c .i,.c (.fn 135)] (.c .bool) (fun k d=>Jd k d.1 d.2.1) (fun x=>(x,())) (fun d=>d.1)
theorem qRa:zD prog vT5:=fA f136 ⟨[],[],[],false⟩ (e1 vZi) zF
def yQ8:zE:=sp [sI 1,(2,.c (.lit (.fn 135 []))),(13,.c (.dat false (.sl .i))),sI 14,sI 15] []
def yTf:zE:=sp [(6,.c .bool)] []
def yPu (f:qKh)(d:yQ8.den):=f d.1.1.1 d.1.2.2.1.1 d.1.2.2.2.1.1 d.1.2.2.2.2.1.1
def qRx:zW:=⟨[yQ8],[(.exit 0,yS2),(.ret,yTf)],(Unit⊕Bool),fun k d=>yPu (Je k k) d,fun b x _ K=>match x with|.inl x=>K (.exit 0) (zN b yS2 ((),()))|.inr x=>K .ret (zN b yTf (((x,()),()),()))⟩
def yTo:qA:=⟨[],[(4,qRx)],[],false⟩
theorem vRc:zU prog 1000 0 25 (zR (zS f134) 0) qRx:=lp (A:=yTo) qRx (fun d=>match d with|.inl d=>.inl ()|.inr d=>.inr d.1.1.1) yPu Je Ec (e1 qRa) zF
def vYq:=zJ 134 [.c (.dat false (.sl .i)),.c .i,.c (.fn 135)] (.c .bool) (fun k d=>NQ k d.1 d.2.1) (fun x=>(x,())) (fun d=>d.1)
theorem vCp:zD prog vYq:=fA f134 yTo (e1 qRa) (loops1 vRc)
def vKf:=zJ 137 [.c .i] (.c .bool) (fun k d=>NK k d.1) (fun x=>(x,())) (fun d=>d.1)
theorem vO3:zD prog vKf:=fA f137 ⟨[],[],[],false⟩ e0 zF
def vMq:=zJ 188 [.c .i,.ptr [.fn 137]] (.c .bool) (fun k d=>UQ k d.1) (fun x=>(x,())) (fun d=>d.1)
theorem vAd:zD prog vMq:=fA f188 ⟨[],[],[],false⟩ (e1 vO3) zF
def yMr:zE:=sp [(0,.c (.dat false .i)),(1,.c (.lit (.fn 188 [1001000]))),sI 7,sI 8] [.robox [.lit (.fn 137 [])]]
def yGe (f:qPo)(d:yMr.den):=f d.1.1.1 d.1.2.2.1.1 d.1.2.2.2.1.1
def qS0:zW:=⟨[yMr],[(.exit 0,yS2),(.ret,vAc)],(Unit⊕Int),fun k d=>yGe (Jc k k) d,fun b x _ K=>match x with|.inl x=>K (.exit 0) (zN b yS2 ((),()))|.inr x=>K .ret (zN b vAc (((x,()),()),()))⟩
def yB7:qA:=⟨[],[(2,qS0)],[],false⟩
theorem vR9:zU prog 1000 0 19 (zR (zS f189) 0) qS0:=lp (A:=yB7) qS0 (fun d=>match d with|.inl d=>.inl ()|.inr d=>.inr d.1.1.1) yGe Jc Eb (e1 vAd) zF
def vZv:=zJ 189 [.c (.dat false .i),.fn 188 [[.fn 137]]] (.c .i) (fun k d=>UR k d.1) (fun x=>(x,())) (fun d=>d.1)
theorem vM6:zD prog vZv:=fA f189 yB7 (e1 vAd) (loops1 vR9)
def vK3:=zJ 139 [.c (.dat false .i),.fn 188 [[.fn 137]]] (.c .bool) (fun k d=>NO k d.1) (fun x=>(x,())) (fun d=>d.1)
theorem vNp:zD prog vK3:=fA f139 ⟨[],[],[],false⟩ (e1 vM6) zF
def aag:=zJ 136 [.c (.dat false .i),.c .i,.c (.fn 137)] (.c .bool) (fun k d=>NP k d.1 d.2.1) (fun x=>(x,())) (fun d=>d.1)
theorem yJk:zD prog aag:=fA f136 ⟨[],[],[],false⟩ (e1 vNp) zF
def yGs:zE:=sp [sI 1,(2,.c (.lit (.fn 137 []))),(13,.c (.dat false (.sl .i))),sI 14,sI 15] []
def yTp (f:qKh)(d:yGs.den):=f d.1.1.1 d.1.2.2.1.1 d.1.2.2.2.1.1 d.1.2.2.2.2.1.1
def qUy:zW:=⟨[yGs],[(.exit 0,yS2),(.ret,yTf)],(Unit⊕Bool),fun k d=>yTp (Jf k k) d,fun b x _ K=>match x with|.inl x=>K (.exit 0) (zN b yS2 ((),()))|.inr x=>K .ret (zN b yTf (((x,()),()),()))⟩
def yEg:qA:=⟨[],[(4,qUy)],[],false⟩
theorem vK8:zU prog 1000 0 25 (zR (zS f134) 0) qUy:=lp (A:=yEg) qUy (fun d=>match d with|.inl d=>.inl ()|.inr d=>.inr d.1.1.1) yTp Jf Ed (e1 yJk) zF
def vGy:=zJ 134 [.c (.dat false (.sl .i)),.c .i,.c (.fn 137)] (.c .bool) (fun k d=>NR k d.1 d.2.1) (fun x=>(x,())) (fun d=>d.1)
theorem vDh:zD prog vGy:=fA f134 yEg (e1 yJk) (loops1 vK8)
def vBo:zE:=sp [(0,.c (.dat false (.sl .i))),sI 3,(7,.c (.dat false (.sl .i))),sI 8,sI 9,(14,.c (.dat false .i)),sI 15,sI 16] []
def yA2:zE:=sp [(0,.c (.dat false (.sl .i))),(7,.c (.dat false (.sl .i))),sI 8,sI 9] []
def vA9 (f:qXm)(d:vBo.den):=f d.1.1.1 d.1.2.1.1 d.1.2.2.1.1 d.1.2.2.2.1.1 d.1.2.2.2.2.1.1 d.1.2.2.2.2.2.1.1 d.1.2.2.2.2.2.2.1.1 d.1.2.2.2.2.2.2.2.1.1
def qU5:zW:=⟨[vBo],[(.exit 2,yA2),(.ret,yQv)],qJ0,fun k d=>vA9 (Ee k k) d,fun b x _ K=>match x with|.inl x=>K (.exit 2) (zN b yA2 (((x.1,()),(x.2.1,()),(x.2.2.1,()),(x.2.2.2,()),()),()))|.inr x=>K .ret (zN b yQv (((x,()),()),()))⟩
def yEk (f:qKc)(d:yA2.den):=f d.1.1.1 d.1.2.1.1 d.1.2.2.1.1 d.1.2.2.2.1.1
def qXk:zW:=⟨[yA2],[(.exit 0,yS2),(.ret,yQv)],(Unit⊕Bool),fun k d=>yEk (Jg k k) d,fun b x _ K=>match x with|.inl x=>K (.exit 0) (zN b yS2 ((),()))|.inr x=>K .ret (zN b yQv (((x,()),()),()))⟩
def qQv:qA:=⟨[],[(5,qU5),(2,qXk)],[],false⟩
theorem vPv:zU prog 1000 0 33 (zR (zR (zS f138) 0) 0) qU5:=lp (A:=qQv) qU5 (fun d=>match d with|.inl d=>.inl (d.1.1.1,d.1.2.1.1,d.1.2.2.1.1,d.1.2.2.2.1.1)|.inr d=>.inr d.1.1.1) vA9 Ee Ef e0 zF
theorem vYu:zU prog 1000 0 33 (zR (zS f138) 0) qXk:=lp (A:=qQv) qXk (fun d=>match d with|.inl d=>.inl ()|.inr d=>.inr d.1.1.1) yEk Jg Eg e0 (loops1 vPv)
def vVt:=zJ 138 [.c (.dat false (.sl .i))] (.c .bool) (fun k d=>NS k d.1) (fun x=>(x,())) (fun d=>d.1)
theorem vE3:zD prog vVt:=fA f138 qQv e0 (loops1 vYu)
def vX1:=zJ 85 [.agg jV] (.c .bool) (fun k d=>(vJ (Bb k) d)) (fun x=>(x,())) (fun d=>d.1)
theorem QH:zD prog vX1:=fA f85 ⟨[],[],[],false⟩ (e5 vLj vCp qRa vDh vE3) zF
def yTv:zE:=sp [sP 2 0,sP 4 1,sP 7 2,(24,.c (.dat false zG)),sI 25,sI 26] [oB wA,oB oc,oB tj,oA qX,.mat,oA .i,.mat]
def yRi:zE:=sp [sP 2 0,sP 4 1,sP 7 2] [oB wA,oB oc,oB tj,oA qX,.mat,oA .i,.mat]
def yAi (f:qZ6)(d:yTv.den):=(vJ (f d.1.2.2.2.1.1 d.1.2.2.2.2.1.1 d.1.2.2.2.2.2.1.1) d.2.1) d.2.2.2.2.1 d.2.2.2.2.2.1 d.2.2.2.2.2.2.1 d.2.2.2.2.2.2.2.1
def qOq:zW:=⟨[yTv],[(.exit 0,yRi)],qP5,fun k d=>yAi (Er k k) d,fun b x _ K=>K (.exit 0) (zN b yRi (((),(),(),()),((vL x ()),(),(),x.2.2.2.2.1,x.2.2.2.2.2.1,x.2.2.2.2.2.2.1,x.2.2.2.2.2.2.2,())))⟩
def vBh:qA:=⟨[],[(6,qOq)],[],false⟩
theorem vM1:zU prog 1000 0 104 (zR (zS f252) 0) qOq:=lp (A:=vBh) qOq (fun d=>(vL d.2.1 (d.2.2.2.2.1,d.2.2.2.2.2.1,d.2.2.2.2.2.2.1,d.2.2.2.2.2.2.2.1))) yAi Er Es (e4 yRj pq QB QH) zF
def vSx:=zJ 252 [.agg kZ,.c (.dat false zG)] (.tup [(true,nn),(false,vC)]) (fun k d=>(lC (pZ k) d)) (fun x=>(jI x ())) (fun d=>(yV d))
theorem Cf:zD prog vSx:=fA f252 vBh (e4 yRj pq QB QH) (loops1 vM1)
def yE0:zE:=sp [sP 3 0,sP 6 1,sP 7 2,sO 15 3,sI 16,sI 17] [oB wA,oB wW,oB oc,oA zG]
def yQg:zE:=sp [sP 3 0,sP 6 1,sP 7 2] [oB wA,oB wW,oB oc]
def yD8:zE:=sp [sP 6 0,sP 7 1,(8,.c .bool)] [oB wW,oB wA]
def yHq (f:qSo)(d:yE0.den):=(mm (vJ (f d.1.2.2.2.2.1.1 d.1.2.2.2.2.2.1.1) d.2.1) d.2.2.1) d.2.2.2.2.1
def qP3:zW:=⟨[yE0],[(.exit 0,yQg),(.ret,yD8)],qQn,fun k d=>yHq (J7 k k) d,fun b x _ K=>match x with|.inl x=>K (.exit 0) (zN b yQg (((),(),(),()),((vL x ()),(qPb x ()),(),())))|.inr x=>K .ret (zN b yD8 (((),(),(x.1,()),()),((qSw x ()),(vTw x ()),())))⟩
def yC1:qA:=⟨[],[(2,qP3)],[],false⟩
theorem vF4:zU prog 1000 0 40 (zR (zS f275) 0) qP3:=lp (A:=yC1) qP3 (fun d=>match d with|.inl d=>.inl (vL d.2.1 (wG d.2.2.1))|.inr d=>.inr (d.1.2.2.1.1,(ke d.2.1 (fu d.2.2.1)))) yHq J7 Fv (e3 LH LJ Cf) zF
def vUa:=zJ 275 [.agg kZ,.c (.dat true zG),.c .i] (.tup [(true,qu),(true,nn),(false,[.bool])]) (fun k d=>(kk (OK k) d)) (fun x=>(Ho x ())) (fun d=>(Hq d))
theorem yXx:zD prog vUa:=fA f275 yC1 (e3 LH LJ Cf) (loops1 vF4)
def yO1:zE:=⟨[sI 2,sP 6 0,(7,.c (.dat true zG)),sO 8 1],[oB wA,oA zG],[(8,none,zG,false)]⟩
def vBx:zE:=sp [sP 6 0,(7,.c (.dat true zG)),sO 8 1] [oB wA,oA zG]
def yU7 (f:qNh)(d:yO1.den):=(vJ (f d.1.1.1 d.1.2.2.1.1) d.2.1) d.2.2.1
def qNe:zW:=⟨[yO1],[(.ret,vBx)],qJd,fun k d=>yU7 (J8 k k) d,fun b x _ K=>K .ret (zN b vBx (((),(x.1,()),(),()),((iw x ()),x.2.2.2.2.2,())))⟩
def yG6:qA:=⟨[],[(2,qNe)],[],false⟩
theorem vOk:zU prog 1000 0 40 (zR (zS f247) 0) qNe:=lp (A:=yG6) qNe (fun d=>(d.1.2.1.1,(vL d.2.1 d.2.2.1))) yU7 J8 Fx (e2 yXx qw) zF
def vMo:=zJ 247 [.agg kZ,.c (.dat true zG),.c .i] (.tup [(true,nn),(false,[.fro zG]),(false,[.own zG])]) (fun k d=>(kk (OM k) d)) (fun x=>(oe x ())) (fun d=>(np d))
theorem vCe:zD prog vMo:=fA f247 yG6 (e2 yXx qw) (loops1 vOk)
def yXn:zE:=sp [sP 3 0,sP 6 1,sO 8 2,sP 10 3,sO 18 2,sI 19,sI 20,sO 24 2,sI 25,sI 26] [oB wA,oB QI,oA zG,oB wW]
def yP1:zE:=sp [sP 3 0,sP 6 1,sO 8 2,sO 18 2,sI 19,sI 20] [oB wA,oB QI,oA zG]
def yZn:zE:=sp [sP 6 0,(7,.c .bool)] [oB yZf]
def yP8 (f:qUu)(d:yXn.den):=(mm ((Hj (vJ (f d.1.2.2.2.2.2.1.1 d.1.2.2.2.2.2.2.1.1 d.1.2.2.2.2.2.2.2.2.1.1 d.1.2.2.2.2.2.2.2.2.2.1.1) d.2.1) d.2.2.1) d.2.2.2.1) d.2.2.2.2.1)
def qLi:zW:=⟨[yXn],[(.exit 2,yP1),(.ret,yZn)],qN0,fun k d=>yP8 (J9 k k) d,fun b x _ K=>match x with|.inl x=>K (.exit 2) (zN b yP1 (((),(),(),(),(x.1,()),(x.2.1,()),()),((Qr x ()),(aah x ()),x.2.2.2.2.2.2.2.2.2.2.2.2.2.2.2.2.2.2.2.2,())))|.inr x=>K .ret (zN b yZn (((),(x.1,()),()),((qQh x ()),())))⟩
def yIj:zE:=sp [sP 6 0] [oB QI]
def yJ4 (f:qTz)(d:yP1.den):=(Hj (vJ (f d.1.2.2.2.2.1.1 d.1.2.2.2.2.2.1.1) d.2.1) d.2.2.1) d.2.2.2.1
def qId:zW:=⟨[yP1],[(.exit 0,yIj),(.ret,yZn)],qJq,fun k d=>yJ4 (Kb k k) d,fun b x _ K=>match x with|.inl x=>K (.exit 0) (zN b yIj (((),()),((qSb x ()),())))|.inr x=>K .ret (zN b yZn (((),(x.1,()),()),((qQh x ()),())))⟩
def qP2:qA:=⟨[],[(6,qLi),(3,qId)],[],false⟩
theorem vI9:zU prog 1000 0 74 (zR (zR (zS f276) 0) 0) qLi:=lp (A:=qP2) qLi (fun d=>match d with|.inl d=>.inl (d.1.2.2.2.2.1.1,d.1.2.2.2.2.2.1.1,(vL d.2.1 (qKg d.2.2.1 d.2.2.2.1)))|.inr d=>.inr (d.1.2.1.1,(jY d.2.1))) yP8 J9 FA (e3 LH LJ Cf) zF
theorem vDz:zU prog 1000 0 74 (zR (zS f276) 0) qId:=lp (A:=qP2) qId (fun d=>match d with|.inl d=>.inl (yYx d.2.1)|.inr d=>.inr (d.1.2.1.1,(jY d.2.1))) yJ4 Kb FB (e3 LH LJ Cf) (loops1 vI9)
def vR7:=zJ 276 [.agg kZ,.c (.dat true zG),.c .i] (.tup [(true,[.i,.i,.i,.i,.i,.i,.i,.i,.i,.i,.i,.i,.i,.i,.fro qX,.fro (.sl .i),.fro .i,.fro (.sl .i)]),(false,[.bool])]) (fun k d=>(kk (OO k) d)) (fun x=>(yx x ())) (fun d=>(QJ d))
theorem qM2:zD prog vR7:=fA f276 qP2 (e3 LH LJ Cf) (loops1 vDz)
def yGy:zE:=⟨[sI 2,sP 6 0,(7,.c (.dat true zG)),sO 8 1,sO 33 2,sI 34,sI 35],[oB wA,oA zG,oA zG],[(8,none,zG,false)]⟩
def yKp:zE:=sp [sI 2,sP 6 0,(7,.c (.dat true zG)),sO 8 1] [oB wA,oA zG]
def yR4 (f:qWe)(d:yGy.den):=(vJ (f d.1.1.1 d.1.2.2.1.1 d.1.2.2.2.2.2.1.1 d.1.2.2.2.2.2.2.1.1) d.2.1) d.2.2.1 d.2.2.2.1
def qY8:zW:=⟨[yGy],[(.exit 2,yKp)],qZw,fun k d=>yR4 (xD k k) d,fun b x _ K=>K (.exit 2) (zN b yKp (((x.1,()),(),(x.2.1,()),(),()),((Qr x ()),x.2.2.2.2.2.2,())))⟩
def yJn (f:qNh)(d:yO1.den):=(vJ (f d.1.1.1 d.1.2.2.1.1) d.2.1) d.2.2.1
def qJx:zW:=⟨[yO1],[(.ret,vBx)],qJd,fun k d=>yJn (Kc k k) d,fun b x _ K=>K .ret (zN b vBx (((),(x.1,()),(),()),((iw x ()),x.2.2.2.2.2,())))⟩
def qYv:qA:=⟨[],[(7,qY8),(2,qJx)],[],false⟩
theorem vTr:zU prog 1000 0 52 (zR (zR (zS f248) 0) 0) qY8:=lp (A:=qYv) qY8 (fun d=>(d.1.1.1,d.1.2.2.1.1,(vL d.2.1 d.2.2.1))) yR4 xD xE (e2 qM2 qw) zF
theorem vSm:zU prog 1000 0 52 (zR (zS f248) 0) qJx:=lp (A:=qYv) qJx (fun d=>(d.1.2.1.1,(vL d.2.1 d.2.2.1))) yJn Kc FC (e2 qM2 qw) (loops1 vTr)
def vFl:=zJ 248 [.agg kZ,.c (.dat true zG),.c .i] (.tup [(true,nn),(false,[.fro zG]),(false,[.own zG])]) (fun k d=>(kk (OP k) d)) (fun x=>(oe x ())) (fun d=>(np d))
theorem yKz:zD prog vFl:=fA f248 qYv (e2 qM2 qw) (loops1 vSm)
def yZ2 (f:qNh)(d:yO1.den):=(vJ (f d.1.1.1 d.1.2.2.1.1) d.2.1) d.2.2.1
def qQ4:zW:=⟨[yO1],[(.ret,vBx)],qJd,fun k d=>yZ2 (Kk k k) d,fun b x _ K=>K .ret (zN b vBx (((),(x.1,()),(),()),((iw x ()),x.2.2.2.2.2,())))⟩
def vCb:qA:=⟨[],[(2,qQ4)],[],false⟩
theorem vZn:zU prog 1000 0 40 (zR (zS f213) 0) qQ4:=lp (A:=vCb) qQ4 (fun d=>(d.1.2.1.1,(vL d.2.1 d.2.2.1))) yZ2 Kk OX (e2 vCe yKz) zF
def vRs:=zJ 213 [.agg kZ,.c (.dat true zG),.c .i] (.tup [(true,nn),(false,[.fro zG]),(false,[.own zG])]) (fun k d=>(kk (Kl k) d)) (fun x=>(oe x ())) (fun d=>(np d))
theorem aai:zD prog vRs:=fA f213 vCb (e2 vCe yKz) (loops1 vZn)
def vQz:=xh 278 false .i (.own .i) V0
theorem aaj:zD prog vQz:=fC f278 ⟨[],[],[],false⟩ e0 zF
def vHm:=yU 279 [.agg vO,.ptr true [.own .i]] (.c .bool) [[.own .i]] 0 (fun k d=>(mj (V2 k) d)) (fun x=>(x.1,x.2,())) (fun d=>(d.1,d.2.1))
theorem yI9:zD prog vHm:=fX f279 ⟨[],[],[],false⟩ 2 e0 zF
def yBx:zE:=⟨[(1,.c (.lit (.fn 279 [1001000]))),sO 5 2,(8,.c (.dat false zG)),sI 9,sI 10],[oB [.lit (.osl 1001001 none)],oA .i,oA zG],[(5,none,zG,false)]⟩
def yP4:zE:=sp [(1,.c (.lit (.fn 279 [1001000]))),sO 5 2] [oB [.lit (.osl 1001001 none)],oA .i,oA zG]
def yKy (f:qRm)(d:yBx.den):=f d.1.2.2.1.1 d.1.2.2.2.1.1 d.1.2.2.2.2.1.1 d.2.2.1 d.2.2.2.1
def qRv:zW:=⟨[yBx],[(.exit 0,yP4)],qWf,fun k d=>yKy (FF k k) d,fun b x _ K=>K (.exit 0) (zN b yP4 (((),(),()),((),x.1,x.2,())))⟩
def yRs:qA:=⟨[],[(3,qRv)],[],false⟩
theorem vLv:zU prog 1000 2 23 (zR (zS f194) 0) qRv:=lp (A:=yRs) qRv (fun d=>(d.2.2.1,d.2.2.2.1)) yKy FF FG (e1 yI9) zF
def vZc:=yU 194 [.c (.p (.dat false zG)),.fn 279 [(true,[.own .i])]] (.c (.own zG)) [[.own .i]] 0 (fun k d=>V1 k d.1 d.2.1) (fun x=>(x.1,x.2,())) (fun d=>(d.1,d.2.1))
theorem vZd:zD prog vZc:=fX f194 yRs 2 (e1 yI9) (loops1 vLv)
def vLo:=zJ 250 [.c (.dat false zG),.c (.dat false .i)] (.c (.own zG)) (fun k d=>FE k d.1 d.2.1) (fun x=>(x,())) (fun d=>d.1)
theorem Hr:zD prog vLo:=fA f250 ⟨[],[],[],false⟩ (e2 aaj vZd) zF
def yJf:zE:=⟨[sP 3 0,sO 6 1,sI 7,sO 8 2,sI 18,sI 19],[oB jZ,oA .i,oA zG],[(6,none,.i,false)]⟩
def yJg:zE:=sp [sP 3 0,sO 6 1,sI 7,sO 8 2] [oB jZ,oA .i,oA zG]
def yAc (f:qH2)(d:yJf.den):=(vJ (f d.1.2.2.1.1 d.1.2.2.2.2.1.1 d.1.2.2.2.2.2.1.1) d.2.1) d.2.2.1 d.2.2.2.1
def QK:zW:=⟨[yJf],[(.exit 0,yJg)],qW5,fun k d=>yAc (Bx k k) d,fun b x _ K=>K (.exit 0) (zN b yJg (((),(),(x.1,()),(),()),((iw x ()),x.2.2.2.2.2.1,x.2.2.2.2.2.2,())))⟩
def yIv:zE:=sp [sP 3 0,sO 6 1,sI 7,sO 8 2,sO 42 3,sI 43,sI 44] [oB jZ,oA .i,oA zG,oA .i]
def yCj (f:qPr)(d:yIv.den):=(vJ (f d.1.2.2.1.1 d.1.2.2.2.2.2.1.1 d.1.2.2.2.2.2.2.1.1) d.2.1) d.2.2.1 d.2.2.2.1 d.2.2.2.2.1
def qI8:zW:=⟨[yIv],[(.exit 4,yJg)],qW5,fun k d=>yCj (FJ k k) d,fun b x _ K=>K (.exit 4) (zN b yJg (((),(),(x.1,()),(),()),((iw x ()),x.2.2.2.2.2.1,x.2.2.2.2.2.2,())))⟩
def yDf:zE:=sp [sO 6 0,sI 7] [oA .i]
def yPt (f:qKi)(d:yJg.den):=(vJ (f d.1.2.2.1.1) d.2.1) d.2.2.1 d.2.2.2.1
def QL:zW:=⟨[yJg],[(.ret,yDf)],(Int×AC),fun k d=>yPt (Kj k k) d,fun b x _ K=>K .ret (zN b yDf (((),(x.1,()),()),(x.2,())))⟩
def QM:qA:=⟨[],[(3,QK),(12,qI8),(7,QL)],[],false⟩
theorem vUz:zU prog 1000 0 55 (zR (zS f249) 0) QK:=lp (A:=QM) QK (fun d=>(d.1.2.2.1.1,(vL d.2.1 (d.2.2.1,d.2.2.2.1)))) yAc Bx FI (e4 Ce LC Hr LI) zF
theorem vU4:zU prog 1000 0 55 (zR (zR (zS f249) 1) 0) qI8:=lp (A:=QM) qI8 (fun d=>(d.1.2.2.1.1,(vL d.2.1 (d.2.2.1,d.2.2.2.1)))) yCj FJ FK (e4 Ce LC Hr LI) zF
theorem vUe:zU prog 1000 0 55 (zR (zS f249) 1) QL:=lp (A:=QM) QL (fun d=>(d.1.2.1.1,d.2.1)) yPt Kj FL (e4 Ce LC Hr LI) (loops1 vU4)
def vSe:=zJ 249 [.agg jV,.c (.dat false zG),.c .i] (.tup [(false,[.own .i]),(false,vC)]) (fun k d=>(kk (OU k) d)) (fun x=>(x.1,x.2,())) (fun d=>(d.1,d.2.1))
theorem yKi:zD prog vSe:=fA f249 QM (e4 Ce LC Hr LI) (oP (n:=2) (by kernel_rfl) fun i hi=>match i,hi with|0,_=>⟨QK,by kernel_rfl,vUz⟩|1,_=>⟨QL,by kernel_rfl,vUe⟩|i+2,hi=>absurd hi (by omega))
def yCh:zE:=sp [sP 6 0,(7,.c (.dat true zG)),sO 11 1,sO 38 1,sI 39,sI 40] [oB wA,oA zG]
def yOr:zE:=sp [sP 6 0,(7,.c (.dat true zG)),sO 11 1] [oB wA,oA zG]
def yBv (f:qT3)(d:yCh.den):=(vJ (f d.1.2.1.1 d.1.2.2.2.2.1.1 d.1.2.2.2.2.2.1.1) d.2.1) d.2.2.1
def qMd:zW:=⟨[yCh],[(.exit 0,yOr)],qJd,fun k d=>yBv (By k k) d,fun b x _ K=>K (.exit 0) (zN b yOr (((),(x.1,()),(),()),((iw x ()),x.2.2.2.2.2,())))⟩
def yNx:qA:=⟨[],[(8,qMd)],[],false⟩
theorem vXw:zU prog 1000 0 56 (zR (zS f214) 0) qMd:=lp (A:=yNx) qMd (fun d=>(d.1.2.1.1,(vL d.2.1 d.2.2.1))) yBv By FM (e5 yKi Ce Hr Cf qw) zF
def vXh:=zJ 214 [.agg kZ,.c (.dat true zG),.c .i] (.tup [(true,nn),(false,[.fro zG]),(false,[.own zG])]) (fun k d=>(kk (Bz k) d)) (fun x=>(oe x ())) (fun d=>(np d))
theorem vFa:zD prog vXh:=fA f214 yNx (e5 yKi Ce Hr Cf qw) (loops1 vXw)
def vZz:=zJ 164 [.agg kZ,.c (.dat true zG),.c .i,.c .bool] (.tup [(true,nn),(false,[.fro zG]),(false,[.own zG])]) (fun k d=>(mm (uJ k) d)) (fun x=>(oe x ())) (fun d=>(np d))
theorem vKz:zD prog vZz:=fA f164 ⟨[],[],[],false⟩ (e2 aai vFa) zF
def yN2:zE:=⟨[sO 3 0,sP 5 1,(8,.c (.dat false zG)),sI 9,sI 10,sO 18 2,sI 19,sI 20],[oA yH,oB wW,oA .i],[(3,none,yH,false)]⟩
def yGa:zE:=sp [sO 3 0,(8,.c (.dat false zG)),sI 9,sI 10] [oA yH]
def yQd (f:qTl)(d:yN2.den):=(mm (f d.1.2.2.1.1 d.1.2.2.2.1.1 d.1.2.2.2.2.1.1 d.1.2.2.2.2.2.2.1.1 d.1.2.2.2.2.2.2.2.1.1 d.2.1) d.2.2.1) d.2.2.2.1
def qTq:zW:=⟨[yN2],[(.exit 2,yGa)],qJc,fun k d=>yQd (xJ k k) d,fun b x _ K=>K (.exit 2) (zN b yGa (((),(x.1,()),(x.2.1,()),(x.2.2.1,()),()),(x.2.2.2,())))⟩
def yMj:zE:=⟨[sO 3 0,(8,.c (.dat false zG)),sI 9,sI 10],[oA yH],[(3,none,yH,false)]⟩
def yLg:zE:=sp [sO 3 0] [oA yH]
def yKl (f:qZg)(d:yMj.den):=f d.1.2.1.1 d.1.2.2.1.1 d.1.2.2.2.1.1 d.2.1
def qKl:zW:=⟨[yMj],[(.exit 0,yLg)],qMa,fun k d=>yKl (Km k k) d,fun b x _ K=>K (.exit 0) (zN b yLg (((),()),(x,())))⟩
def qLx:qA:=⟨[],[(6,qTq),(3,qKl)],[],false⟩
theorem vJ2:zU prog 1000 0 41 (zR (zR (zS f165) 0) 0) qTq:=lp (A:=qLx) qTq (fun d=>(d.1.2.1.1,d.1.2.2.1.1,d.1.2.2.2.1.1,d.2.1)) yQd xJ xK (e1 yv) zF
theorem vFm:zU prog 1000 0 41 (zR (zS f165) 0) qKl:=lp (A:=qLx) qKl (fun d=>d.2.1) yKl Km FO (e1 yv) (loops1 vJ2)
def vTd:=zJ 165 [.c (.dat false zG)] (.c (.own yH)) (fun k d=>OY k d.1) (fun x=>(x,())) (fun d=>d.1)
theorem vDi:zD prog vTd:=fA f165 qLx (e1 yv) (loops1 vFm)
def vSq:=zJ 96 [.agg yo,.c .bool] (.tup [(true,yp),(false,[.own yH])]) (fun k d=>(LK (pg k) d)) (fun x=>(Ho x ())) (fun d=>(Hq d))
theorem qIs:zD prog vSq:=fA f96 ⟨[],[],[],false⟩ (e2 vKz vDi) zF
def vCa:zE:=⟨[sP 2 0,sP 3 1,sP 4 2,sO 6 3,sO 7 4,(27,.c (.dat true zG)),sI 28,sI 29],[oB qt,oB iU,oB ft,oA yH,oA zG],[(6,none,yH,false),(7,none,zG,false)]⟩
def yB8:zE:=sp [sP 2 0,sP 3 1,sP 4 2,sO 6 3,sO 7 4] [oB qt,oB iU,oB ft,oA yH,oA zG]
def yP5 (f:qVl)(d:vCa.den):=(tg (lC (f d.1.2.2.2.2.2.1.1 d.1.2.2.2.2.2.2.1.1 d.1.2.2.2.2.2.2.2.1.1) d.2.1) d.2.2.1) d.2.2.2.1.1 d.2.2.2.1.2.1 d.2.2.2.1.2.2.1 d.2.2.2.2.1 d.2.2.2.2.2.1
def qUd:zW:=⟨[vCa],[(.exit 0,yB8)],qZr,fun k d=>yP5 (FX k k) d,fun b x _ K=>K (.exit 0) (zN b yB8 (((),(),(),(),(),()),((tl x ()),(vQy x ()),(x.2.2.2.2.2.2.2.2.2.2.2.2.2.2.2.2.1,x.2.2.2.2.2.2.2.2.2.2.2.2.2.2.2.2.2.1,x.2.2.2.2.2.2.2.2.2.2.2.2.2.2.2.2.2.2.1,()),x.2.2.2.2.2.2.2.2.2.2.2.2.2.2.2.2.2.2.2.1,x.2.2.2.2.2.2.2.2.2.2.2.2.2.2.2.2.2.2.2.2,())))⟩
def yUm:qA:=⟨[],[(9,qUd)],[],false⟩
theorem aak:zU prog 1000 0 66 (zR (zS f95) 0) qUd:=lp (A:=yUm) qUd (fun d=>(tl d.2.1 (yw d.2.2.1 (d.2.2.2.1.1,d.2.2.2.1.2.1,d.2.2.2.1.2.2.1,d.2.2.2.2.1,d.2.2.2.2.2.1)))) yP5 FX FY (e6 QC yK2 vAw yv yU9 qIs) zF
def vOq:=zJ 95 [.agg ki,.agg yo] (.tup [(true,yp),(false,[.own yH])]) (fun k d=>(yF6 (uK k) d)) (fun x=>(Ho x ())) (fun d=>(Hq d))
theorem vTu:zD prog vOq:=fA f95 yUm (e6 QC yK2 vAw yv yU9 qIs) (loops1 aak)
def vUc:=yU 154 [.ptr true yq,.agg LF] (.c .i) [lA] 0 (fun k d=>yHg k (lB d) (yZr d)) (fun x=>(x.1,(jH x.2 ()))) (fun d=>(d.1,(kj d)))
theorem vR5:zD prog vUc:=fX f154 n0 1 (e4 iu yZh ySw Qv) zF
def vUb:=yU 155 [.ptr true yq,.agg vO] (.c .i) [lA] 0 (fun k d=>QN k (lB d) (Hl d)) (fun x=>(x.1,(jH x.2 ()))) (fun d=>(d.1,(kj d)))
theorem aal:zD prog vUb:=fX f155 n0 1 (e8 yHu qw yGd iu Y7 yL5 yYc yLi) zF
def aam:=yU 156 [.ptr true yq,.agg vO] (.c .i) [lA] 0 (fun k d=>QO k (lB d) (Hl d)) (fun x=>(x.1,(jH x.2 ()))) (fun d=>(d.1,(kj d)))
theorem vZh:zD prog aam:=fX f156 n0 1 (e3 pq yDz iu) zF
def vF8:=yU 157 [.ptr true yq,.c (.p .i),.c (.p .i)] (.c .i) [lA] 0 (fun k d=>yXj k (lB d) d.2.2.2.2.2.2.2.2.2.2.2.2.2.2.2.2.2.2.1 d.2.2.2.2.2.2.2.2.2.2.2.2.2.2.2.2.2.2.2.1) (fun x=>(x.1,(jH x.2 ()))) (fun d=>(d.1,(kj d)))
theorem vXc:zD prog vF8:=fX f157 n0 1 (e6 Hm iu yUo Hn yu pq) zF
def vOa:=yU 158 [.ptr true yq,.c (.p .i),.c (.p .i),.c (.p .i)] (.c .i) [lA] 0 (fun k d=>BL k (lB d) d.2.2.2.2.2.2.2.2.2.2.2.2.2.2.2.2.2.2.1 d.2.2.2.2.2.2.2.2.2.2.2.2.2.2.2.2.2.2.2.1 d.2.2.2.2.2.2.2.2.2.2.2.2.2.2.2.2.2.2.2.2.1) (fun x=>(x.1,(jH x.2 ()))) (fun d=>(d.1,(kj d)))
theorem vJb:zD prog vOa:=fX f158 n0 1 (e5 iu yH5 yK7 yFh pq) zF
def yBp:zE:=sp [sP 0 0,sO 7 1,sP 8 2,(40,.c (.dat true (.sl .i))),sI 41,sI 42] [oB qIj,oA .i,oB tj,oA qX,.mat,oA .i,.mat]
def yRb:zE:=sp [sP 0 0,sO 7 1,sP 8 2] [oB qIj,oA .i,oB tj,oA qX,.mat,oA .i,.mat]
def vBd:zE:=sp [sP 0 0,sI 6] [oB qIj]
def yZc (f:qOj)(d:yBp.den):=f d.1.2.2.2.1.1 d.1.2.2.2.2.1.1 d.1.2.2.2.2.2.1.1 (lB d.2.1) d.2.2.1 d.2.2.2.2.1 d.2.2.2.2.2.1 d.2.2.2.2.2.2.1 d.2.2.2.2.2.2.2.1
def qP6:zW:=⟨[yBp],[(.exit 0,yRb),(.ret,vBd)],qWa,fun k d=>yZc (uS k k) d,fun b x _ K=>match x with|.inl x=>K (.exit 0) (zN b yRb (((),(),(),()),((vS x.1 ()),x.2.1,(),x.2.2.1,x.2.2.2.1,x.2.2.2.2.1,x.2.2.2.2.2,())))|.inr x=>K .ret (zN b vBd (((),(x.1,()),()),((vS x.2 ()),())))⟩
def yI8:qA:=⟨[],[(6,qP6)],[],true⟩
theorem vXs:zU prog 1000 1 81 (zR (zS f159) 0) qP6:=lp (A:=yI8) qP6 (fun d=>match d with|.inl d=>.inl ((lB d.2.1),d.2.2.1,d.2.2.2.2.1,d.2.2.2.2.2.1,d.2.2.2.2.2.2.1,d.2.2.2.2.2.2.2.1)|.inr d=>.inr (d.1.2.1.1,(lB d.2.1))) yZc uS Gs (e5 Hm iu Hn pq yu) zF
def vPp:=yU 159 [.ptr true yq,.c (.p .i),.c (.p .i)] (.c .i) [lA] 0 (fun k d=>Py k (lB d) d.2.2.2.2.2.2.2.2.2.2.2.2.2.2.2.2.2.2.1 d.2.2.2.2.2.2.2.2.2.2.2.2.2.2.2.2.2.2.2.1) (fun x=>(x.1,(jH x.2 ()))) (fun d=>(d.1,(kj d)))
theorem vPa:zD prog vPp:=fX f159 yI8 1 (e5 Hm iu Hn pq yu) (loops1 vXs)
def vYf:=yU 94 [.ptr true yq,.agg vO] (.c .i) [lA] 0 (fun k d=>yg k (lB d) (Hl d)) (fun x=>(x.1,(jH x.2 ()))) (fun d=>(d.1,(kj d)))
theorem vDj:zD prog vYf:=fX f94 n0 1 (e6 vR5 aal vZh vXc vJb vPa) zF
def vEh:=zJ 40 [.agg QP,.agg yo,.agg LB] (.tup [(true,yp),(false,[.own yH]),(false,vC)]) (fun k d=>im k (yV d) (qq d) (YZ d)) (fun x=>(wZ x.1 (x.2.1,x.2.2,()))) (fun d=>((qV d),d.2.2.2.2.2.2.2.2.2.2.2.1,d.2.2.2.2.2.2.2.2.2.2.2.2.1))
theorem qSz:zD prog vEh:=fA f40 n0 (e9 Y0 vFb yGd vKu vTu qIs yr yDb vDj) zF
def vYs:=yU 41 [.chn [qNq,nk],.c (.p (.dat false (.int .u8)))] (.c .i) [[.link 1,.i,.i,.i,.bool],kY] 0 (fun k d=>vd k (QQ d) (QR d) d.2.2.2.2.2.2.2.2.2.2.2.2.2.2.2.1) (fun x=>(x.1,(),(gO x.2.1 (kh x.2.2 ())))) (fun d=>(d.1,(qTu d),(qKq d)))
theorem QS:zD prog vYs:=fX f41 n0 0 (e1 yDm) zF
def vMs:=zJ 140 [.c .i] (.c .bool) (fun k d=>Xi k d.1) (fun x=>(x,())) (fun d=>d.1)
theorem yB5:zD prog vMs:=fA f140 n0 (e1 iu) zF
def yVo:zE:=sp [(0,.c (.dat false .i)),(1,.c (.lit (.fn 140 []))),sI 7,sI 8] []
def yIa (f:qPo)(d:yVo.den):=f d.1.1.1 d.1.2.2.1.1 d.1.2.2.2.1.1
def qNc:zW:=⟨[yVo],[(.exit 0,yS2),(.ret,vAc)],(Unit⊕Int),fun k d=>yIa (B4 k k) d,fun b x _ K=>match x with|.inl x=>K (.exit 0) (zN b yS2 ((),()))|.inr x=>K .ret (zN b vAc (((x,()),()),()))⟩
def yLc:qA:=⟨[],[(2,qNc)],[],false⟩
theorem aan:zU prog 1000 0 19 (zR (zS f189) 0) qNc:=lp (A:=yLc) qNc (fun d=>match d with|.inl d=>.inl ()|.inr d=>.inr d.1.1.1) yIa B4 G2 (e1 yB5) zF
def aao:=zJ 189 [.c (.dat false .i),.c (.fn 140)] (.c .i) (fun k d=>Xj k d.1) (fun x=>(x,())) (fun d=>d.1)
theorem vNw:zD prog aao:=fA f189 yLc (e1 yB5) (loops1 aan)
def vFe:=zJ 139 [.c (.dat false .i),.c (.fn 140)] (.c .bool) (fun k d=>Lb k d.1) (fun x=>(x,())) (fun d=>d.1)
theorem yZ7:zD prog vFe:=fA f139 ⟨[],[],[],false⟩ (e1 vNw) zF
def vSy:=zJ 142 [.c .i] (.c .bool) (fun k d=>Xk k d.1) (fun x=>(x,())) (fun d=>d.1)
theorem yFv:zD prog vSy:=fA f142 n0 e0 zF
def yPh:zE:=sp [(0,.c (.dat false .i)),(1,.c (.lit (.fn 142 []))),sI 7,sI 8] []
def yXr (f:qPo)(d:yPh.den):=f d.1.1.1 d.1.2.2.1.1 d.1.2.2.2.1.1
def qTd:zW:=⟨[yPh],[(.exit 0,yS2),(.ret,vAc)],(Unit⊕Int),fun k d=>yXr (B5 k k) d,fun b x _ K=>match x with|.inl x=>K (.exit 0) (zN b yS2 ((),()))|.inr x=>K .ret (zN b vAc (((x,()),()),()))⟩
def yWw:qA:=⟨[],[(2,qTd)],[],false⟩
theorem vOc:zU prog 1000 0 19 (zR (zS f189) 0) qTd:=lp (A:=yWw) qTd (fun d=>match d with|.inl d=>.inl ()|.inr d=>.inr d.1.1.1) yXr B5 G3 (e1 yFv) zF
def vY0:=zJ 189 [.c (.dat false .i),.c (.fn 142)] (.c .i) (fun k d=>Xl k d.1) (fun x=>(x,())) (fun d=>d.1)
theorem aap:zD prog vY0:=fA f189 yWw (e1 yFv) (loops1 vOc)
def vX8:=zJ 139 [.c (.dat false .i),.c (.fn 142)] (.c .bool) (fun k d=>PY k d.1) (fun x=>(x,())) (fun d=>d.1)
theorem yIu:zD prog vX8:=fA f139 ⟨[],[],[],false⟩ (e1 aap) zF
def yD1:zE:=sp [sP 2 0,sP 3 1,(28,.c (.dat false (.sl .i))),sI 29,sI 30] [oB qt,oB QT]
def yQ5:zE:=sp [(4,.c .bool)] []
def yIz (f:qIw)(d:yD1.den):=f d.1.2.2.1.1 d.1.2.2.2.1.1 d.1.2.2.2.2.1.1 (yV d.2.1) (qV d.2.2.1)
def qYn:zW:=⟨[yD1],[(.exit 0,yS2),(.ret,yQ5)],(Unit⊕Bool),fun k d=>yIz (yi k k) d,fun b x _ K=>match x with|.inl x=>K (.exit 0) (zN b yS2 ((),()))|.inr x=>K .ret (zN b yQ5 (((x,()),()),()))⟩
def yI2:qA:=⟨[],[(6,qYn)],[],true⟩
theorem vHg:zU prog 1000 0 66 (zR (zS f86) 0) qYn:=lp (A:=yI2) qYn (fun d=>match d with|.inl d=>.inl ()|.inr d=>.inr d.1.1.1) yIz yi G4 (e3 yZ7 yu yIu) zF
def vSi:=zJ 86 [.agg ki,.agg tf] (.c .bool) (fun k d=>Lc k (yV d) (qq d)) (fun x=>(x,())) (fun d=>d.1)
theorem yBi:zD prog vSi:=fA f86 yI2 (e3 yZ7 yu yIu) (loops1 vHg)
def yOm:zE:=sp [(0,.c (.dat false zG)),(1,.c (.lit (.fn 193 []))),sI 5] []
def yCf (f:qVh)(d:yOm.den):=f d.1.1.1 d.1.2.2.1.1
def qPs:zW:=⟨[yOm],[(.exit 0,yS2),(.ret,yQ5)],(Unit⊕Bool),fun k d=>yCf (K6 k k) d,fun b x _ K=>match x with|.inl x=>K (.exit 0) (zN b yS2 ((),()))|.inr x=>K .ret (zN b yQ5 (((x,()),()),()))⟩
def yKe:qA:=⟨[],[(2,qPs)],[],true⟩
theorem vO0:zU prog 1000 0 25 (zR (zS f192) 0) qPs:=lp (A:=yKe) qPs (fun d=>match d with|.inl d=>.inl ()|.inr d=>.inr d.1.1.1) yCf K6 PV (e1 Hk) zF
def vPg:=zJ 192 [.c (.dat false zG),.c (.fn 193)] (.c .bool) (fun k d=>PU k d.1) (fun x=>(x,())) (fun d=>d.1)
theorem yQx:zD prog vPg:=fA f192 yKe (e1 Hk) (loops1 vO0)
def yZm:zE:=sp [(0,.c (.dat false zG)),(5,.c (.dat false zG)),sI 6,sI 7] []
def yLz:zE:=sp [(0,.c (.dat false zG))] []
def yHf (f:qIm)(d:yZm.den):=f d.1.1.1 d.1.2.1.1 d.1.2.2.1.1 d.1.2.2.2.1.1
def qQ6:zW:=⟨[yZm],[(.exit 0,yLz),(.ret,yQv)],qOd,fun k d=>yHf (B2 k k) d,fun b x _ K=>match x with|.inl x=>K (.exit 0) (zN b yLz (((x,()),()),()))|.inr x=>K .ret (zN b yQv (((x,()),()),()))⟩
def yA9:qA:=⟨[],[(2,qQ6)],[],false⟩
theorem vQ9:zU prog 1000 0 26 (zR (zS f146) 0) qQ6:=lp (A:=yA9) qQ6 (fun d=>match d with|.inl d=>.inl d.1.1.1|.inr d=>.inr d.1.1.1) yHf B2 GZ (e2 yr yQx) zF
def vUt:=zJ 146 [.c (.dat false zG)] (.c .bool) (fun k d=>K5 k d.1) (fun x=>(x,())) (fun d=>d.1)
theorem aaq:zD prog vUt:=fA f146 yA9 (e2 yr yQx) (loops1 vQ9)
def yVe:zE:=sp [(0,.c (.dat false .i)),sI 3,(6,.c (.dat false .i)),sI 7,sI 8] []
def vBe:zE:=sp [(0,.c (.dat false .i))] []
def yPe (f:qNi)(d:yVe.den):=f d.1.1.1 d.1.2.1.1 d.1.2.2.1.1 d.1.2.2.2.1.1 d.1.2.2.2.2.1.1
def qYm:zW:=⟨[yVe],[(.exit 0,vBe),(.ret,yQv)],(AC⊕Bool),fun k d=>yPe (K8 k k) d,fun b x _ K=>match x with|.inl x=>K (.exit 0) (zN b vBe (((x,()),()),()))|.inr x=>K .ret (zN b yQv (((x,()),()),()))⟩
def yFg:qA:=⟨[],[(3,qYm)],[],true⟩
theorem vOx:zU prog 1000 0 20 (zR (zS f147) 0) qYm:=lp (A:=yFg) qYm (fun d=>match d with|.inl d=>.inl d.1.1.1|.inr d=>.inr d.1.1.1) yPe K8 G0 e0 zF
def vJp:=zJ 147 [.c (.dat false .i)] (.c .bool) (fun k d=>K7 k d.1) (fun x=>(x,())) (fun d=>d.1)
theorem vQu:zD prog vJp:=fA f147 yFg e0 (loops1 vOx)
def vJx:=zJ 145 [.c (.dat false .i),.c .i] (.c .bool) (fun k d=>OD k d.1 d.2.1) (fun x=>(x,())) (fun d=>d.1)
theorem vHq:zD prog vJx:=fA f145 n0 (e1 yN4) zF
def vDl:=zJ 143 [.agg vO,.ptr tf] (.c .bool) (fun k d=>PX k (wG d) (vSh d)) (fun x=>(x,())) (fun d=>d.1)
theorem yRg:zD prog vDl:=fA f143 n0 (e3 qZ2 iu vHq) zF
def yZk:zE:=sp [(0,.c (.dat false zG)),(1,.c (.lit (.fn 143 [1001000]))),sI 7,sI 8] [.robox QT]
def yRc (f:qVg)(d:yZk.den):=(tg (f d.1.1.1 d.1.2.2.1.1 d.1.2.2.2.1.1) d.2.1)
def qW8:zW:=⟨[yZk],[(.exit 0,yS2),(.ret,vAc)],(Unit⊕Int),fun k d=>yRc (B3 k k) d,fun b x _ K=>match x with|.inl x=>K (.exit 0) (zN b yS2 ((),()))|.inr x=>K .ret (zN b vAc (((x,()),()),()))⟩
def yHb:qA:=⟨[],[(2,qW8)],[],false⟩
theorem vC1:zU prog 1000 0 19 (zR (zS f166) 0) qW8:=lp (A:=yHb) qW8 (fun d=>match d with|.inl d=>.inl ()|.inr d=>.inr d.1.1.1) yRc B3 G1 (e1 yRg) zF
def vNu:=zJ 166 [.c (.dat false zG),.fn 143 [tf]] (.c .i) (fun k d=>(LK (Xh k) d)) (fun x=>(x,())) (fun d=>d.1)
theorem vQk:zD prog vNu:=fA f166 yHb (e1 yRg) (loops1 vC1)
def aar:=zJ 148 [.c (.dat false zG),.fn 143 [tf]] (.c .bool) (fun k d=>(LK (PW k) d)) (fun x=>(x,())) (fun d=>d.1)
theorem vOo:zD prog aar:=fA f148 ⟨[],[],[],false⟩ (e1 vQk) zF
def vKy:=zJ 87 [.agg tf] (.c .bool) (fun k d=>K9 k (qV d)) (fun x=>(x,())) (fun d=>d.1)
theorem yHt:zD prog vKy:=fA f87 n0 (e3 aaq vQu vOo) zF
def yKs:zE:=⟨[sP 2 0,sP 3 1,sO 5 2,(44,.c (.dat false qX)),sI 45,sI 46],[oB qt,oB QT,oA .i],[(5,none,.i,false)]⟩
def yH9:zE:=sp [sP 2 0,sP 3 1,sO 5 2] [oB qt,oB QT,oA .i]
def yI3 (f:qSe)(d:yKs.den):=f d.1.2.2.2.1.1 d.1.2.2.2.2.1.1 d.1.2.2.2.2.2.1.1 (yV d.2.1) (qV d.2.2.1) d.2.2.2.1
def qI5:zW:=⟨[yKs],[(.exit 0,yH9)],qO7,fun k d=>yI3 (G5 k k) d,fun b x _ K=>K (.exit 0) (zN b yH9 (((),(),(),()),((jI x.1 ()),(wZ x.2.1 ()),x.2.2,())))⟩
def yXh:qA:=⟨[],[(5,qI5)],[],true⟩
theorem vXi:zU prog 1000 0 92 (zR (zS f38) 0) qI5:=lp (A:=yXh) qI5 (fun d=>((yV d.2.1),(qV d.2.2.1),d.2.2.2.1)) yI3 G5 G6 (e6 iu QH yBi yHt QA QC) zF
def vOz:=zJ 38 [.agg ki,.agg tf] (.c .bool) (fun k d=>Ld k (yV d) (qq d)) (fun x=>(x,())) (fun d=>d.1)
theorem yPn:zD prog vOz:=fA f38 yXh (e6 iu QH yBi yHt QA QC) (loops1 vXi)
def yKr:zE:=⟨[sP 1 0,sI 2,sP 3 3,(12,.c .bool),sP 13 4,sP 17 5,(72,.c (.dat true (.sl (.int .u8)))),sI 73,sI 74],[oB yJj,oA (.int .u8),oA (.int .u8),oB QU,oB [.lit (.ptr 1001000 0),.i,.i,.i,.bool],oB iU],[(17,some 1,.bool,true),(17,some 2,.bool,true),(17,some 3,.bool,true),(17,some 4,.bool,true),(17,some 5,.bool,true),(17,some 6,.bool,true),(17,some 7,.bool,true),(17,some 8,.bool,true)]⟩
def yY6:zE:=sp [sP 1 0,sI 2,sP 3 3,(12,.c .bool),sP 13 4,sP 17 5] [oB yJj,oA (.int .u8),oA (.int .u8),oB QU,oB [.lit (.ptr 1001000 0),.i,.i,.i,.bool],oB iU]
def yJ0 (f:qLl)(d:yKr.den):=f d.1.2.1.1 d.1.2.2.2.1.1 d.1.2.2.2.2.2.2.1.1 d.1.2.2.2.2.2.2.2.1.1 d.1.2.2.2.2.2.2.2.2.1.1 (nZ d.2.1) d.2.2.1 d.2.2.2.1 (yV d.2.2.2.2.1) (fu d.2.2.2.2.2.1) (qV d.2.2.2.2.2.2.1)
def qH5:zW:=⟨[yKr],[(.exit 0,yY6)],qT8,fun k d=>yJ0 (yl k k) d,fun b x _ K=>K (.exit 0) (zN b yY6 (((),(x.1,()),(),(x.2.1,()),(),(),()),((Hi x.2.2.1 ()),x.2.2.2.1,x.2.2.2.2.1,(jI x.2.2.2.2.2.1 ()),(gO x.2.2.2.2.2.2.1 ()),(wZ x.2.2.2.2.2.2.2 ()),())))⟩
def yW1:qA:=⟨[],[(11,qH5)],[],true⟩
theorem vLn:zU prog 1000 2 112 (zR (zS f10) 0) qH5:=lp (A:=yW1) qH5 (fun d=>(d.1.2.1.1,d.1.2.2.2.1.1,(nZ d.2.1),d.2.2.1,d.2.2.2.1,(yV d.2.2.2.2.1),(fu d.2.2.2.2.2.1),(qV d.2.2.2.2.2.2.1))) yJ0 yl ym (e10 F7q X8 yOb Cd yGj yG2 yPb qSz QS yPn) zF
def qQx:=Nr 10 [.agg QP,.ptr true nk,.c (.p .i)] (.tup [(false,[.link 1]),(false,vC)]) [kY,[.link 2,.i,.fro jA,.i,.i,.i,.i,.fro qX,.fro (.sl .i),.fro .i,.fro (.sl .i),.fro .i,.fro (.sl .i),.fro zG,.fro .i,.i,.bool,.i,.bool],[.link 0,.i,.i,.i,.bool]] 2 (.tup [(false,[.nilp]),(false,vC)]) [kY] 0 (fun k d=>jO k (yV d) (QR d) d.2.2.2.2.2.2.2.2.2.2.2.2.2.2.2.1) (fun x=>((),x.1,(kh x.2.1 ((),(jH x.2.2.1 ((),(gO x.2.2.2 ()))))))) (fun x=>((),x.1,(kh x.2 ()))) (fun d=>(d.2.1,(yWg d),(vW7 d),(vWe d))) (fun d=>(d.2.1,(yWg d)))
theorem yUf:zD prog qQx:=fN f10 yW1 2 (e10 F7q X8 yOb Cd yGj yG2 yPb qSz QS yPn) (loops1 vLn)
def vBt:zE:=sp [sI 0,sI 1,sO 5 0,sI 6] [oA .i]
def yZ9 (f:X9)(d:vBt.den):=f d.1.1.1 d.1.2.1.1 d.1.2.2.2.1.1 d.2.1
def qX1:zW:=⟨[vBt],[(.exit 0,yOf)],AC,fun k d=>yZ9 (QV k k) d,fun b x _ K=>K (.exit 0) (zN b yOf (((),()),(x,())))⟩
def yD4:qA:=⟨[],[(5,qX1)],[],false⟩
theorem vLi:zU prog 1000 0 25 (zR (zS f43) 0) qX1:=lp (A:=yD4) qX1 (fun d=>d.2.1) yZ9 QV yX1 e0 zF
def vH4:=zJ 43 [.c .i,.c .i] (.c (.own .i)) (fun k d=>qTy k d.1 d.2.1) (fun x=>(x,())) (fun d=>d.1)
theorem LL:zD prog vH4:=fA f43 yD4 e0 (loops1 vLi)
def yRp:zE:=⟨[sI 0,sI 1,sO 5 0,sI 6],[.mat],[(5,none,(.sl .i),true)]⟩
def yS8 (f:qXy)(d:yRp.den):=f d.1.1.1 d.1.2.1.1 d.1.2.2.2.1.1 d.2.1
def qQt:zW:=⟨[yRp],[(.exit 0,yPj)],EQ,fun k d=>yS8 (QW k k) d,fun b x _ K=>K (.exit 0) (zN b yPj (((),()),(x,())))⟩
def yVm:qA:=⟨[22,23],[(5,qQt)],[],false⟩
theorem aas:zU prog 1000 0 25 (zR (zS f42) 0) qQt:=lp (A:=yVm) qQt (fun d=>d.2.1) yS8 QW yN5 (e1 LL) zF
def aat:=zJ 42 [.c .i,.c .i] (.c (.mat)) (fun k d=>qT9 k d.1 d.2.1) (fun x=>(x,())) (fun d=>d.1)
theorem qMr:zD prog aat:=fA f42 yVm (e1 LL) (loops1 aas)
def yEc:zE:=⟨[sP 1 0,sP 2 1,sI 3,sP 4 2,sI 5],[oB qt,oB ft,oB Qh,oA qX,.mat,oA .i,.mat,oA .i],[(4,some 5,.i,false)]⟩
def yNa (f:qOv)(d:yEc.den):=f d.1.2.2.1.1 d.1.2.2.2.2.1.1 (yV d.2.1) (d.2.2.1.1,d.2.2.1.2.1,d.2.2.1.2.2.1) (d.2.2.2.1.1,d.2.2.2.1.2.1,d.2.2.2.1.2.2.1) d.2.2.2.2.1 d.2.2.2.2.2.1 d.2.2.2.2.2.2.1 d.2.2.2.2.2.2.2.1 d.2.2.2.2.2.2.2.2.1
def QX:zW:=⟨[yEc],[(.exit 0,yE2)],Ye,fun k d=>yNa (qX6 k k) d,fun b x _ K=>K (.exit 0) (zN b yE2 (((),(),(x.1,()),(),()),((jI x.2.1 ()),(x.2.2.1.1,x.2.2.1.2.1,x.2.2.1.2.2,()),(x.2.2.2.1.1,x.2.2.2.1.2.1,x.2.2.2.1.2.2,()),x.2.2.2.2.1,x.2.2.2.2.2.1,x.2.2.2.2.2.2.1,x.2.2.2.2.2.2.2.1,x.2.2.2.2.2.2.2.2,())))⟩
def vBb:zE:=⟨[sP 1 0,sP 2 1,sI 3,sP 4 2,sI 6],[oB qt,oB ft,oB yVr,oA qX,.mat,oA .i,.mat,oA .i,.mat],[(4,some 6,(.sl .i),true)]⟩
def yQl (f:Yg)(d:vBb.den):=f d.1.2.2.1.1 d.1.2.2.2.2.1.1 (yV d.2.1) (d.2.2.1.1,d.2.2.1.2.1,d.2.2.1.2.2.1) (d.2.2.2.1.1,d.2.2.2.1.2.1,d.2.2.2.1.2.2.1) d.2.2.2.2.1 d.2.2.2.2.2.1 d.2.2.2.2.2.2.1 d.2.2.2.2.2.2.2.1 d.2.2.2.2.2.2.2.2.1 d.2.2.2.2.2.2.2.2.2.1
def QY:zW:=⟨[vBb],[(.exit 2,yVw)],Yh,fun k d=>yQl (qJa k k) d,fun b x _ K=>K (.exit 2) (zN b yVw (((),(),()),((x.1.1,x.1.2.1,x.1.2.2,()),(x.2.1.1,x.2.1.2.1,x.2.1.2.2,()),x.2.2.1,x.2.2.2.1,x.2.2.2.2.1,x.2.2.2.2.2.1,x.2.2.2.2.2.2.1,x.2.2.2.2.2.2.2,())))⟩
def qNw:qA:=⟨[48,49],[(4,QX),(8,QY)],[],true⟩
theorem vIk:zU prog 1000 0 52 (zR (zS f11) 0) QX:=lp (A:=qNw) QX (fun d=>(d.1.2.2.1.1,(yV d.2.1),(d.2.2.1.1,d.2.2.1.2.1,d.2.2.1.2.2.1),(d.2.2.2.1.1,d.2.2.2.1.2.1,d.2.2.2.1.2.2.1),d.2.2.2.2.1,d.2.2.2.2.2.1,d.2.2.2.2.2.2.1,d.2.2.2.2.2.2.2.1,d.2.2.2.2.2.2.2.2.1)) yNa qX6 yUu (e2 qMr LL) zF
theorem vT6:zU prog 1000 0 52 (zR (zS f11) 1) QY:=lp (A:=qNw) QY (fun d=>((d.2.1.1,d.2.1.2.1,d.2.1.2.2.1),(d.2.2.1.1,d.2.2.1.2.1,d.2.2.1.2.2.1),d.2.2.2.1,d.2.2.2.2.1,d.2.2.2.2.2.1,d.2.2.2.2.2.2.1,d.2.2.2.2.2.2.2.1,d.2.2.2.2.2.2.2.2.1)) yQl qJa yAj (e2 qMr LL) zF
def qOt:=zJ 11 [.agg ki] (.agg Yk) (fun k d=>P9 k (yV d)) (fun x=>(wZ x ())) (fun d=>(qV d))
theorem vT0:zD prog qOt:=fA f11 qNw (e2 qMr LL) (oP (n:=2) (by kernel_rfl) fun i hi=>match i,hi with|0,_=>⟨QX,by kernel_rfl,vIk⟩|1,_=>⟨QY,by kernel_rfl,vT6⟩|i+2,hi=>absurd hi (by omega))
def vNs:=yU 16 [.chn [QZ,Q0,nk]] (.c .bool) [Q1,Q2,kY] 0 (fun k d=>qs k (kj d) (Q3 d) (Q4 d)) (fun x=>(x.1,(),(jH x.2.1 ((),(gO x.2.2.1 (kh x.2.2.2 ())))))) (fun d=>(d.1,(qJg d),(qKw d),(qKs d)))
theorem yAd:zD prog vNs:=fX f16 n0 0 e0 zF
def vIh:=zJ 45 [.c .i,.c .i] (.c (.own yH)) (fun k d=>LM k d.1 d.2.1) (fun x=>(x,())) (fun d=>d.1)
theorem yO6:zD prog vIh:=fA f45 n0 e0 zF
def aau:=zJ 100 [.agg vO] (.c (.own (.int .u8))) (fun k d=>Wn k (wG d)) (fun x=>(x,())) (fun d=>d.1)
theorem vN2:zD prog aau:=fA f100 ⟨[1],[],[],true⟩ (e3 yVz Qq Qk) zF
def aav:=zJ 47 [.agg LB] (.c (.own (.int .u8))) (fun k d=>O9 k (nZ d)) (fun x=>(x,())) (fun d=>d.1)
theorem vJv:zD prog aav:=fA f47 n0 (e2 vN2 Qk) zF
def aaw:=yU 99 [.chn [qNq,nk],.c (.p (.dat false (.int .u8)))] (.c .i) [[.link 1,.i,.i,.i,.bool],kY] 0 (fun k d=>Ll k (QQ d) (QR d) d.2.2.2.2.2.2.2.2.2.2.2.2.2.2.2.1) (fun x=>(x.1,(),(gO x.2.1 (kh x.2.2 ())))) (fun d=>(d.1,(qTu d),(qKq d)))
theorem aax:zD prog aaw:=fX f99 n0 0 (e3 yFs yR8 yBw) zF
def vTy:=yU 46 [.chn [QZ,Q0,nk],.c (.p (.dat false (.int .u8)))] (.c .i) [Q1,Q2,kY] 0 (fun k d=>P4 k (kj d) (Q3 d) (Q4 d) d.2.2.2.2.2.2.2.2.2.2.2.2.2.2.2.2.2.2.2.2.2.2.2.2.2.2.2.2.2.2.2.2.2.2.1) (fun x=>(x.1,(),(jH x.2.1 ((),(gO x.2.2.1 (kh x.2.2.2 ())))))) (fun d=>(d.1,(qJg d),(qKw d),(qKs d)))
theorem aay:zD prog vTy:=fX f46 n0 0 (e3 aax Cd QS) zF
def vQ7:=yU 48 [.chn [qNq,nk]] (.c .i) [[.link 1,.i,.i,.i,.bool],kY] 0 (fun k d=>P5 k (QQ d) (QR d)) (fun x=>(x.1,(),(gO x.2.1 (kh x.2.2 ())))) (fun d=>(d.1,(qTu d),(qKq d)))
theorem vQg:zD prog vQ7:=fX f48 n0 0 e0 zF
def qU4:=yU 13 [.chn [QZ,Q0,nk],.c (.p .i),.c (.p (.dat false (.int .u8)))] (.c (.own yH)) [Q1,Q2,kY] 0 (fun k d=>nY k (kj d) (Q3 d) (Q4 d) d.2.2.2.2.2.2.2.2.2.2.2.2.2.2.2.2.2.2.2.2.2.2.2.2.2.2.2.2.2.2.2.2.2.2.1 d.2.2.2.2.2.2.2.2.2.2.2.2.2.2.2.2.2.2.2.2.2.2.2.2.2.2.2.2.2.2.2.2.2.2.2.1) (fun x=>(x.1,(),(jH x.2.1 ((),(gO x.2.2.1 (kh x.2.2.2 ())))))) (fun d=>(d.1,(qJg d),(qKw d),(qKs d)))
theorem yEl:zD prog qU4:=fX f13 n0 0 (e9 yAd YV yO6 qSz vJv aay vQg Cd QS) zF
def vL9:=zJ 50 [.c .i] (.c .i) (fun k d=>DP k d.1) (fun x=>(x,())) (fun d=>d.1)
theorem qKx:zD prog vL9:=fA f50 n0 e0 zF
def vWb:=zJ 103 [.c .i] (.c .bool) (fun k d=>PQ k d.1) (fun x=>(x,())) (fun d=>d.1)
theorem vPt:zD prog vWb:=fA f103 n0 e0 zF
def yLn:zE:=sp [sP 1 0,sI 3,sI 4] [oB wW]
def yK1 (f:qRt)(d:yLn.den):=f d.1.2.1.1 d.1.2.2.1.1 (wG d.2.1)
def qZx:zW:=⟨[yLn],[(.exit 0,yNe),(.ret,yQv)],(Int⊕Bool),fun k d=>yK1 (xQ k k) d,fun b x _ K=>match x with|.inl x=>K (.exit 0) (zN b yNe (((x,()),()),()))|.inr x=>K .ret (zN b yQv (((x,()),()),()))⟩
def yLr:qA:=⟨[],[(3,qZx)],[],true⟩
theorem vXt:zU prog 1000 0 21 (zR (zS f65) 0) qZx:=lp (A:=yLr) qZx (fun d=>match d with|.inl d=>.inl d.1.1.1|.inr d=>.inr d.1.1.1) yK1 xQ Xc (e1 qKx) zF
def aaz:=zJ 65 [.agg vO] (.c .bool) (fun k d=>sV k (wG d)) (fun x=>(x,())) (fun d=>d.1)
theorem yS9:zD prog aaz:=fA f65 yLr (e1 qKx) (loops1 vXt)
def vCs:=zJ 104 [.c .i] (.c .bool) (fun k d=>PR k d.1) (fun x=>(x,())) (fun d=>d.1)
theorem vCk:zD prog vCs:=fA f104 n0 e0 zF
def aaA:=zJ 51 [.agg ki,.agg LB] (.c .bool) (fun k d=>BW k (yV d) (vJq d)) (fun x=>(x,())) (fun d=>d.1)
theorem vLb:zD prog aaA:=fA f51 n0 (e3 vPt yS9 vCk) zF
def vAk:zE:=⟨[(0,.c (.dat false zG)),sI 1,sO 5 0,sI 6],[oA zG],[(5,none,zG,false)]⟩
def yGu (f:qNl)(d:vAk.den):=f d.1.1.1 d.1.2.1.1 d.1.2.2.2.1.1 d.2.1
def qZa:zW:=⟨[vAk],[(.exit 0,yLh)],Y4,fun k d=>yGu (JP k k) d,fun b x _ K=>K (.exit 0) (zN b yLh (((),()),(x,())))⟩
def yJx:qA:=⟨[],[(3,qZa)],[],false⟩
theorem vU0:zU prog 1000 0 28 (zR (zS f52) 0) qZa:=lp (A:=yJx) qZa (fun d=>d.2.1) yGu JP EX e0 zF
def qQ7:=zJ 52 [.c (.dat false zG),.c .i] (.c (.own zG)) (fun k d=>uA k d.1 d.2.1) (fun x=>(x,())) (fun d=>d.1)
theorem yy:zD prog qQ7:=fA f52 yJx e0 (loops1 vU0)
def yC9:zE:=sp [(1,.c (.dat false .i)),sP 4 0,sP 5 1,sI 6] [oB wW,oB wW]
def yWv:zE:=sp [sP 4 0,sP 5 1] [oB wW,oB wW]
def yUb (f:qSf)(d:yC9.den):=(mm (mm (f d.1.1.1 d.1.2.2.2.1.1) d.2.1) d.2.2.1)
def qSm:zW:=⟨[yC9],[(.exit 0,yWv)],qPc,fun k d=>yUb (Q5 k k) d,fun b x _ K=>K (.exit 0) (zN b yWv (((),(),()),((ke x ()),(yQ3 x ()),())))⟩
def yUx:qA:=⟨[],[(3,qSm)],[],false⟩
theorem vIn:zU prog 1000 0 27 (zR (zS f24) 0) qSm:=lp (A:=yUx) qSm (fun d=>(ke d.2.1 (wG d.2.2.1))) yUb Q5 yNw e0 zF
def qZ1:=zJ 24 [.c .i,.c (.dat false .i)] (.agg qu) (fun k d=>wU k d.1 d.2.1) (fun x=>(ir x ())) (fun d=>(wG d))
theorem tm:zD prog qZ1:=fA f24 yUx e0 (loops1 vIn)
def vJ1:=zJ 105 [.agg ki,.c .i] (.c .bool) (fun k d=>PN k (yV d) d.2.2.2.2.2.1) (fun x=>(x,())) (fun d=>d.1)
theorem Q6:zD prog vJ1:=fA f105 n0 e0 zF
def vXb:=zJ 106 [.agg vO,.c .i] (.c .bool) (fun k d=>(mj (W8 k) d)) (fun x=>(x,())) (fun d=>d.1)
theorem Q7:zD prog vXb:=fA f106 ⟨[],[],[],false⟩ e0 zF
def vAl:zE:=sp [(0,.c (.dat false zG)),sI 1,sI 5] []
def yDj (f:qMk)(d:vAl.den):=f d.1.1.1 d.1.2.1.1 d.1.2.2.1.1
def qLd:zW:=⟨[vAl],[(.exit 0,yS2),(.ret,vAc)],(Unit⊕Int),fun k d=>yDj (E4 k k) d,fun b x _ K=>match x with|.inl x=>K (.exit 0) (zN b yS2 ((),()))|.inr x=>K .ret (zN b vAc (((x,()),()),()))⟩
def yEz:qA:=⟨[],[(2,qLd)],[],false⟩
theorem aaB:zU prog 1000 0 20 (zR (zS f56) 0) qLd:=lp (A:=yEz) qLd (fun d=>match d with|.inl d=>.inl ()|.inr d=>.inr d.1.1.1) yDj E4 E5 e0 zF
def vWr:=zJ 56 [.c (.dat false zG),.c .i] (.c .i) (fun k d=>mW k d.1 d.2.1) (fun x=>(x,())) (fun d=>d.1)
theorem Q8:zD prog vWr:=fA f56 yEz e0 (loops1 aaB)
def vI8:=zJ 107 [.c (.dat true zG),.c .i] (.tup [(false,[.fro zG]),(true,qu),(false,vC)]) (fun k d=>nW k d.1 d.2.1) (fun x=>(Qw x ())) (fun d=>(Qx d))
theorem mn:zD prog vI8:=fA f107 ⟨[],[],[],false⟩ (e1 Q8) zF
def vP0:=zJ 108 [.agg ki,.c .i] (.c .bool) (fun k d=>K2 k (yV d) d.2.2.2.2.2.1) (fun x=>(x,())) (fun d=>d.1)
theorem Q9:zD prog vP0:=fA f108 n0 e0 zF
def vKa:=zJ 260 [.agg vO,.c .i] (.c .bool) (fun k d=>(mj (Vs k) d)) (fun x=>(x,())) (fun d=>d.1)
theorem yXa:zD prog vKa:=fA f260 ⟨[],[],[],false⟩ e0 zF
def yEr (f:qNl)(d:vAk.den):=f d.1.1.1 d.1.2.1.1 d.1.2.2.2.1.1 d.2.1
def qS9:zW:=⟨[vAk],[(.exit 0,yLh)],Y4,fun k d=>yEr (JO k k) d,fun b x _ K=>K (.exit 0) (zN b yLh (((),()),(x,())))⟩
def yNd:qA:=⟨[],[(3,qS9)],[],false⟩
theorem vK6:zU prog 1000 0 27 (zR (zS f227) 0) qS9:=lp (A:=yNd) qS9 (fun d=>d.2.1) yEr JO EW (e1 yXa) zF
def qW9:=zJ 227 [.c (.dat false zG),.c .i] (.c (.own zG)) (fun k d=>EV k d.1 d.2.1) (fun x=>(x,())) (fun d=>d.1)
theorem Cg:zD prog qW9:=fA f227 yNd (e1 yXa) (loops1 vK6)
def yBr:zE:=sp [sO 5 0,sO 6 1,sI 7,sO 8 2,(9,.c .bool),sI 10] [oA zG,oA zG,oA zG]
def yVn:zE:=sp [sO 5 0,sO 6 1,sI 7,sO 8 2,(9,.c .bool)] [oA zG,oA zG,oA zG]
def yM3 (f:qRf)(d:yBr.den):=f d.1.2.2.1.1 d.1.2.2.2.2.1.1 d.1.2.2.2.2.2.1.1 d.2.1 d.2.2.1 d.2.2.2.1
def qVm:zW:=⟨[yBr],[(.exit 2,yVn)],qPf,fun k d=>yM3 (EY k k) d,fun b x _ K=>K (.exit 2) (zN b yVn (((),(),(x.1,()),(),(x.2.1,()),()),(x.2.2.1,x.2.2.2.1,x.2.2.2.2,())))⟩
def vB1:zE:=⟨[sO 5 0,sO 6 1,sI 7],[oA zG,oA zG],[(6,none,zG,false)]⟩
def yKu:zE:=sp [sO 6 0] [oA zG]
def yVy (f:qI4)(d:vB1.den):=f d.1.2.2.1.1 d.2.1 d.2.2.1
def qYo:zW:=⟨[vB1],[(.exit 0,yKu)],Y4,fun k d=>yVy (JR k k) d,fun b x _ K=>K (.exit 0) (zN b yKu (((),()),(x,())))⟩
def vQo:Env:=⟨prog,fun t=>[142].any (Nat.beq t),eW [qW9,qQ7]⟩
theorem qVp:jG vQo:=DF (l:=[qW9,qQ7]) (eqT:=fun t=>[142].any (Nat.beq t)) (HV (fun t h=>Iy (p:=fun t=>prog.keyTypeAt 8 t&& !prog.eqGuardType prog.depth t) (l:=[142]) (List.forall_mem_cons.2 ⟨by kernel_rfl,List.forall_mem_nil _⟩) t h)) gu ⟨Cg,yy,trivial⟩
def qLh:qA:=⟨[],[(9,qVm),(4,qYo)],[],false⟩
theorem vRy:zU prog 1000 0 61 (zR (zR (zS f285) 0) 0) qVm:=lp (A:=qLh) qVm (fun d=>(d.1.2.2.1.1,d.1.2.2.2.2.1.1,d.2.1,d.2.2.1,d.2.2.2.1)) yM3 EY EZ qVp zF
theorem vC5:zU prog 1000 0 61 (zR (zS f285) 0) qYo:=lp (A:=qLh) qYo (fun d=>d.2.1) yVy JR E0 qVp (loops1 vRy)
def aaC:=zJ 285 [.c (.dat false zG),.c .i] (.c (.own zG)) (fun k d=>JQ k d.1 d.2.1) (fun x=>(x,())) (fun d=>d.1)
theorem LN:zD prog aaC:=fA f285 qLh qVp (loops1 vC5)
def vDy:=zJ 288 [.agg jV,.agg vO] (.c .bool) (fun k d=>(tg (U0 k) d)) (fun x=>(x,())) (fun d=>d.1)
theorem yTj:zD prog vDy:=fA f288 ⟨[],[],[],false⟩ e0 zF
def yT0:zE:=sp [(1,.c (.dat false zG)),sP 2 0,sI 5] [oB jZ]
def yNl:zE:=sp [(1,.c (.dat false zG))] []
def yYq (f:qJ2)(d:yT0.den):=(vJ (f d.1.1.1 d.1.2.2.1.1) d.2.1)
def qI0:zW:=⟨[yT0],[(.exit 0,yNl),(.ret,yQ5)],qOd,fun k d=>yYq (Jv k k) d,fun b x _ K=>match x with|.inl x=>K (.exit 0) (zN b yNl (((x,()),()),()))|.inr x=>K .ret (zN b yQ5 (((x,()),()),()))⟩
def yYe:qA:=⟨[],[(2,qI0)],[],false⟩
theorem vWv:zU prog 1000 0 22 (zR (zS f261) 0) qI0:=lp (A:=yYe) qI0 (fun d=>match d with|.inl d=>.inl d.1.1.1|.inr d=>.inr d.1.1.1) yYq Jv Eo (e1 yTj) zF
def aaD:=zJ 261 [.agg jV,.c (.dat false zG)] (.c .bool) (fun k d=>(lC (Ju k) d)) (fun x=>(x,())) (fun d=>d.1)
theorem Ra:zD prog aaD:=fA f261 yYe (e1 yTj) (loops1 vWv)
def vAi:zE:=⟨[(0,.c (.dat false (.sl .i))),sO 3 0,sI 4],[.mat],[(3,none,(.sl .i),true)]⟩
def yKc:zE:=sp [sO 3 0] [.mat]
def yLv (f:qPn)(d:vAi.den):=f d.1.1.1 d.1.2.2.1.1 d.2.1
def qKd:zW:=⟨[vAi],[(.exit 0,yKc)],EQ,fun k d=>yLv (Jh k k) d,fun b x _ K=>K (.exit 0) (zN b yKc (((),()),(x,())))⟩
def vA4:qA:=⟨[18,19],[(3,qKd)],[],false⟩
theorem vRx:zU prog 1000 0 21 (zR (zS f219) 0) qKd:=lp (A:=vA4) qKd (fun d=>d.2.1) yLv Jh Eh e0 zF
def vNq:=zJ 219 [.c (.dat false (.sl .i))] (.c (.mat)) (fun k d=>Ji k d.1) (fun x=>(x,())) (fun d=>d.1)
theorem vPe:zD prog vNq:=fA f219 vA4 e0 (loops1 vRx)
def vP1:=zJ 177 [.agg jV] (.agg [.own qX,.mat,.own .i,.mat]) (fun k d=>(vJ (oW k) d)) (fun x=>(gO x ())) (fun d=>(fu d))
theorem yz:zD prog vP1:=fA f177 ⟨[],[],[],false⟩ (e1 vPe) zF
def yOh:zE:=sp [(0,.c (.dat false zG)),sI 1,sI 6,sI 7,sI 8] []
def yYf:zE:=sp [sI 6,sI 7] []
def vA1 (f:qIb)(d:yOh.den):=f d.1.1.1 d.1.2.1.1 d.1.2.2.1.1 d.1.2.2.2.1.1 d.1.2.2.2.2.1.1
def qKp:zW:=⟨[yOh],[(.exit 0,yYf)],vX,fun k d=>vA1 (Jy k k) d,fun b x _ K=>K (.exit 0) (zN b yYf (((x.1,()),(x.2,()),()),()))⟩
def yI6:qA:=⟨[],[(3,qKp)],[],false⟩
theorem vUf:zU prog 1000 0 46 (zR (zS f289) 0) qKp:=lp (A:=yI6) qKp (fun d=>(d.1.1.1,d.1.2.1.1)) vA1 Jy Eu e0 zF
def vUq:=zJ 289 [.c (.dat false zG),.c .i] (.tup [(false,vC),(false,vC)]) (fun k d=>Jx k d.1 d.2.1) (fun x=>(x.1,x.2,())) (fun d=>(d.1,d.2.1))
theorem qO0:zD prog vUq:=fA f289 yI6 e0 (loops1 vUf)
def vZo:=zJ 263 [.c (.dat false zG),.c .i] (.c .i) (fun k d=>N3 k d.1 d.2.1) (fun x=>(x,())) (fun d=>d.1)
theorem qRs:zD prog vZo:=fA f263 ⟨[],[],[],false⟩ (e1 qO0) zF
def vNn:=zJ 262 [.agg n9,.c .i] (.c .i) (fun k d=>(vJ (Jz k) d)) (fun x=>(x,())) (fun d=>d.1)
theorem LO:zD prog vNn:=fA f262 ⟨[],[],[],false⟩ e0 zF
def yQa:zE:=sp [(0,.c (.dat false zG)),sI 1,sI 2,sI 7,sI 8] []
def vCg:zE:=sp [sI 7] []
def yW4 (f:qU2)(d:yQa.den):=f d.1.1.1 d.1.2.1.1 d.1.2.2.1.1 d.1.2.2.2.1.1 d.1.2.2.2.2.1.1
def qVw:zW:=⟨[yQa],[(.exit 0,vCg)],Int,fun k d=>yW4 (Jw k k) d,fun b x _ K=>K (.exit 0) (zN b vCg (((x,()),()),()))⟩
def yCr:qA:=⟨[],[(3,qVw)],[],false⟩
theorem vXp:zU prog 1000 0 39 (zR (zS f290) 0) qVw:=lp (A:=yCr) qVw (fun d=>d.1.1.1) yW4 Jw Et e0 zF
def vM8:=zJ 290 [.c (.dat false zG),.c .i,.c .i] (.c .i) (fun k d=>xu k d.1 d.2.1 d.2.2.1) (fun x=>(x,())) (fun d=>d.1)
theorem qNv:zD prog vM8:=fA f290 yCr e0 (loops1 vXp)
def vPs:=zJ 264 [.c (.dat false zG),.c .i,.c .i] (.c .i) (fun k d=>N1 k d.1 d.2.1 d.2.2.1) (fun x=>(x,())) (fun d=>d.1)
theorem qVt:zD prog vPs:=fA f264 ⟨[],[],[],false⟩ (e1 qNv) zF
def yV4:zE:=sp [(0,.c (.dat false (.sl .i))),sI 1,sI 5] []
def ySc (f:qIh)(d:yV4.den):=f d.1.1.1 d.1.2.1.1 d.1.2.2.1.1
def qUj:zW:=⟨[yV4],[(.exit 0,yS2),(.ret,yQ5)],(Unit⊕Bool),fun k d=>ySc (I9 k k) d,fun b x _ K=>match x with|.inl x=>K (.exit 0) (zN b yS2 ((),()))|.inr x=>K .ret (zN b yQ5 (((x,()),()),()))⟩
def yMi:qA:=⟨[],[(4,qUj)],[],false⟩
theorem aaE:zU prog 1000 0 22 (zR (zS f291) 0) qUj:=lp (A:=yMi) qUj (fun d=>match d with|.inl d=>.inl ()|.inr d=>.inr d.1.1.1) ySc I9 D4 e0 zF
def vLr:=zJ 291 [.c (.dat false (.sl .i)),.c .i] (.c .bool) (fun k d=>I8 k d.1 d.2.1) (fun x=>(x,())) (fun d=>d.1)
theorem qSr:zD prog vLr:=fA f291 yMi e0 (loops1 aaE)
def vUr:=zJ 222 [.agg n9] (.c .bool) (fun k d=>I6 k d.1 d.2.1 d.2.2.1) (fun x=>(x,())) (fun d=>d.1)
theorem Rb:zD prog vUr:=fA f222 ⟨[],[],[],false⟩ e0 zF
def vRu:=zJ 292 [.c .i] (.c .bool) (fun k d=>I7 k d.1) (fun x=>(x,())) (fun d=>d.1)
theorem qKn:zD prog vRu:=fA f292 ⟨[],[],[],false⟩ e0 zF
def yHz:zE:=sp [sP 1 0,sI 3,sI 4,sI 5] [oB jZ]
def yTw:zE:=sp [sP 1 0,sI 3,sI 4] [oB jZ]
def yJz (f:qXb)(d:yHz.den):=(vJ (f d.1.2.1.1 d.1.2.2.1.1 d.1.2.2.2.1.1) d.2.1)
def qNn:zW:=⟨[yHz],[(.exit 2,yTw),(.ret,yQv)],qH1,fun k d=>yJz (D5 k k) d,fun b x _ K=>match x with|.inl x=>K (.exit 2) (zN b yTw (((),(x.1,()),(x.2.1,()),()),((BN x ()),())))|.inr x=>K .ret (zN b yQv (((x,()),()),()))⟩
def yMu (f:qXd)(d:yTw.den):=(vJ (f d.1.2.1.1 d.1.2.2.1.1) d.2.1)
def qTp:zW:=⟨[yTw],[(.exit 0,yS2),(.ret,yQv)],(Unit⊕Bool),fun k d=>yMu (D7 k k) d,fun b x _ K=>match x with|.inl x=>K (.exit 0) (zN b yS2 ((),()))|.inr x=>K .ret (zN b yQv (((x,()),()),()))⟩
def qUt:qA:=⟨[],[(10,qNn),(5,qTp)],[],false⟩
theorem vGa:zU prog 1000 0 114 (zR (zR (zS f265) 0) 0) qNn:=lp (A:=qUt) qNn (fun d=>match d with|.inl d=>.inl (d.1.2.1.1,d.1.2.2.1.1,(fu d.2.1))|.inr d=>.inr d.1.1.1) yJz D5 D6 (e3 qSr Rb qKn) zF
theorem aaF:zU prog 1000 0 114 (zR (zS f265) 0) qTp:=lp (A:=qUt) qTp (fun d=>match d with|.inl d=>.inl ()|.inr d=>.inr d.1.1.1) yMu D7 D8 (e3 qSr Rb qKn) (loops1 vGa)
def vW0:=zJ 265 [.agg jV] (.c .bool) (fun k d=>(vJ (NL k) d)) (fun x=>(x,())) (fun d=>d.1)
theorem qWs:zD prog vW0:=fA f265 qUt (e3 qSr Rb qKn) (loops1 aaF)
def yRo:zE:=sp [(1,.c (.dat false zG)),sP 2 0,sP 4 1,sP 6 2,sI 7,sI 8] [oB wA,oB oc,oB tj,oA qX,.mat,oA .i,.mat]
def yHe:zE:=sp [(1,.c (.dat false zG)),sP 2 0,sP 4 1,sP 6 2,sI 7] [oB wA,oB oc,oB tj,oA qX,.mat,oA .i,.mat]
def yCv (f:qK0)(d:yRo.den):=(vJ (f d.1.1.1 d.1.2.2.2.2.1.1 d.1.2.2.2.2.2.1.1) d.2.1) d.2.2.2.2.1 d.2.2.2.2.2.1 d.2.2.2.2.2.2.1 d.2.2.2.2.2.2.2.1
def qTb:zW:=⟨[yRo],[(.exit 2,yHe)],qS6,fun k d=>yCv (Ev k k) d,fun b x _ K=>K (.exit 2) (zN b yHe (((x.1,()),(),(),(),(x.2.1,()),()),((Qr x ()),(),(),x.2.2.2.2.2.2.1,x.2.2.2.2.2.2.2.1,x.2.2.2.2.2.2.2.2.1,x.2.2.2.2.2.2.2.2.2,())))⟩
def yCm:zE:=sp [sP 2 0,sP 4 1,sP 6 2] [oB wA,oB oc,oB tj,oA qX,.mat,oA .i,.mat]
def yU8 (f:qX0)(d:yHe.den):=(vJ (f d.1.1.1 d.1.2.2.2.2.1.1) d.2.1) d.2.2.2.2.1 d.2.2.2.2.2.1 d.2.2.2.2.2.2.1 d.2.2.2.2.2.2.2.1
def qSd:zW:=⟨[yHe],[(.exit 0,yCm)],qP5,fun k d=>yU8 (Ey k k) d,fun b x _ K=>K (.exit 0) (zN b yCm (((),(),(),()),((vL x ()),(),(),x.2.2.2.2.1,x.2.2.2.2.2.1,x.2.2.2.2.2.2.1,x.2.2.2.2.2.2.2,())))⟩
def qR4:qA:=⟨[],[(9,qTb),(5,qSd)],[],false⟩
theorem vZ0:zU prog 1000 0 84 (zR (zR (zS f228) 0) 0) qTb:=lp (A:=qR4) qTb (fun d=>(d.1.1.1,d.1.2.2.2.2.1.1,(vL d.2.1 (d.2.2.2.2.1,d.2.2.2.2.2.1,d.2.2.2.2.2.2.1,d.2.2.2.2.2.2.2.1)))) yCv Ev Ew (e6 Ra yz qRs LO qVt qWs) zF
theorem vXa:zU prog 1000 0 84 (zR (zS f228) 0) qSd:=lp (A:=qR4) qSd (fun d=>(vL d.2.1 (d.2.2.2.2.1,d.2.2.2.2.2.1,d.2.2.2.2.2.2.1,d.2.2.2.2.2.2.2.1))) yU8 Ey Ez (e6 Ra yz qRs LO qVt qWs) (loops1 vZ0)
def vTs:=zJ 228 [.agg kZ,.c (.dat false zG)] (.tup [(true,nn),(false,vC)]) (fun k d=>(lC (Bf k) d)) (fun x=>(jI x ())) (fun d=>(yV d))
theorem qVe:zD prog vTs:=fA f228 qR4 (e6 Ra yz qRs LO qVt qWs) (loops1 vXa)
def yKg:zE:=sp [sI 1,sP 2 0,sI 5,sI 6] [oB jZ]
def yM8 (f:qPh)(d:yKg.den):=(vJ (f d.1.1.1 d.1.2.2.1.1 d.1.2.2.2.1.1) d.2.1)
def qOp:zW:=⟨[yKg],[(.exit 0,yKf)],Int,fun k d=>yM8 (EA k k) d,fun b x _ K=>K (.exit 0) (zN b yKf (((x,()),()),()))⟩
def yWn:qA:=⟨[],[(3,qOp)],[],false⟩
theorem vGn:zU prog 1000 0 28 (zR (zS f301) 0) qOp:=lp (A:=yWn) qOp (fun d=>d.1.1.1) yM8 EA EB e0 zF
def vY8:=zJ 301 [.agg jV,.c .i] (.c .i) (fun k d=>(lC (N6 k) d)) (fun x=>(x,())) (fun d=>d.1)
theorem vA6:zD prog vY8:=fA f301 yWn e0 (loops1 vGn)
def yUh:zE:=sp [(1,.c (.dat false zG)),sI 2,sP 3 0,sI 7,sI 8,sI 9,sI 10,sI 11] [oB jZ]
def yS0:zE:=sp [sI 2,sP 3 0,sI 7,sI 8,sI 9,sI 10] [oB jZ]
def vBc (f:qMq)(d:yUh.den):=(vJ (f d.1.1.1 d.1.2.1.1 d.1.2.2.2.1.1 d.1.2.2.2.2.1.1 d.1.2.2.2.2.2.1.1 d.1.2.2.2.2.2.2.1.1 d.1.2.2.2.2.2.2.2.1.1) d.2.1)
def qP9:zW:=⟨[yUh],[(.exit 0,yS0),(.ret,yTf)],qU7,fun k d=>vBc (sJ k k) d,fun b x _ K=>match x with|.inl x=>K (.exit 0) (zN b yS0 (((x.1,()),(),(x.2.1,()),(x.2.2.1,()),(x.2.2.2.1,()),(x.2.2.2.2.1,()),()),((vUm x ()),())))|.inr x=>K .ret (zN b yTf (((x,()),()),()))⟩
def yWd:qA:=⟨[],[(7,qP9)],[],false⟩
theorem vK7:zU prog 1000 0 130 (zR (zS f287) 0) qP9:=lp (A:=yWd) qP9 (fun d=>match d with|.inl d=>.inl (d.1.1.1,d.1.2.2.1.1,d.1.2.2.2.1.1,d.1.2.2.2.2.1.1,d.1.2.2.2.2.2.1.1,(fu d.2.1))|.inr d=>.inr d.1.1.1) vBc sJ ED (e4 qO0 vA6 qNv LO) zF
def aaG:=zJ 287 [.agg jV,.c (.dat false zG),.c .i] (.c .bool) (fun k d=>(kk (Oa k) d)) (fun x=>(x,())) (fun d=>d.1)
theorem yLa:zD prog aaG:=fA f287 yWd (e4 qO0 vA6 qNv LO) (loops1 vK7)
def yF5:zE:=⟨[(1,.c (.dat false zG)),sP 2 0,sO 5 1,sI 6],[oB jZ,oA .i],[(5,none,.i,false)]⟩
def yXv (f:qMg)(d:yF5.den):=(vJ (f d.1.1.1 d.1.2.2.2.1.1) d.2.1) d.2.2.1
def qPa:zW:=⟨[yF5],[(.exit 0,yOf)],AC,fun k d=>yXv (uy k k) d,fun b x _ K=>K (.exit 0) (zN b yOf (((),()),(x,())))⟩
def yPz:qA:=⟨[],[(3,qPa)],[],false⟩
theorem vE5:zU prog 1000 0 23 (zR (zS f259) 0) qPa:=lp (A:=yPz) qPa (fun d=>d.2.1) yXv uy sK (e1 yLa) zF
def vEg:=zJ 259 [.agg jV,.c (.dat false zG)] (.c (.own .i)) (fun k d=>(lC (ux k) d)) (fun x=>(x,())) (fun d=>d.1)
theorem LP:zD prog vEg:=fA f259 yPz (e1 yLa) (loops1 vE5)
def vEs:=zJ 286 [.agg jV,.c (.dat false zG)] (.c .bool) (fun k d=>(lC (JB k) d)) (fun x=>(x,())) (fun d=>d.1)
theorem vF0:zD prog vEs:=fA f286 ⟨[],[],[],false⟩ (e2 Ra LP) zF
def vF5:=zJ 257 [.agg kZ,.c (.dat false zG)] (.tup [(true,nn),(false,[.bool])]) (fun k d=>(lC (uW k) d)) (fun x=>(jI x ())) (fun d=>(yV d))
theorem vf:zD prog vF5:=fA f257 ⟨[],[],[],false⟩ (e2 qVe vF0) zF
def yRk:zE:=sp [sP 3 0,sP 6 1,sO 8 2,sI 9] [oB wA,oB wW,oA zG]
def yOd:zE:=sp [sP 6 0] [oB wW]
def yA4:zE:=sp [sP 6 0,(7,.c .bool)] [oB wW]
def yEd (f:qLe)(d:yRk.den):=(mm (vJ (f d.1.2.2.2.1.1) d.2.1) d.2.2.1) d.2.2.2.1
def qTa:zW:=⟨[yRk],[(.exit 0,yOd),(.ret,yA4)],qVk,fun k d=>yEd (KS k k) d,fun b x _ K=>match x with|.inl x=>K (.exit 0) (zN b yOd (((),()),((ir x ()),())))|.inr x=>K .ret (zN b yA4 (((),(x.1,()),()),((yIo x ()),())))⟩
def yEw:qA:=⟨[],[(3,qTa)],[],false⟩
theorem vV3:zU prog 1000 0 37 (zR (zS f256) 0) qTa:=lp (A:=yEw) qTa (fun d=>match d with|.inl d=>.inl (wG d.2.1)|.inr d=>.inr (d.1.2.1.1,(wG d.2.1))) yEd KS Gy (e2 LN vf) zF
def aaH:=zJ 256 [.agg kZ,.c (.dat true zG),.c .i] (.tup [(true,qu),(false,[.bool])]) (fun k d=>(kk (PG k) d)) (fun x=>(Hi x ())) (fun d=>(nZ d))
theorem yY9:zD prog aaH:=fA f256 yEw (e2 LN vf) (loops1 vV3)
def yZb:zE:=⟨[(1,.c (.dat true zG)),sI 2,sP 3 0,sP 6 1,sO 9 2],[oB wA,oB oc,oA zG],[(9,none,zG,false)]⟩
def yRe (f:qVr)(d:yZb.den):=(vJ (f d.1.1.1 d.1.2.1.1) d.2.1) d.2.2.2.1
def qT0:zW:=⟨[yZb],[(.ret,vBx)],qJd,fun k d=>yRe (KT k k) d,fun b x _ K=>K .ret (zN b vBx (((),(x.1,()),(),()),((iw x ()),x.2.2.2.2.2,())))⟩
def yIn:qA:=⟨[],[(2,qT0)],[],false⟩
theorem vWq:zU prog 1000 0 43 (zR (zS f223) 0) qT0:=lp (A:=yIn) qT0 (fun d=>(d.1.2.1.1,(vL d.2.1 d.2.2.1))) yRe KT Gz (e3 yY9 vf mn) zF
def aaI:=zJ 223 [.agg kZ,.c (.dat true zG),.c .i] (.tup [(true,nn),(false,[.fro zG]),(false,[.own zG])]) (fun k d=>(kk (PH k) d)) (fun x=>(oe x ())) (fun d=>(np d))
theorem yS4:zD prog aaI:=fA f223 yIn (e3 yY9 vf mn) (loops1 vWq)
def yB6:zE:=sp [sP 3 0,sP 6 1,sP 7 2,sO 9 3,sI 10,sI 11] [oB wA,oB wW,oB wW,oA zG]
def yTy:zE:=sp [sP 3 0,sP 6 1,sP 7 2,sO 9 3,sI 10] [oB wA,oB wW,oB wW,oA zG]
def yEy:zE:=sp [sP 6 0,sP 7 1,(8,.c .bool)] [oB wW,oB wW]
def yMa (f:qO2)(d:yB6.den):=(mm (mm (vJ (f d.1.2.2.2.2.1.1 d.1.2.2.2.2.2.1.1) d.2.1) d.2.2.1) d.2.2.2.1) d.2.2.2.2.1
def qOu:zW:=⟨[yB6],[(.exit 2,yTy),(.ret,yEy)],qIp,fun k d=>yMa (KV k k) d,fun b x _ K=>match x with|.inl x=>K (.exit 2) (zN b yTy (((),(),(),(),(x.1,()),()),((iw x ()),(vPk x ()),(vOr x ()),x.2.2.2.2.2.2.2.2.2.2.2.2.2.2.2.2.2.2.2,())))|.inr x=>K .ret (zN b yEy (((),(),(x.1,()),()),((qSw x ()),(yY8 x ()),())))⟩
def yDr:zE:=sp [sP 6 0,sP 7 1] [oB wW,oB wW]
def yNc (f:qW4)(d:yTy.den):=(mm (mm (vJ (f d.1.2.2.2.2.1.1) d.2.1) d.2.2.1) d.2.2.2.1) d.2.2.2.2.1
def qYb:zW:=⟨[yTy],[(.exit 0,yDr),(.ret,yEy)],qWp,fun k d=>yNc (KW k k) d,fun b x _ K=>match x with|.inl x=>K (.exit 0) (zN b yDr (((),(),()),((ke x ()),(yQ3 x ()),())))|.inr x=>K .ret (zN b yEy (((),(),(x.1,()),()),((qSw x ()),(yY8 x ()),())))⟩
def qIk:qA:=⟨[],[(6,qOu),(3,qYb)],[],false⟩
theorem vSz:zU prog 1000 0 71 (zR (zR (zS f258) 0) 0) qOu:=lp (A:=qIk) qOu (fun d=>match d with|.inl d=>.inl (d.1.2.2.2.2.1.1,(vL d.2.1 (ke d.2.2.1 (ke d.2.2.2.1 d.2.2.2.2.1))))|.inr d=>.inr (d.1.2.2.1.1,(ke d.2.1 (wG d.2.2.1)))) yMa KV GA (e2 LN vf) zF
theorem vHt:zU prog 1000 0 71 (zR (zS f258) 0) qYb:=lp (A:=qIk) qYb (fun d=>match d with|.inl d=>.inl (ke d.2.1 (wG d.2.2.1))|.inr d=>.inr (d.1.2.2.1.1,(ke d.2.1 (wG d.2.2.1)))) yNc KW GB (e2 LN vf) (loops1 vSz)
def aaJ:=zJ 258 [.agg kZ,.c (.dat true zG),.c .i] (.tup [(true,qu),(true,qu),(false,[.bool])]) (fun k d=>(kk (PI k) d)) (fun x=>(yEe x ())) (fun d=>(yMn d))
theorem yIf:zD prog aaJ:=fA f258 qIk (e2 LN vf) (loops1 vHt)
def yZi (f:qVr)(d:yZb.den):=(vJ (f d.1.1.1 d.1.2.1.1) d.2.1) d.2.2.2.1
def qVc:zW:=⟨[yZb],[(.ret,vBx)],qJd,fun k d=>yZi (KX k k) d,fun b x _ K=>K .ret (zN b vBx (((),(x.1,()),(),()),((iw x ()),x.2.2.2.2.2,())))⟩
def yWq:qA:=⟨[],[(2,qVc)],[],false⟩
theorem vFz:zU prog 1000 0 55 (zR (zS f224) 0) qVc:=lp (A:=yWq) qVc (fun d=>(d.1.2.1.1,(vL d.2.1 d.2.2.1))) yZi KX GC (e3 yIf vf mn) zF
def vVz:=zJ 224 [.agg kZ,.c (.dat true zG),.c .i] (.tup [(true,nn),(false,[.fro zG]),(false,[.own zG])]) (fun k d=>(kk (PJ k) d)) (fun x=>(oe x ())) (fun d=>(np d))
theorem yZ4:zD prog vVz:=fA f224 yWq (e3 yIf vf mn) (loops1 vFz)
def yVv (f:qVr)(d:yZb.den):=(vJ (f d.1.1.1 d.1.2.1.1) d.2.1) d.2.2.2.1
def qKj:zW:=⟨[yZb],[(.ret,vBx)],qJd,fun k d=>yVv (K0 k k) d,fun b x _ K=>K .ret (zN b vBx (((),(x.1,()),(),()),((iw x ()),x.2.2.2.2.2,())))⟩
def yNy:qA:=⟨[],[(2,qKj)],[],false⟩
theorem vF3:zU prog 1000 0 45 (zR (zS f181) 0) qKj:=lp (A:=yNy) qKj (fun d=>(d.1.2.1.1,(vL d.2.1 d.2.2.1))) yVv K0 GN (e2 yS4 yZ4) zF
def vMi:=zJ 181 [.agg kZ,.c (.dat true zG),.c .i] (.tup [(true,nn),(false,[.fro zG]),(false,[.own zG])]) (fun k d=>(kk (K1 k) d)) (fun x=>(oe x ())) (fun d=>(np d))
theorem vDg:zD prog vMi:=fA f181 yNy (e2 yS4 yZ4) (loops1 vF3)
def yAk:zE:=⟨[(0,.c (.dat false zG)),(1,.c (.dat false .i)),sO 5 0,sI 6],[oA zG],[(5,none,zG,false)]⟩
def yAh (f:qM6)(d:yAk.den):=f d.1.1.1 d.1.2.1.1 d.1.2.2.2.1.1 d.2.1
def qMl:zW:=⟨[yAk],[(.exit 0,yLh)],Y4,fun k d=>yAh (GG k k) d,fun b x _ K=>K (.exit 0) (zN b yLh (((),()),(x,())))⟩
def yLe:qA:=⟨[],[(3,qMl)],[],false⟩
theorem vGk:zU prog 1000 0 60 (zR (zS f226) 0) qMl:=lp (A:=yLe) qMl (fun d=>d.2.1) yAh GG GH (e1 yy) zF
def vT4:=zJ 226 [.c (.dat false zG),.c (.dat false .i)] (.c (.own zG)) (fun k d=>GD k d.1 d.2.1) (fun x=>(x,())) (fun d=>d.1)
theorem Hs:zD prog vT4:=fA f226 yLe (e1 yy) (loops1 vGk)
def yN1:zE:=⟨[sP 3 0,sO 8 1,sO 9 2,sI 10],[oB jZ,oA zG,oA .i],[(9,none,.i,false)]⟩
def yH7:zE:=sp [sP 3 0,sO 8 1,sO 9 2] [oB jZ,oA zG,oA .i]
def yXc (f:qOw)(d:yN1.den):=(vJ (f d.1.2.2.2.1.1) d.2.1) d.2.2.1 d.2.2.2.1
def Rc:zW:=⟨[yN1],[(.exit 0,yH7)],qUn,fun k d=>yXc (BU k k) d,fun b x _ K=>K (.exit 0) (zN b yH7 (((),(),(),()),((vL x ()),x.2.2.2.2.1,x.2.2.2.2.2,())))⟩
def yRv:zE:=sp [sP 3 0,sO 8 1,sO 9 2,sI 11,sO 12 3,sI 13] [oB jZ,oA zG,oA .i,oA .i]
def ySb:zE:=sp [sP 3 0,sO 8 1,sO 9 2,sI 11] [oB jZ,oA zG,oA .i]
def vBu (f:qMj)(d:yRv.den):=(vJ (f d.1.2.2.2.1.1 d.1.2.2.2.2.2.1.1) d.2.1) d.2.2.1 d.2.2.2.1 d.2.2.2.2.1
def qTn:zW:=⟨[yRv],[(.exit 4,ySb)],qUh,fun k d=>vBu (GJ k k) d,fun b x _ K=>K (.exit 4) (zN b ySb (((),(),(),(x.1,()),()),((iw x ()),x.2.2.2.2.2.1,x.2.2.2.2.2.2,())))⟩
def yFb (f:qJe)(d:ySb.den):=(vJ (f d.1.2.2.2.1.1) d.2.1) d.2.2.1 d.2.2.2.1
def Re:zW:=⟨[ySb],[(.ret,yDf)],(Int×AC),fun k d=>yFb (KY k k) d,fun b x _ K=>K .ret (zN b yDf (((),(x.1,()),()),(x.2,())))⟩
def Rf:qA:=⟨[],[(4,Rc),(13,qTn),(9,Re)],[],false⟩
theorem vWp:zU prog 1000 0 58 (zR (zS f225) 0) Rc:=lp (A:=Rf) Rc (fun d=>(vL d.2.1 (d.2.2.1,d.2.2.2.1))) yXc BU GI (e4 Cg yy Hs LP) zF
theorem vQf:zU prog 1000 0 58 (zR (zR (zS f225) 1) 0) qTn:=lp (A:=Rf) qTn (fun d=>(d.1.2.2.2.1.1,(vL d.2.1 (d.2.2.1,d.2.2.2.1)))) vBu GJ GK (e4 Cg yy Hs LP) zF
theorem vId:zU prog 1000 0 58 (zR (zS f225) 1) Re:=lp (A:=Rf) Re (fun d=>(d.1.2.1.1,d.2.1)) yFb KY GL (e4 Cg yy Hs LP) (loops1 vQf)
def vTt:=zJ 225 [.agg jV,.c (.dat false zG),.c .i] (.tup [(false,[.own .i]),(false,vC)]) (fun k d=>(kk (PK k) d)) (fun x=>(x.1,x.2,())) (fun d=>(d.1,d.2.1))
theorem yS3:zD prog vTt:=fA f225 Rf (e4 Cg yy Hs LP) (oP (n:=2) (by kernel_rfl) fun i hi=>match i,hi with|0,_=>⟨Rc,by kernel_rfl,vWp⟩|1,_=>⟨Re,by kernel_rfl,vId⟩|i+2,hi=>absurd hi (by omega))
def yAl:zE:=sp [(1,.c (.dat true zG)),sP 6 0,sO 11 1,sP 12 2,sI 14] [oB oc,oA zG,oB wA]
def yE3:zE:=sp [(1,.c (.dat true zG)),sP 6 0,sO 11 1,sP 12 2] [oB oc,oA zG,oB wA]
def yVt (f:qVf)(d:yAl.den):=(vJ (f d.1.1.1 d.1.2.2.2.2.1.1 d.2.2.1) d.2.2.2.1)
def qUg:zW:=⟨[yAl],[(.exit 0,yE3)],qNf,fun k d=>yVt (BV k k) d,fun b x _ K=>K (.exit 0) (zN b yE3 (((x.1,()),(),(),(),()),((),x.2.1,(BN x ()),())))⟩
def yQb:qA:=⟨[],[(7,qUg)],[],false⟩
theorem vHe:zU prog 1000 0 57 (zR (zS f182) 0) qUg:=lp (A:=yQb) qUg (fun d=>(d.1.1.1,d.2.2.1,(fu d.2.2.2.1))) yVt BV GM (e5 yS3 Cg Hs qVe mn) zF
def aaK:=zJ 182 [.agg kZ,.c (.dat true zG),.c .i] (.tup [(true,nn),(false,[.fro zG]),(false,[.own zG])]) (fun k d=>(kk (KZ k) d)) (fun x=>(oe x ())) (fun d=>(np d))
theorem vVg:zD prog aaK:=fA f182 yQb (e5 yS3 Cg Hs qVe mn) (loops1 vHe)
def vEr:=zJ 115 [.agg kZ,.c (.dat true zG),.c .i,.c .bool] (.tup [(true,nn),(false,[.fro zG]),(false,[.own zG])]) (fun k d=>(mm (PM k) d)) (fun x=>(oe x ())) (fun d=>(np d))
theorem vDn:zD prog vEr:=fA f115 ⟨[],[],[],false⟩ (e2 vDg vVg) zF
def yBd:zE:=⟨[(0,.c (.dat false zG)),sO 3 0,sI 4],[oA yH],[(3,none,yH,false)]⟩
def yRr (f:qIt)(d:yBd.den):=f d.1.1.1 d.1.2.2.1.1 d.2.1
def qWb:zW:=⟨[yBd],[(.exit 0,yLg)],qMa,fun k d=>yRr (Kn k k) d,fun b x _ K=>K (.exit 0) (zN b yLg (((),()),(x,())))⟩
def vBa:qA:=⟨[],[(3,qWb)],[],false⟩
theorem vT9:zU prog 1000 0 39 (zR (zS f116) 0) qWb:=lp (A:=vBa) qWb (fun d=>d.2.1) yRr Kn FP (e1 tm) zF
def vDw:=zJ 116 [.c (.dat false zG)] (.c (.own yH)) (fun k d=>OZ k d.1) (fun x=>(x,())) (fun d=>d.1)
theorem vHh:zD prog vDw:=fA f116 vBa (e1 tm) (loops1 vT9)
def vZ8:=zJ 55 [.agg yo,.c .bool] (.tup [(true,yp),(false,[.own yH])]) (fun k d=>(LK (nX k) d)) (fun x=>(Ho x ())) (fun d=>(Hq d))
theorem LQ:zD prog vZ8:=fA f55 ⟨[],[],[],false⟩ (e2 vDn vHh) zF
def yY2:zE:=⟨[sP 3 0,sP 4 1,sO 6 2,(7,.c (.dat true zG)),sI 8],[oB iU,oB ft,oA yH],[(6,none,yH,false)]⟩
def yB4:zE:=sp [sP 3 0,sP 4 1,sO 6 2] [oB iU,oB ft,oA yH]
def yMz (f:qMu)(d:yY2.den):=f d.1.2.2.2.1.1 d.1.2.2.2.2.1.1 (qV d.2.1) (d.2.2.1.1,d.2.2.1.2.1,d.2.2.1.2.2.1) d.2.2.2.1
def Rg:zW:=⟨[yY2],[(.exit 0,yB4)],qKk,fun k d=>yMz (yd k k) d,fun b x _ K=>K (.exit 0) (zN b yB4 (((),(),(),()),((wZ x.1 ()),(x.2.1.1,x.2.1.2.1,x.2.1.2.2,()),x.2.2,())))⟩
def yO7:zE:=sp [sP 3 0,sP 4 1,sO 6 2,sI 9] [oB iU,oB ft,oA yH]
def yOp (f:qWi)(d:yO7.den):=f d.1.2.2.2.1.1 (qV d.2.1) (d.2.2.1.1,d.2.2.1.2.1,d.2.2.1.2.2.1) d.2.2.2.1
def Rh:zW:=⟨[yO7],[(.exit 2,yB4)],qKk,fun k d=>yOp (ye k k) d,fun b x _ K=>K (.exit 2) (zN b yB4 (((),(),(),()),((wZ x.1 ()),(x.2.1.1,x.2.1.2.1,x.2.1.2.2,()),x.2.2,())))⟩
def yIy:zE:=⟨[sP 2 0,sP 3 1,sP 4 2,sO 6 3,(7,.c (.dat true zG)),sI 10],[oB QU,oB iU,oB ft,oA yH],[(6,none,yH,false)]⟩
def yW8:zE:=sp [sP 2 0,sP 3 1,sP 4 2,sO 6 3] [oB QU,oB iU,oB ft,oA yH]
def yMm (f:qR3)(d:yIy.den):=f d.1.2.2.2.2.1.1 d.1.2.2.2.2.2.1.1 (yV d.2.1) (qV d.2.2.1) (d.2.2.2.1.1,d.2.2.2.1.2.1,d.2.2.2.1.2.2.1) d.2.2.2.2.1
def Ri:zW:=⟨[yIy],[(.exit 4,yW8)],qSi,fun k d=>yMm (uX k k) d,fun b x _ K=>K (.exit 4) (zN b yW8 (((),(),(),(),()),((jI x.1 ()),(wZ x.2.1 ()),(x.2.2.1.1,x.2.2.1.2.1,x.2.2.1.2.2,()),x.2.2.2,())))⟩
def Rj:qA:=⟨[],[(8,Rg),(12,Rh),(18,Ri)],[],true⟩
theorem vUd:zU prog 1000 0 129 (zR (zS f53) 0) Rg:=lp (A:=Rj) Rg (fun d=>((qV d.2.1),(d.2.2.1.1,d.2.2.1.2.1,d.2.2.1.2.2.1),d.2.2.2.1)) yMz yd GP (e6 Q6 tm Q7 mn Q9 LQ) zF
theorem vQ1:zU prog 1000 0 129 (zR (zS f53) 1) Rh:=lp (A:=Rj) Rh (fun d=>((qV d.2.1),(d.2.2.1.1,d.2.2.1.2.1,d.2.2.1.2.2.1),d.2.2.2.1)) yOp ye GQ (e6 Q6 tm Q7 mn Q9 LQ) zF
theorem aaL:zU prog 1000 0 129 (zR (zS f53) 2) Ri:=lp (A:=Rj) Ri (fun d=>((yV d.2.1),(qV d.2.2.1),(d.2.2.2.1.1,d.2.2.2.1.2.1,d.2.2.2.1.2.2.1),d.2.2.2.2.1)) yMm uX GR (e6 Q6 tm Q7 mn Q9 LQ) zF
def vRe:=zJ 53 [.agg QP,.agg yo] (.tup [(true,yp),(false,[.own yH])]) (fun k d=>GS k (yV d) (qq d)) (fun x=>(wZ x.1 (x.2,()))) (fun d=>((qV d),d.2.2.2.2.2.2.2.2.2.2.2.1))
theorem aaM:zD prog vRe:=fA f53 Rj (e6 Q6 tm Q7 mn Q9 LQ) (oP (n:=3) (by kernel_rfl) fun i hi=>match i,hi with|0,_=>⟨Rg,by kernel_rfl,vUd⟩|1,_=>⟨Rh,by kernel_rfl,vQ1⟩|2,_=>⟨Ri,by kernel_rfl,aaL⟩|i+3,hi=>absurd hi (by omega))
def vUo:=zJ 168 [.ptr yMk,.c .i] (.c .i) (fun k d=>uT k (QJ d) d.2.2.2.2.2.2.2.2.2.2.2.2.2.2.2.2.2.2.2.1) (fun x=>(x,())) (fun d=>d.1)
theorem qXi:zD prog vUo:=fA f168 n0 e0 zF
def vD8:=zJ 175 [.agg ki,.c .i,.c .i] (.c .i) (fun k d=>Gu k (yV d) d.2.2.2.2.2.1 d.2.2.2.2.2.2.1) (fun x=>(x,())) (fun d=>d.1)
theorem yV9:zD prog vD8:=fA f175 n0 e0 zF
def vV2:=zJ 169 [.agg ki,.c .i,.agg vO] (.c .i) (fun k d=>BP k (yV d) d.2.2.2.2.2.1 (Y6 d)) (fun x=>(x,())) (fun d=>d.1)
theorem vM9:zD prog vV2:=fA f169 n0 (e1 yV9) zF
def yP7:zE:=sp [(0,.c (.dat false .i)),sI 1,sI 5] []
def yWb (f:YX)(d:yP7.den):=f d.1.1.1 d.1.2.1.1 d.1.2.2.1.1
def qJ5:zW:=⟨[yP7],[(.exit 0,yS2),(.ret,yQ5)],(Unit⊕Bool),fun k d=>yWb (Gj k k) d,fun b x _ K=>match x with|.inl x=>K (.exit 0) (zN b yS2 ((),()))|.inr x=>K .ret (zN b yQ5 (((x,()),()),()))⟩
def vBf:qA:=⟨[],[(2,qJ5)],[],true⟩
theorem vLx:zU prog 1000 0 18 (zR (zS f215) 0) qJ5:=lp (A:=vBf) qJ5 (fun d=>match d with|.inl d=>.inl ()|.inr d=>.inr d.1.1.1) yWb Gj Gk e0 zF
def aaN:=zJ 215 [.c (.dat false .i),.c .i] (.c .bool) (fun k d=>Pv k d.1 d.2.1) (fun x=>(x,())) (fun d=>d.1)
theorem yC2:zD prog aaN:=fA f215 vBf e0 (loops1 vLx)
def yQt:zE:=sp [(0,.c (.dat true .i)),sI 1,sI 6] []
def yMp (f:qWm)(d:yQt.den):=f d.1.1.1 d.1.2.1.1 d.1.2.2.1.1
def qWz:zW:=⟨[yQt],[(.exit 0,yQt)],(AC×Int×Int),fun k d=>yMp (KM k k) d,fun b x _ K=>K (.exit 0) (zN b yQt (((x.1,()),(x.2.1,()),(x.2.2,()),()),()))⟩
def yUg:qA:=⟨[],[(6,qWz)],[],true⟩
theorem vRi:zU prog 1000 0 41 (zR (zS f170) 0) qWz:=lp (A:=yUg) qWz (fun d=>(d.1.1.1,d.1.2.1.1,d.1.2.2.1.1)) yMp KM Gl (e1 yC2) zF
def vR4:=zJ 170 [.c (.dat true .i),.c .i] (.tup [(false,[.fro .i]),(false,vC)]) (fun k d=>BK k d.1 d.2.1) (fun x=>(x.1,x.2,())) (fun d=>(d.1,d.2.1))
theorem vT7:zD prog vR4:=fA f170 yUg (e1 yC2) (loops1 vRi)
def aaO:=zJ 218 [.agg vO,.agg vO] (.c .bool) (fun k d=>(Hj (KF k) d)) (fun x=>(x,())) (fun d=>d.1)
theorem Rk:zD prog aaO:=fA f218 ⟨[],[],[],false⟩ e0 zF
def vBn:zE:=sp [(0,.c (.dat false zG)),sP 3 0,sI 5] [oB wW]
def yPw (f:qWj)(d:vBn.den):=(mm (f d.1.1.1 d.1.2.2.1.1) d.2.1)
def qYy:zW:=⟨[vBn],[(.exit 0,yKf)],Int,fun k d=>yPw (Gf k k) d,fun b x _ K=>K (.exit 0) (zN b yKf (((x,()),()),()))⟩
def yI5:qA:=⟨[],[(2,qYy)],[],false⟩
theorem vMl:zU prog 1000 0 21 (zR (zS f217) 0) qYy:=lp (A:=yI5) qYy (fun d=>d.1.1.1) yPw Gf Gg (e1 Rk) zF
def vQ4:=zJ 217 [.c (.dat false zG),.agg vO] (.c .i) (fun k d=>(mj (Ge k) d)) (fun x=>(x,())) (fun d=>d.1)
theorem qQj:zD prog vQ4:=fA f217 yI5 (e1 Rk) (loops1 vMl)
def vCn:=zJ 216 [.c (.dat false zG),.c .i,.agg vO] (.c (.own zG)) (fun k d=>(QF (BI k) d)) (fun x=>(x,())) (fun d=>d.1)
theorem LR:zD prog vCn:=fA f216 ⟨[],[],[],false⟩ e0 zF
def vG6:=zJ 171 [.c (.dat true zG),.agg vO] (.tup [(false,[.fro zG]),(false,vC)]) (fun k d=>(mj (BJ k) d)) (fun x=>(x.1,x.2,())) (fun d=>(d.1,d.2.1))
theorem vY7:zD prog vG6:=fA f171 ⟨[],[],[],false⟩ (e3 Q8 qQj LR) zF
def vMz:=yU 109 [.ptr true Ch,.agg LF] (.c .i) [Ck] 0 (fun k d=>PB k (yE d d.2.2.2.2.2.2.2.2.2.2.2.2.2.2.2.2.2.2.1) (vKi d)) (fun x=>(x.1,(yx x.2 ()))) (fun d=>(d.1,(Cl d)))
theorem aaP:zD prog vMz:=fX f109 n0 1 (e4 qXi vM9 vT7 vY7) zF
def vOh:=zJ 172 [.ptr yMk,.c .i] (.tup [(true,qu),(false,[.bool])]) (fun k d=>yY1 k (QJ d) d.2.2.2.2.2.2.2.2.2.2.2.2.2.2.2.2.2.2.2.1) (fun x=>(ir x.1 (x.2,()))) (fun d=>((wG d),d.2.2.2.2.2.2.2.1))
theorem vKo:zD prog vOh:=fA f172 n0 (e1 Q8) zF
def yEp:zE:=sp [(6,.c (.dat true zG)),sP 7 0,sI 9] [oB wW]
def yV3 (f:Zk)(d:yEp.den):=f d.1.1.1 d.1.2.2.1.1 (wG d.2.1)
def qZu:zW:=⟨[yEp],[(.exit 0,yEp)],Zm,fun k d=>yV3 (KL k k) d,fun b x _ K=>K (.exit 0) (zN b yEp (((x.1,()),(),(x.2.1,()),()),((ir x.2.2 ()),())))⟩
def vA3:qA:=⟨[],[(5,qZu)],[],true⟩
theorem vKb:zU prog 1000 0 40 (zR (zS f173) 0) qZu:=lp (A:=vA3) qZu (fun d=>(d.1.1.1,d.1.2.2.1.1,(wG d.2.1))) yV3 KL Gh (e3 mn Rk LR) zF
def vQr:=zJ 173 [.c (.dat true zG),.c .i] (.tup [(false,[.fro zG]),(false,vC)]) (fun k d=>KK k d.1 d.2.1) (fun x=>(x.1,x.2,())) (fun d=>(d.1,d.2.1))
theorem vC8:zD prog vQr:=fA f173 vA3 (e3 mn Rk LR) (loops1 vKb)
def vN5:=zJ 174 [.c (.dat true zG),.c .i] (.tup [(false,[.fro zG]),(false,vC)]) (fun k d=>KJ k d.1 d.2.1) (fun x=>(x.1,x.2,())) (fun d=>(d.1,d.2.1))
theorem vM3:zD prog vN5:=fA f174 n0 (e3 mn qQj LR) zF
def vTc:=zJ 176 [.c (.dat true zG),.c .i,.c .i] (.tup [(false,[.fro zG]),(false,vC)]) (fun k d=>KI k d.1 d.2.1 d.2.2.1) (fun x=>(x.1,x.2,())) (fun d=>(d.1,d.2.1))
theorem vVd:zD prog vTc:=fA f176 n0 (e3 mn qQj LR) zF
def vZq:=yU 110 [.ptr true Ch,.c (.p .i),.agg LF] (.c .i) [Ck] 0 (fun k d=>BR k (yE d d.2.2.2.2.2.2.2.2.2.2.2.2.2.2.2.2.2.2.1) d.2.2.2.2.2.2.2.2.2.2.2.2.2.2.2.2.2.2.2.1 (yZx d)) (fun x=>(x.1,(yx x.2 ()))) (fun d=>(d.1,(Cl d)))
theorem vNj:zD prog vZq:=fX f110 n0 1 (e7 vKo mn tm vC8 vM3 yV9 vVd) zF
def vV5:=yU 111 [.ptr true Ch,.c (.p .i),.agg LF] (.c .i) [Ck] 0 (fun k d=>BS k (yE d d.2.2.2.2.2.2.2.2.2.2.2.2.2.2.2.2.2.2.1) d.2.2.2.2.2.2.2.2.2.2.2.2.2.2.2.2.2.2.2.1 (yZx d)) (fun x=>(x.1,(yx x.2 ()))) (fun d=>(d.1,(Cl d)))
theorem aaQ:zD prog vV5:=fX f111 n0 1 (e2 yz qXi) zF
def vT8:=zJ 178 [.c (.dat false .i),.c .i,.c .i] (.c (.own .i)) (fun k d=>uU k d.1 d.2.1 d.2.2.1) (fun x=>(x,())) (fun d=>d.1)
theorem qN7:zD prog vT8:=fA f178 n0 e0 zF
def aaR:=zJ 283 [.c .i] (.c (.own .i)) (fun k d=>Pn k d.1) (fun x=>(x,())) (fun d=>d.1)
theorem qXl:zD prog aaR:=fA f283 n0 e0 zF
def yKv:zE:=sp [sO 0 0,sI 3] [oA .i]
def yK3:zE:=sp [sO 0 0] [oA .i]
def yCk (f:Int→AC→Option AC)(d:yKv.den):=f d.1.2.1.1 d.2.1
def qQ2:zW:=⟨[yKv],[(.exit 0,yK3)],AC,fun k d=>yCk (qU6 k k) d,fun b x _ K=>K (.exit 0) (zN b yK3 (((),()),(x,())))⟩
def yGp:qA:=⟨[],[(2,qQ2)],[],true⟩
theorem aaS:zU prog 1000 0 35 (zR (zS f284) 0) qQ2:=lp (A:=yGp) qQ2 (fun d=>d.2.1) yCk qU6 yYu e0 zF
def vZa:=yU 284 [.c (.own .i)] (.c (.own .i)) [] 0 (fun k d=>F7 k d.1) (fun x=>(x,())) (fun d=>d.1)
theorem LS:zD prog vZa:=fX f284 yGp 0 e0 (loops1 aaS)
def yLf:zE:=sp [sI 1,sO 5 0,sO 6 1,sI 7,sI 8] [oA .i,oA .i]
def yLq:zE:=sp [sI 1,sO 5 0,sO 6 1,sI 7] [oA .i,oA .i]
def yEn (f:qN8)(d:yLf.den):=f d.1.1.1 d.1.2.2.2.1.1 d.1.2.2.2.2.1.1 d.2.1 d.2.2.1
def qOe:zW:=⟨[yLf],[(.exit 2,yLq)],qUb,fun k d=>yEn (qWy k k) d,fun b x _ K=>K (.exit 2) (zN b yLq (((x.1,()),(),(),(x.2.1,()),()),(x.2.2.1,x.2.2.2,())))⟩
def yL4 (f:qLp)(d:yLq.den):=f d.1.1.1 d.1.2.2.2.1.1 d.2.1 d.2.2.1
def qNs:zW:=⟨[yLq],[(.exit 0,yHm)],AC,fun k d=>yL4 (Pl k k) d,fun b x _ K=>K (.exit 0) (zN b yHm (((),()),(x,())))⟩
def qKm:qA:=⟨[],[(7,qOe),(4,qNs)],[],true⟩
theorem vVj:zU prog 1000 0 47 (zR (zR (zS f253) 0) 0) qOe:=lp (A:=qKm) qOe (fun d=>(d.1.1.1,d.1.2.2.2.1.1,d.2.1,d.2.2.1)) yEn qWy yD7 (e2 qXl LS) zF
theorem vGl:zU prog 1000 0 47 (zR (zS f253) 0) qNs:=lp (A:=qKm) qNs (fun d=>d.2.1) yL4 Pl yQw (e2 qXl LS) (loops1 vVj)
def vEx:=zJ 253 [.c .i,.c .i] (.c (.own .i)) (fun k d=>Pm k d.1 d.2.1) (fun x=>(x,())) (fun d=>d.1)
theorem vHc:zD prog vEx:=fA f253 qKm (e2 qXl LS) (loops1 vGl)
def yOz:zE:=sp [sO 0 0,sI 1,sI 5] [oA .i]
def yQ7 (f:Int→Int→AC→Option AC)(d:yOz.den):=f d.1.2.1.1 d.1.2.2.1.1 d.2.1
def qQ8:zW:=⟨[yOz],[(.exit 0,yK3)],AC,fun k d=>yQ7 (Pj k k) d,fun b x _ K=>K (.exit 0) (zN b yK3 (((),()),(x,())))⟩
def yAp:qA:=⟨[],[(2,qQ8)],[],true⟩
theorem vVi:zU prog 1000 0 23 (zR (zS f254) 0) qQ8:=lp (A:=yAp) qQ8 (fun d=>d.2.1) yQ7 Pj yH4 (e1 LS) zF
def vRv:=yU 254 [.c (.own .i),.c (.p .i)] (.c (.own .i)) [] 0 (fun k d=>Ph k d.1 d.2.1) (fun x=>(x,())) (fun d=>d.1)
theorem vI4:zD prog vRv:=fX f254 yAp 0 (e1 LS) (loops1 vVi)
def yQe:zE:=sp [sO 0 0,sI 1,sI 6,sI 7] [oA .i]
def yFw (f:X9)(d:yQe.den):=f d.1.2.1.1 d.1.2.2.1.1 d.1.2.2.2.1.1 d.2.1
def Rl:zW:=⟨[yQe],[(.exit 0,yK3)],AC,fun k d=>yFw (KB k k) d,fun b x _ K=>K (.exit 0) (zN b yK3 (((),()),(x,())))⟩
def yLw:zE:=sp [sO 0 0,sI 9] [oA .i]
def yZz:zE:=sp [sI 4,(5,.c .bool)] []
def yX3 (f:qOc)(d:yLw.den):=f d.1.2.1.1 d.2.1
def Rm:zW:=⟨[yLw],[(.exit 2,yK3),(.ret,yZz)],(AC⊕fa),fun k d=>yX3 (F8 k k) d,fun b x _ K=>match x with|.inl x=>K (.exit 2) (zN b yK3 (((),()),(x,())))|.inr x=>K .ret (zN b yZz (((x.1,()),(x.2,()),()),()))⟩
def qOy:qA:=⟨[],[(3,Rl),(9,Rm)],[],true⟩
theorem aaT:zU prog 1000 0 66 (zR (zS f255) 0) Rl:=lp (A:=qOy) Rl (fun d=>d.2.1) yFw KB yPl e0 zF
theorem vEd:zU prog 1000 0 66 (zR (zS f255) 1) Rm:=lp (A:=qOy) Rm (fun d=>match d with|.inl d=>.inl d.2.1|.inr d=>.inr (d.1.1.1,d.1.2.1.1)) yX3 F8 yC3 e0 zF
def vGz:=yU 255 [.c (.own .i),.c (.p .i)] (.tup [(false,vC),(false,[.bool])]) [] 0 (fun k d=>Pk k d.1 d.2.1) (fun x=>(x.1,x.2,())) (fun d=>(d.1,d.2.1))
theorem vZ2:zD prog vGz:=fX f255 qOy 0 e0 (oP (n:=2) (by kernel_rfl) fun i hi=>match i,hi with|0,_=>⟨Rl,by kernel_rfl,aaT⟩|1,_=>⟨Rm,by kernel_rfl,vEd⟩|i+2,hi=>absurd hi (by omega))
def vJo:=zJ 220 [.c .i,.c .i,.c .i] (.tup [(false,vC),(false,[.bool])]) (fun k d=>Pt k d.1 d.2.1 d.2.2.1) (fun x=>(x.1,x.2,())) (fun d=>(d.1,d.2.1))
theorem yGf:zD prog vJo:=fA f220 n0 (e3 vHc vI4 vZ2) zF
def vWs:=zJ 221 [.c .i,.c .i] (.tup [(false,vC),(false,[.bool])]) (fun k d=>Ga k d.1 d.2.1) (fun x=>(x.1,x.2,())) (fun d=>(d.1,d.2.1))
theorem qK1:zD prog vWs:=fA f221 n0 e0 zF
def vAv:zE:=sp [(0,.c (.dat false jA)),(1,.c (.dat false .i)),(2,.c (.dat false .i)),sI 8,sI 9] []
def yVl:zE:=sp [sI 8] []
def yR1 (f:qNm)(d:vAv.den):=f d.1.1.1 d.1.2.1.1 d.1.2.2.1.1 d.1.2.2.2.1.1 d.1.2.2.2.2.1.1
def qYf:zW:=⟨[vAv],[(.exit 0,yVl),(.ret,yJh)],(Int⊕fa),fun k d=>yR1 (KG k k) d,fun b x _ K=>match x with|.inl x=>K (.exit 0) (zN b yVl (((x,()),()),()))|.inr x=>K .ret (zN b yJh (((x.1,()),(x.2,()),()),()))⟩
def yCx:qA:=⟨[],[(5,qYf)],[],true⟩
theorem vGx:zU prog 1000 0 63 (zR (zS f179) 0) qYf:=lp (A:=yCx) qYf (fun d=>match d with|.inl d=>.inl d.1.1.1|.inr d=>.inr (d.1.1.1,d.1.2.1.1)) yR1 KG Gc (e2 yGf qK1) zF
def vGd:=zJ 179 [.c (.dat false jA),.c (.dat false .i),.c (.dat false .i)] (.tup [(false,vC),(false,[.bool])]) (fun k d=>BH k d.1 d.2.1 d.2.2.1) (fun x=>(x.1,x.2,())) (fun d=>(d.1,d.2.1))
theorem qZl:zD prog vGd:=fA f179 yCx (e2 yGf qK1) (loops1 vGx)
def vMw:=yU 112 [.ptr true Ch,.c (.p .i),.c (.p .i)] (.c .i) [Ck] 0 (fun k d=>PD k (yE d d.2.2.2.2.2.2.2.2.2.2.2.2.2.2.2.2.2.2.1) d.2.2.2.2.2.2.2.2.2.2.2.2.2.2.2.2.2.2.2.1 d.2.2.2.2.2.2.2.2.2.2.2.2.2.2.2.2.2.2.2.2.1) (fun x=>(x.1,(yx x.2 ()))) (fun d=>(d.1,(Cl d)))
theorem vFr:zD prog vMw:=fX f112 n0 1 (e3 qN7 qZl yz) zF
def vW2:=zJ 180 [.agg n9,.c .i] (.tup [(true,[.i,.i,.i]),(false,vC)]) (fun k d=>Gv k (d.1,d.2.1,d.2.2.1) d.2.2.2.1) (fun x=>(x.1.1,x.1.2.1,x.1.2.2,x.2,())) (fun d=>((d.1,d.2.1,d.2.2.1),d.2.2.2.1))
theorem vTe:zD prog vW2:=fA f180 n0 (e2 qK1 Rb) zF
def vRn:=yU 113 [.ptr true Ch,.c (.p .bool),.c (.p .i),.c (.p .i)] (.c .i) [Ck] 0 (fun k d=>Gw k (yE d d.2.2.2.2.2.2.2.2.2.2.2.2.2.2.2.2.2.2.1) d.2.2.2.2.2.2.2.2.2.2.2.2.2.2.2.2.2.2.2.1 d.2.2.2.2.2.2.2.2.2.2.2.2.2.2.2.2.2.2.2.2.1 d.2.2.2.2.2.2.2.2.2.2.2.2.2.2.2.2.2.2.2.2.2.1) (fun x=>(x.1,(yx x.2 ()))) (fun d=>(d.1,(Cl d)))
theorem vSk:zD prog vRn:=fX f113 n0 1 (e3 qXi yz vTe) zF
def yZ3:zE:=sp [sP 0 0,sO 7 1,sP 8 2,sI 9] [oB qS3,oA .i,oB tj,oA qX,.mat,oA .i,.mat]
def yDd:zE:=sp [sP 0 0,sO 7 1,sP 8 2] [oB qS3,oA .i,oB tj,oA qX,.mat,oA .i,.mat]
def yF8:zE:=sp [sP 0 0,sI 6] [oB qS3]
def yGl (f:qJf)(d:yZ3.den):=f d.1.2.2.2.1.1 (jY d.2.1) d.2.2.1 d.2.2.2.2.1 d.2.2.2.2.2.1 d.2.2.2.2.2.2.1 d.2.2.2.2.2.2.2.1
def qVv:zW:=⟨[yZ3],[(.exit 0,yDd),(.ret,yF8)],qT6,fun k d=>yGl (uV k k) d,fun b x _ K=>match x with|.inl x=>K (.exit 0) (zN b yDd (((),(),(),()),((jH x.1 ()),x.2.1,(),x.2.2.1,x.2.2.2.1,x.2.2.2.2.1,x.2.2.2.2.2,())))|.inr x=>K .ret (zN b yF8 (((),(x.1,()),()),((jH x.2 ()),())))⟩
def yZt:qA:=⟨[],[(6,qVv)],[],true⟩
theorem vJi:zU prog 1000 1 93 (zR (zS f114) 0) qVv:=lp (A:=yZt) qVv (fun d=>match d with|.inl d=>.inl ((jY d.2.1),d.2.2.1,d.2.2.2.2.1,d.2.2.2.2.2.1,d.2.2.2.2.2.2.1,d.2.2.2.2.2.2.2.1)|.inr d=>.inr (d.1.2.1.1,(jY d.2.1))) yGl uV Gx (e3 qN7 yz qZl) zF
def vQp:=yU 114 [.ptr true Ch,.c (.p .i),.c (.p .i)] (.c .i) [Ck] 0 (fun k d=>PE k (yE d d.2.2.2.2.2.2.2.2.2.2.2.2.2.2.2.2.2.2.1) d.2.2.2.2.2.2.2.2.2.2.2.2.2.2.2.2.2.2.2.1 d.2.2.2.2.2.2.2.2.2.2.2.2.2.2.2.2.2.2.2.2.1) (fun x=>(x.1,(yx x.2 ()))) (fun d=>(d.1,(Cl d)))
theorem vV9:zD prog vQp:=fX f114 yZt 1 (e3 qN7 yz qZl) (loops1 vJi)
def vEi:=yU 54 [.ptr true Ch,.agg vO] (.c .i) [Ck] 0 (fun k d=>yf k (yE d d.2.2.2.2.2.2.2.2.2.2.2.2.2.2.2.2.2.2.1) (vE1 d)) (fun x=>(x.1,(yx x.2 ()))) (fun d=>(d.1,(Cl d)))
theorem vDs:zD prog vEi:=fX f54 n0 1 (e6 aaP vNj aaQ vFr vSk vV9) zF
def qV0:=zJ 15 [.agg QP,.agg yo,.agg LB] (.tup [(true,yp),(false,[.own yH]),(false,vC)]) (fun k d=>yh k (yV d) (qq d) (YZ d)) (fun x=>(wZ x.1 (x.2.1,x.2.2,()))) (fun d=>((qV d),d.2.2.2.2.2.2.2.2.2.2.2.1,d.2.2.2.2.2.2.2.2.2.2.2.2.1))
theorem vRf:zD prog qV0:=fA f15 n0 (e7 vLb yy tm aaM vDs LQ Q8) zF
def qR5:=yU 18 [.chn [QZ,Q0,nk]] (.agg yp) [Q1,Q2,kY] 0 (fun k d=>ni k (kj d) (Q3 d) (Q4 d)) (fun x=>(wZ x.1 ((),(jH x.2.1 ((),(gO x.2.2.1 (kh x.2.2.2 ()))))))) (fun d=>((qV d),(vWc d),(vVc d),(aaU d)))
theorem vB3:zD prog qR5:=fX f18 n0 0 e0 zF
def yP6:zE:=sp [(0,.c (.dat false .i)),(1,.c (.dat false .i)),sI 5] []
def yFz (f:qKb)(d:yP6.den):=f d.1.1.1 d.1.2.1.1 d.1.2.2.1.1
def qRb:zW:=⟨[yP6],[(.exit 0,yS2),(.ret,yQ5)],(Unit⊕Bool),fun k d=>yFz (Jp k k) d,fun b x _ K=>match x with|.inl x=>K (.exit 0) (zN b yS2 ((),()))|.inr x=>K .ret (zN b yQ5 (((x,()),()),()))⟩
def yDu:qA:=⟨[],[(4,qRb)],[],false⟩
theorem vE6:zU prog 1000 0 26 (zR (zS f58) 0) qRb:=lp (A:=yDu) qRb (fun d=>match d with|.inl d=>.inl ()|.inr d=>.inr d.1.1.1) yFz Jp Ej e0 zF
def qXg:=zJ 58 [.c (.dat false .i),.c (.dat false .i)] (.c .bool) (fun k d=>ur k d.1 d.2.1) (fun x=>(x,())) (fun d=>d.1)
theorem Rn:zD prog qXg:=fA f58 yDu e0 (loops1 vE6)
def yNj:zE:=sp [(0,.c (.dat false (.sl .i))),(1,.c (.dat false (.sl .i))),sI 5] []
def yD2 (f:qUs)(d:yNj.den):=f d.1.1.1 d.1.2.1.1 d.1.2.2.1.1
def qZf:zW:=⟨[yNj],[(.exit 0,yS2),(.ret,yQ5)],(Unit⊕Bool),fun k d=>yD2 (Jq k k) d,fun b x _ K=>match x with|.inl x=>K (.exit 0) (zN b yS2 ((),()))|.inr x=>K .ret (zN b yQ5 (((x,()),()),()))⟩
def yAr:qA:=⟨[],[(4,qZf)],[],false⟩
theorem vVk:zU prog 1000 0 27 (zR (zS f59) 0) qZf:=lp (A:=yAr) qZf (fun d=>match d with|.inl d=>.inl ()|.inr d=>.inr d.1.1.1) yD2 Jq Ek (e1 Rn) zF
def qRo:=zJ 59 [.c (.dat false (.sl .i)),.c (.dat false (.sl .i))] (.c .bool) (fun k d=>Bc k d.1 d.2.1) (fun x=>(x,())) (fun d=>d.1)
theorem yCb:zD prog qRo:=fA f59 yAr (e1 Rn) (loops1 vVk)
def yAn:zE:=sp [sP 2 0,sP 3 1,sI 5] [oB jZ,oB jZ]
def yLk (f:qJ4)(d:yAn.den):=(vJ (vJ (f d.1.2.2.1.1) d.2.1) d.2.2.1)
def qV8:zW:=⟨[yAn],[(.exit 0,yS2),(.ret,yQ5)],(Unit⊕Bool),fun k d=>yLk (Js k k) d,fun b x _ K=>match x with|.inl x=>K (.exit 0) (zN b yS2 ((),()))|.inr x=>K .ret (zN b yQ5 (((x,()),()),()))⟩
def vRo:Env:=⟨prog,fun t=>[119].any (Nat.beq t),eW [qRo,qXg]⟩
theorem vCj:jG vRo:=DF (l:=[qRo,qXg]) (eqT:=fun t=>[119].any (Nat.beq t)) (HV (fun t h=>Iy (p:=fun t=>prog.keyTypeAt 8 t&& !prog.eqGuardType prog.depth t) (l:=[119]) (List.forall_mem_cons.2 ⟨by kernel_rfl,List.forall_mem_nil _⟩) t h)) gu ⟨yCb,Rn,trivial⟩
def yZl:qA:=⟨[],[(4,qV8)],[],false⟩
theorem vSg:zU prog 1000 0 55 (zR (zS f57) 0) qV8:=lp (A:=yZl) qV8 (fun d=>match d with|.inl d=>.inl ()|.inr d=>.inr d.1.1.1) yLk Js El vCj zF
def vN4:=zJ 57 [.agg jV,.agg jV] (.c .bool) (fun k d=>(mj (Jr k) d)) (fun x=>(x,())) (fun d=>d.1)
theorem vDe:zD prog vN4:=fA f57 yZl vCj (loops1 vSg)
def yY0:zE:=sp [(0,.c (.dat false zG)),(1,.c (.dat false zG)),sI 5] []
def yMq (f:qT7)(d:yY0.den):=f d.1.1.1 d.1.2.1.1 d.1.2.2.1.1
def qLq:zW:=⟨[yY0],[(.exit 0,yS2),(.ret,yQ5)],(Unit⊕Bool),fun k d=>yMq (Lg k k) d,fun b x _ K=>match x with|.inl x=>K (.exit 0) (zN b yS2 ((),()))|.inr x=>K .ret (zN b yQ5 (((x,()),()),()))⟩
def vLa:Env:=⟨prog,fun t=>[142].any (Nat.beq t),eW []⟩
theorem yKm:jG vLa:=DF (l:=[]) (eqT:=fun t=>[142].any (Nat.beq t)) (HV (fun t h=>Iy (p:=fun t=>prog.keyTypeAt 8 t&& !prog.eqGuardType prog.depth t) (l:=[142]) (List.forall_mem_cons.2 ⟨by kernel_rfl,List.forall_mem_nil _⟩) t h)) gu trivial
def yO8:qA:=⟨[],[(4,qLq)],[],false⟩
theorem vG7:zU prog 1000 0 26 (zR (zS f60) 0) qLq:=lp (A:=yO8) qLq (fun d=>match d with|.inl d=>.inl ()|.inr d=>.inr d.1.1.1) yMq Lg G7 yKm zF
def aaV:=zJ 60 [.c (.dat false zG),.c (.dat false zG)] (.c .bool) (fun k d=>Lf k d.1 d.2.1) (fun x=>(x,())) (fun d=>d.1)
theorem vIa:zD prog aaV:=fA f60 yO8 yKm (loops1 vG7)
def qKy:=zJ 17 [.agg tf,.agg tf] (.c .bool) (fun k d=>qm k (qV d) (vCt d)) (fun x=>(x,())) (fun d=>d.1)
theorem aaW:zD prog qKy:=fA f17 n0 (e4 vDe Rn yCb vIa) zF
def vAf:zE:=sp [(0,.c (.dat false .i)),sO 3 0,sI 4,sI 5] [oA (.int .u8)]
def yXe:zE:=sp [(0,.c (.dat false .i)),sO 3 0,sI 4] [oA (.int .u8)]
def yN6 (f:qNx)(d:vAf.den):=f d.1.1.1 d.1.2.2.1.1 d.1.2.2.2.1.1 d.2.1
def qI7:zW:=⟨[vAf],[(.exit 2,yXe)],X4,fun k d=>yN6 (Kz k k) d,fun b x _ K=>K (.exit 2) (zN b yXe (((x.1,()),(),(x.2.1,()),()),(x.2.2,())))⟩
def yPm (f:qOg)(d:yXe.den):=f d.1.1.1 d.1.2.2.1.1 d.2.1
def qUe:zW:=⟨[yXe],[(.exit 0,yC5)],AC,fun k d=>yPm (BG k k) d,fun b x _ K=>K (.exit 0) (zN b yC5 (((),()),(x,())))⟩
def qSc:qA:=⟨[],[(6,qI7),(3,qUe)],[],true⟩
theorem vQw:zU prog 1000 0 30 (zR (zR (zS f28) 0) 0) qI7:=lp (A:=qSc) qI7 (fun d=>(d.1.1.1,d.1.2.2.1.1,d.2.1)) yN6 Kz Pf e0 zF
theorem aaX:zU prog 1000 0 30 (zR (zS f28) 0) qUe:=lp (A:=qSc) qUe (fun d=>d.2.1) yPm BG F6 e0 (loops1 vQw)
def vH1:=zJ 28 [.c (.dat false .i)] (.c (.own (.int .u8))) (fun k d=>Pg k d.1) (fun x=>(x,())) (fun d=>d.1)
theorem aaY:zD prog vH1:=fA f28 qSc e0 (loops1 aaX)
def qQd:=Nr 23 [.agg vO] (.c (.nil)) [] 0 (.c (.own (.int .u8))) [] 0 (fun k d=>sY k (wG d)) (fun x=>((),())) (fun x=>(x,())) (fun d=>()) (fun d=>d.1)
theorem yGh:zD prog qQd:=fN f23 ⟨[1],[],[],true⟩ 0 (e3 yS9 qKx aaY) zF
def qY1:=zJ 16 [.c (.nilp)] (.c .bool) (fun k d=>pt k) (fun x=>(x,())) (fun d=>d.1)
theorem qOo:zD prog qY1:=fA f16 n0 e0 zF
def qWd:=zJ 13 [.c (.nilp),.c .i,.c (.dat false (.int .u8))] (.c (.own yH)) (fun k d=>LU k d.2.1 d.2.2.1) (fun x=>(x,())) (fun d=>d.1)
theorem yYr:zD prog qWd:=fA f13 n0 (e3 qOo YV yO6) zF
def vFt:=zJ 18 [.c (.nilp)] (.agg Yk) (fun k d=>LV k) (fun x=>(wZ x ())) (fun d=>(qV d))
theorem vYv:zD prog vFt:=fA f18 n0 e0 zF
def qRz:=zJ 22 [.c .i] (.agg [.i,.own jA,.i,.i,.i]) (fun k d=>kg k d.1) (fun x=>(jI x ())) (fun d=>(yV d))
theorem yLu:zD prog qRz:=fA f22 n0 e0 zF
def yGn:zE:=sp [(0,.c (.dat false yH)),(1,.c (.dat false yH)),sI 5] []
def yHp (f:qLr)(d:yGn.den):=f d.1.1.1 d.1.2.1.1 d.1.2.2.1.1
def qU1:zW:=⟨[yGn],[(.exit 0,yS2),(.ret,yQ5)],(Unit⊕Bool),fun k d=>yHp (Ko k k) d,fun b x _ K=>match x with|.inl x=>K (.exit 0) (zN b yS2 ((),()))|.inr x=>K .ret (zN b yQ5 (((x,()),()),()))⟩
def vS5:Env:=⟨prog,fun t=>[69].any (Nat.beq t),eW []⟩
theorem yVd:jG vS5:=DF (l:=[]) (eqT:=fun t=>[69].any (Nat.beq t)) (HV (fun t h=>Iy (p:=fun t=>prog.keyTypeAt 8 t&& !prog.eqGuardType prog.depth t) (l:=[69]) (List.forall_mem_cons.2 ⟨by kernel_rfl,List.forall_mem_nil _⟩) t h)) gu trivial
def yKb:qA:=⟨[],[(4,qU1)],[],false⟩
theorem vC3:zU prog 1000 0 26 (zR (zS f25) 0) qU1:=lp (A:=yKb) qU1 (fun d=>match d with|.inl d=>.inl ()|.inr d=>.inr d.1.1.1) yHp Ko FQ yVd zF
def qY9:=zJ 25 [.c (.dat false yH),.c (.dat false yH)] (.c .bool) (fun k d=>pc k d.1 d.2.1) (fun x=>(x,())) (fun d=>d.1)
theorem vHv:zD prog qY9:=fA f25 yKb yVd (loops1 vC3)
def qR8:=zJ 26 [] (.c .bool) (fun k d=>Qd k) (fun x=>(x,())) (fun d=>d.1)
theorem vWm:zD prog qR8:=fA f26 n0 (e11 F2q yLu yUf tm yGh yEl vB3 yAd vYv yYr qOo) zF
def yH2:zE:=⟨[sI 1,(2,.c (.dat false yH)),(3,.c (.dat false .bool)),sP 9 0,sP 10 2,sP 11 5,sI 12,sP 13 7,sI 14],[oB [.i,.lit (.osl 1001001 none),.i,.i,.i],.arr false jA,oB qP8,oA (.int .u8),oA (.int .u8),oB [.lit (.ptr 1001006 0),.i,.dat true jA,.i,.i,.i,.i,.dat true qX,.dat true (.sl .i),.dat true .i,.dat true (.sl .i),.dat true .i,.dat true (.sl .i),.dat true zG,.dat true .i,.i,.bool,.i,.bool],oB [.lit (.ptr 1001002 0),.i,.i,.i,.bool],oB iU],[(13,some 1,.bool,true),(13,some 2,.bool,true),(13,some 3,.bool,true),(13,some 4,.bool,true),(13,some 5,.bool,true),(13,some 6,.bool,true),(13,some 7,.bool,true),(13,some 8,.bool,true)]⟩
def yBe:zE:=sp [sI 1,(2,.c (.dat false yH)),(3,.c (.dat false .bool)),sP 9 0,sP 10 2,(11,.c (.lit .nilp)),sI 12,sP 13 5,sI 14] [oB [.i,.lit (.osl 1001001 none),.i,.i,.i],.arr false jA,oB qP8,oA (.int .u8),oA (.int .u8),oB [.i,.lit (.osl 1001006 none),.lit (.osl 1001007 none),.lit (.osl 1001008 none),.lit (.osl 1001009 none),.lit (.osl 1001010 none),.lit (.osl 1001011 none),.lit (.osl 1001012 none),.lit (.osl 1001013 none),.i,.bool],oA qX,.mat,oA .i,.mat,oA .i,.mat,oA zG,oA .i]
def yX6:zE:=sp [(11,.c (.lit .nilp)),sI 12] []
def yBo:zE:=sp [sP 11 0,sI 12] [oB [.lit (.ptr 1001001 0),.i,.dat true jA,.i,.i,.i,.i,.dat true qX,.dat true (.sl .i),.dat true .i,.dat true (.sl .i),.dat true .i,.dat true (.sl .i),.dat true zG,.dat true .i,.i,.bool,.i,.bool],oB [.lit (.ptr 1001002 0),.i,.i,.i,.bool],oB qP8,oA (.int .u8),oA (.int .u8)]
def yJq:zE:=sp [(8,.c .bool)] []
def yWt (f:Lr)(d:rJ [yH2,yBe]):Option He:=match d with|.inl d=>f (.inl (d.1.1.1,d.1.2.1.1,d.1.2.2.1.1,d.1.2.2.2.2.2.2.1.1,d.1.2.2.2.2.2.2.2.2.1.1,(fu d.2.1),d.2.2.1,(nZ d.2.2.2.1),d.2.2.2.2.1,d.2.2.2.2.2.1,(jY d.2.2.2.2.2.2.1),(fu d.2.2.2.2.2.2.2.1),(qV d.2.2.2.2.2.2.2.2.1)))|.inr d=>f (.inr (d.1.1.1,d.1.2.1.1,d.1.2.2.1.1,d.1.2.2.2.2.2.2.1.1,d.1.2.2.2.2.2.2.2.2.1.1,(fu d.2.1),d.2.2.1,(nZ d.2.2.2.1),d.2.2.2.2.1,d.2.2.2.2.2.1,(d.2.2.2.2.2.2.1.1,d.2.2.2.2.2.2.1.2.1,d.2.2.2.2.2.2.1.2.2.1),d.2.2.2.2.2.2.2.1,d.2.2.2.2.2.2.2.2.1,d.2.2.2.2.2.2.2.2.2.1,d.2.2.2.2.2.2.2.2.2.2.1,d.2.2.2.2.2.2.2.2.2.2.2.1,d.2.2.2.2.2.2.2.2.2.2.2.2.1,d.2.2.2.2.2.2.2.2.2.2.2.2.2.1,d.2.2.2.2.2.2.2.2.2.2.2.2.2.2.1))
def qZn:zW:=⟨[yH2,yBe],[(.exit 0,yX6),(.exit 0,yBo),(.ret,yJq)],He,fun k d=>yWt (pn k k) d,fun b x _ K=>match x with|.inl x=>K (.exit 0) (zN b yX6 (((),(x,()),()),()))|.inr (.inl x)=>K (.exit 0) (zN b yBo (((),(x.1,()),()),((jH x.2.1 ()),(gO x.2.2.1 ()),(Hi x.2.2.2.1 ()),x.2.2.2.2.1,x.2.2.2.2.2,())))|.inr (.inr x)=>K .ret (zN b yJq (((x,()),()),()))⟩
def yUq:Env:=⟨prog,fun t=>[53].any (Nat.beq t),eW [qRz,XR,qQx,qOt,qQd,qU4,qZ1,qV0,qY9,qR5,qKy,qY1,qWd,qR8]⟩
theorem XP:jG yUq:=DF (l:=[qRz,XR,qQx,qOt,qQd,qU4,qZ1,qV0,qY9,qR5,qKy,qY1,qWd,qR8]) (eqT:=fun t=>[53].any (Nat.beq t)) (HV (fun t h=>Iy (p:=fun t=>prog.keyTypeAt 8 t&& !prog.eqGuardType prog.depth t) (l:=[53]) (List.forall_mem_cons.2 ⟨by kernel_rfl,List.forall_mem_nil _⟩) t h)) gu ⟨yLu,F2q,yUf,vT0,yGh,yEl,tm,vRf,vHv,vB3,aaW,qOo,yYr,vWm,trivial⟩
def yYz:qA:=⟨[],[(8,qZn)],[],true⟩
theorem vN3:zU prog 1000 0 160 (zR (zS f4) 0) qZn:=lp (A:=yYz) qZn (fun d=>match d with|.inl d=>.inl d.1.2.1.1|.inr (.inl d)=>.inr (.inl (d.1.2.1.1,(jY d.2.1),(fu d.2.2.1),(nZ d.2.2.2.1),d.2.2.2.2.1,d.2.2.2.2.2.1))|.inr (.inr d)=>.inr (.inr d.1.1.1)) yWt pn tc XP zF (hs:=by intro k rec d;rcases d with d|d<;>kernel_rfl) (h0:=by intro k d;rcases d with d|d<;>rfl)
def XN:List AS:=[.c .i,.c .i,.c (.dat false yH),.c (.dat false .bool)]
theorem XQ:Um yUq yYz 0 f4 XN (.c .bool) (fun d=>d.1) (fun k d=>Qc k d.1 d.2.1 d.2.2.1 d.2.2.2.1):=by intro k d;kernel_rfl
end
end Go.Ab.Gi
