/- part 97 -/
import Derived.Test.YtkhhepacokaakaaGreatGiXS
import Derived.Test.YtkhhepacokaakaaGreatGiAbE
import Derived.Test.YtkhhepacokaakaaGreatProg
set_option linter.unusedVariables false
set_option maxRecDepth 100000
set_option maxHeartbeats 4000000
namespace Go.Ab.Gi
open Go.RowKit Go.Lib Go.Proofs Go.Proofs.Tryz
noncomputable section
theorem fm:prog.follows .mixedOrders=true:=by kernel_rfl
abbrev n0:qB:=⟨[],[],[],true⟩
theorem e0:jE ⟨prog,fun _=>false,dD []⟩:=kY (l:=[]) fm trivial
theorem e1 {a0}(h0:zB prog a0):jE ⟨prog,fun _=>false,dD [a0]⟩:=kY (l:=[a0]) fm ⟨h0,trivial⟩
theorem e2 {a0 a1}(h0:zB prog a0)(h1:zB prog a1):jE ⟨prog,fun _=>false,dD [a0,a1]⟩:=kY (l:=[a0,a1]) fm ⟨h0,h1,trivial⟩
theorem e3 {a0 a1 a2}(h0:zB prog a0)(h1:zB prog a1)(h2:zB prog a2):jE ⟨prog,fun _=>false,dD [a0,a1,a2]⟩:=kY (l:=[a0,a1,a2]) fm ⟨h0,h1,h2,trivial⟩
theorem e4 {a0 a1 a2 a3}(h0:zB prog a0)(h1:zB prog a1)(h2:zB prog a2)(h3:zB prog a3):jE ⟨prog,fun _=>false,dD [a0,a1,a2,a3]⟩:=kY (l:=[a0,a1,a2,a3]) fm ⟨h0,h1,h2,h3,trivial⟩
theorem e5 {a0 a1 a2 a3 a4}(h0:zB prog a0)(h1:zB prog a1)(h2:zB prog a2)(h3:zB prog a3)(h4:zB prog a4):jE ⟨prog,fun _=>false,dD [a0,a1,a2,a3,a4]⟩:=kY (l:=[a0,a1,a2,a3,a4]) fm ⟨h0,h1,h2,h3,h4,trivial⟩
theorem e6 {a0 a1 a2 a3 a4 a5}(h0:zB prog a0)(h1:zB prog a1)(h2:zB prog a2)(h3:zB prog a3)(h4:zB prog a4)(h5:zB prog a5):jE ⟨prog,fun _=>false,dD [a0,a1,a2,a3,a4,a5]⟩:=kY (l:=[a0,a1,a2,a3,a4,a5]) fm ⟨h0,h1,h2,h3,h4,h5,trivial⟩
theorem e8 {a0 a1 a2 a3 a4 a5 a6 a7}(h0:zB prog a0)(h1:zB prog a1)(h2:zB prog a2)(h3:zB prog a3)(h4:zB prog a4)(h5:zB prog a5)(h6:zB prog a6)(h7:zB prog a7):jE ⟨prog,fun _=>false,dD [a0,a1,a2,a3,a4,a5,a6,a7]⟩:=kY (l:=[a0,a1,a2,a3,a4,a5,a6,a7]) fm ⟨h0,h1,h2,h3,h4,h5,h6,h7,trivial⟩
theorem e9 {a0 a1 a2 a3 a4 a5 a6 a7 a8}(h0:zB prog a0)(h1:zB prog a1)(h2:zB prog a2)(h3:zB prog a3)(h4:zB prog a4)(h5:zB prog a5)(h6:zB prog a6)(h7:zB prog a7)(h8:zB prog a8):jE ⟨prog,fun _=>false,dD [a0,a1,a2,a3,a4,a5,a6,a7,a8]⟩:=kY (l:=[a0,a1,a2,a3,a4,a5,a6,a7,a8]) fm ⟨h0,h1,h2,h3,h4,h5,h6,h7,h8,trivial⟩
theorem JW {a0 a1 a2 a3 a4 a5 a6 a7 a8 a9}(h0:zB prog a0)(h1:zB prog a1)(h2:zB prog a2)(h3:zB prog a3)(h4:zB prog a4)(h5:zB prog a5)(h6:zB prog a6)(h7:zB prog a7)(h8:zB prog a8)(h9:zB prog a9):jE ⟨prog,fun _=>false,dD [a0,a1,a2,a3,a4,a5,a6,a7,a8,a9]⟩:=kY (l:=[a0,a1,a2,a3,a4,a5,a6,a7,a8,a9]) fm ⟨h0,h1,h2,h3,h4,h5,h6,h7,h8,h9,trivial⟩
theorem e12 {a0 a1 a2 a3 a4 a5 a6 a7 a8 a9 DJ DK}(h0:zB prog a0)(h1:zB prog a1)(h2:zB prog a2)(h3:zB prog a3)(h4:zB prog a4)(h5:zB prog a5)(h6:zB prog a6)(h7:zB prog a7)(h8:zB prog a8)(h9:zB prog a9)(Eh:zB prog DJ)(Ei:zB prog DK):jE ⟨prog,fun _=>false,dD [a0,a1,a2,a3,a4,a5,a6,a7,a8,a9,DJ,DK]⟩:=kY (l:=[a0,a1,a2,a3,a4,a5,a6,a7,a8,a9,DJ,DK]) fm ⟨h0,h1,h2,h3,h4,h5,h6,h7,h8,h9,Eh,Ei,trivial⟩
def R0q:=zK 4 [.c .i] (.agg [.i,.own jA,.i,.i,.i]) (fun k d=>kD k d.1) (fun x=>(eN x ()))
theorem F0q:zB prog R0q:=fA (rs:=.agg [.i,.own jA,.i,.i,.i]) f4 n0 (fun d=>(wD d)) e0 zF
def R1q:=HM 5 [.c (.p .i)] (.c (.link 0)) [vX] 1 (.c (.nilp)) [] 0 (fun k d=>BW k d.1) (fun x=>((),(fP x ()))) (fun x=>((),()))
theorem F1q:zB prog R1q:=fN (rs:=.c (.link 0)) (os:=[vX]) (ns:=1) (rs2:=.c (.nilp)) (os2:=[]) (ns2:=0) f5 n0 0 (fun d=>(BZ d)) (fun d=>()) e0 zF
def R2q:=zK 37 [.c .i,.c .i,.c .i] (.c .bool) (fun k d=>nS k d.1 d.2.1 d.2.2.1) (fun x=>(x,()))
theorem F2q:zB prog R2q:=fA (rs:=.c .bool) f37 n0 (fun d=>d.1) e0 zF
def R3q:=zK 36 [.agg [.i,.i]] (.c .bool) (fun k d=>yAg k (d.1,d.2.1)) (fun x=>(x,()))
theorem F3q:zB prog R3q:=fA (rs:=.c .bool) f36 n0 (fun d=>d.1) (e1 F2q) zF
def yJ9:zH:=⟨[(0,.c (.dat false jA)),(1,.c (.lit (.fn 36 []))),(7,.c .i),(8,.c .i)],[],[]⟩
def qZp:zH:=⟨[],[],[]⟩
def yIm:zH:=⟨[(4,.c .i)],[],[]⟩
def qWx (f:Qc)(d:yJ9.den):=f d.1.1.1 d.1.2.2.1.1 d.1.2.2.2.1.1
def Qd:qC:=⟨[yJ9],[(.exit 0,qZp),(.ret,yIm)],(Unit⊕Int),fun k d=>qWx (Qe k k) d,fun b x _ K=>match x with|.inl x=>K (.exit 0) (zP b qZp ((),()))|.inr x=>K .ret (zP b yIm (((x,()),()),()))⟩
def A4q:qB:=⟨[],[(2,Qd)],[],true⟩
theorem ySj:zZ prog 1000 0 19 (zV (zX f67) 0) Qd:=lp (A:=A4q) Qd (fun d=>match d with|.inl d=>.inl ()|.inr d=>.inr d.1.1.1) qWx Qe qR8 (e1 F3q) zF
def R4q:=zK 67 [.c (.dat false jA),.c (.fn 36)] (.c .i) (fun k d=>qZi k d.1) (fun x=>(x,()))
theorem F4q:zB prog R4q:=fA (rs:=.c .i) f67 A4q (fun d=>d.1) (e1 F3q) (loops1 ySj)
def R5q:=zK 38 [.c (.dat false jA),.c (.fn 36)] (.c .bool) (fun k d=>yJl k d.1) (fun x=>(x,()))
theorem F5q:zB prog R5q:=fA (rs:=.c .bool) f38 n0 (fun d=>d.1) (e1 F4q) zF
def R6q:=zK 13 [.agg lE] (.c .bool) (fun k d=>lD k (wD d)) (fun x=>(x,()))
theorem JX:zB prog R6q:=fA (rs:=.c .bool) f13 n0 (fun d=>d.1) (e2 F2q F5q) zF
def R7q:=zK 115 [.c .i] (.c .bool) (fun k d=>JY k d.1) (fun x=>(x,()))
theorem Qf:zB prog R7q:=fA (rs:=.c .bool) f115 n0 (fun d=>d.1) e0 zF
def R8q:=rN 116 false (.int .u8) (.own (.int .u8)) vr
theorem F8q:zB prog R8q:=fC f116 n0 e0 zF
def R9q:=zK 69 [.ptr FX,.c .i] (.c (.own (.int .u8))) (fun k d=>PY k (eP d) d.2.2.2.2.2.2.2.2.2.2.1) (fun x=>(x,()))
theorem F9q:zB prog R9q:=fA (rs:=.c (.own (.int .u8))) f69 n0 (fun d=>d.1) (e2 Qf F8q) zF
def qSd:zH:=⟨[(0,.c (.dat false (.int .u8))),(2,.c (.lit (.osl 1001000 none)))],[.arr true (.sl (.int .u8))],[(2,none,(.sl (.int .u8)),false)]⟩
def yG6:zH:=⟨[(0,.c (.dat false (.int .u8))),(2,.c (.lit (.osl 1001000 none)))],[.arr true (.sl (.int .u8))],[]⟩
def qQ4 (f:Qg)(d:qSd.den):=f d.1.1.1 d.2.1
def Qh:qC:=⟨[qSd],[(.exit 0,yG6)],Qi,fun k d=>qQ4 (yv k k) d,fun b x _ K=>K (.exit 0) (zP b yG6 (((x.1,()),(),()),(x.2,())))⟩
def yJ1:qB:=⟨[],[(1,Qh)],[],true⟩
theorem yRz:zZ prog 1000 0 43 (zV (zX f68) 0) Qh:=lp (A:=yJ1) Qh (fun d=>(d.1.1.1,d.2.1)) qQ4 yv yw e0 zF
def yZ6:=zK 68 [.c (.dat false (.int .u8))] (.tup [(false,[.own (.sl (.int .u8))]),(false,qM)]) (fun k d=>DZ k d.1) (fun x=>(x.1,x.2,()))
theorem qX4:zB prog yZ6:=fA (rs:=.tup [(false,[.own (.sl (.int .u8))]),(false,qM)]) f68 yJ1 (fun d=>(d.1,d.2.1)) e0 (loops1 yRz)
def qU2:zH:=⟨[(0,.c (.dat false (.int .u8))),(4,.c (.lit (.osl 1001000 none))),(5,.c (.int .u64)),(16,.c (.dat false (.int .u8))),(17,.c .i),(18,.c .i)],[.arr true .i],[]⟩
def qZc:zH:=⟨[(0,.c (.dat false (.int .u8))),(4,.c (.lit (.osl 1001000 none))),(5,.c (.int .u64))],[.arr true .i],[]⟩
def qQf (f:Qj)(d:qU2.den):=f d.1.1.1 d.1.2.2.1.1 d.1.2.2.2.1.1 d.1.2.2.2.2.1.1 d.1.2.2.2.2.2.1.1 d.2.1
def Qk:qC:=⟨[qU2],[(.exit 2,qZc)],Ql,fun k d=>qQf (yk k k) d,fun b x _ K=>K (.exit 2) (zP b qZc (((x.1,()),(),(x.2.1,()),()),(x.2.2,())))⟩
def yHz:zH:=⟨[(0,.c (.dat false (.int .u8))),(4,.c (.lit (.osl 1001000 none)))],[.arr true .i],[(4,none,.i,false)]⟩
def qWe:zH:=⟨[(4,.c (.lit (.osl 1001000 none)))],[.arr true .i],[]⟩
def qX9 (f:AC→AC→Option AC)(d:yHz.den):=f d.1.1.1 d.2.1
def Qm:qC:=⟨[yHz],[(.exit 0,qWe)],AC,fun k d=>qX9 (yl k k) d,fun b x _ K=>K (.exit 0) (zP b qWe (((),()),(x,())))⟩
def Qn:qB:=⟨[],[(7,Qk),(4,Qm)],[],true⟩
theorem yUj:zZ prog 1000 0 36 (zV (zV (zX f55) 0) 0) Qk:=lp (A:=Qn) Qk (fun d=>(d.1.1.1,d.1.2.2.1.1,d.2.1)) qQf yk HV e0 zF
theorem yYz:zZ prog 1000 0 36 (zV (zX f55) 0) Qm:=lp (A:=Qn) Qm (fun d=>d.2.1) qX9 yl ym e0 (loops1 yUj)
def yMm:=zK 55 [.c (.dat false (.int .u8))] (.tup [(false,nT),(false,qM)]) (fun k d=>l9 k d.1) (fun x=>(x.1,x.2,()))
theorem FY:zB prog yMm:=fA (rs:=.tup [(false,nT),(false,qM)]) f55 Qn (fun d=>(d.1,d.2.1)) e0 (loops1 yYz)
def yRc:=zK 39 [.ptr FX,.c .i] (.tup [(false,qM),(false,lF),(false,nU)]) (fun k d=>sF k (eP d) d.2.2.2.2.2.2.2.2.2.2.1) (fun x=>(x.1,x.2.1,x.2.2,()))
theorem yXs:zB prog yRc:=fA (rs:=.tup [(false,qM),(false,lF),(false,nU)]) f39 n0 (fun d=>(d.1,d.2.1,d.2.2.1)) (e3 F9q qX4 FY) zF
def yLn:=zK 14 [.ptr FX] (.tup [(false,qM),(false,qM),(false,lF),(false,nU),(false,[.bool])]) (fun k d=>BM k (eP d)) (fun x=>(eN x ()))
theorem Qo:zB prog yLn:=fA (rs:=.tup [(false,qM),(false,qM),(false,lF),(false,nU),(false,[.bool])]) f14 ⟨[],[],[(2,3)],true⟩ (fun d=>(d.1,d.2.1,d.2.2.1,d.2.2.2.1,d.2.2.2.2.1)) (e1 yXs) (Dn (n:=1) (by kernel_rfl) fun i hi=>match i,hi with|0,_=>.inr ⟨by kernel_rfl,zF⟩|i+1,hi=>absurd hi (by omega))
def vFs:=zK 76 [.c .i] (.c .bool) (fun k d=>Ey k d.1) (fun x=>(x,()))
theorem JZ:zB prog vFs:=fA (rs:=.c .bool) f76 ⟨[],[],[],false⟩ (fun d=>d.1) e0 zF
def yBm:zH:=⟨[(1,.c .i),(5,.c (.lit (.osl 1001000 none))),(13,.c .i),(14,.c .i)],[.arr true .i],[]⟩
def yGa:zH:=⟨[(5,.c (.lit (.osl 1001000 none)))],[.arr true .i],[]⟩
def yB7 (f:Qp)(d:yBm.den):=f d.1.1.1 d.1.2.2.1.1 d.1.2.2.2.1.1 d.2.1
def Qq:qC:=⟨[yBm],[(.exit 0,yGa)],AC,fun k d=>yB7 (Ez k k) d,fun b x _ K=>K (.exit 0) (zP b yGa (((),()),(x,())))⟩
def qSe:qB:=⟨[],[(5,Qq)],[],false⟩
theorem yLw:zZ prog 1000 0 23 (zV (zX f44) 0) Qq:=lp (A:=qSe) Qq (fun d=>d.2.1) yB7 Ez zr (e1 JZ) zF
def yZq:=zK 44 [.c .i,.c .i] (.c (.own .i)) (fun k d=>uD k d.1 d.2.1) (fun x=>(x,()))
theorem vz:zB prog yZq:=fA (rs:=.c (.own .i)) f44 qSe (fun d=>d.1) (e1 JZ) (loops1 yLw)
def qRp:zH:=⟨[(0,.c .i),(1,.c .i),(5,.c (.lit (.osl 1001000 none))),(13,.c .i),(14,.c .i)],[.mat],[]⟩
def qQ9:zH:=⟨[(5,.c (.lit (.osl 1001000 none)))],[.mat],[]⟩
def qY5 (f:Qr)(d:qRp.den):=f d.1.1.1 d.1.2.1.1 d.1.2.2.2.1.1 d.1.2.2.2.2.1.1 d.2.1
def Qs:qC:=⟨[qRp],[(.exit 0,qQ9)],EQ,fun k d=>qY5 (EA k k) d,fun b x _ K=>K (.exit 0) (zP b qQ9 (((),()),(x,())))⟩
def yAw:qB:=⟨[11],[(5,Qs)],[],false⟩
theorem yS1:zZ prog 1000 0 25 (zV (zX f43) 0) Qs:=lp (A:=yAw) Qs (fun d=>d.2.1) qY5 EA zu (e2 JZ vz) zF
def yNf:=zK 43 [.c .i,.c .i] (.c (.mat)) (fun k d=>zt k d.1 d.2.1) (fun x=>(x,()))
theorem FZ:zB prog yNf:=fA (rs:=.c (.mat)) f43 yAw (fun d=>d.1) (e2 JZ vz) (loops1 yS1)
def qQ8:zH:=⟨[(1,.c (.lit (.ptr 1001000 0))),(2,.c (.lit (.ptr 1001001 0))),(3,.c .i),(4,.c (.lit (.ptr 1001002 0))),(20,.c (.dat false jA)),(21,.c .i),(22,.c .i)],[.box true sJ,.box true jy,.box true qU6,.arr true qZ,.mat,.arr true .i,.mat,.arr true .i],[(4,some 5,.i,false)]⟩
def yKz:zH:=⟨[(1,.c (.lit (.ptr 1001000 0))),(2,.c (.lit (.ptr 1001001 0))),(3,.c .i),(4,.c (.lit (.ptr 1001002 0)))],[.box true sJ,.box true jy,.box true qU6,.arr true qZ,.mat,.arr true .i,.mat,.arr true .i],[]⟩
def qRk (f:Qt)(d:qQ8.den):=f d.1.2.2.1.1 d.1.2.2.2.2.1.1 d.1.2.2.2.2.2.1.1 d.1.2.2.2.2.2.2.1.1 (wD d.2.1) (d.2.2.1.1,d.2.2.1.2.1,d.2.2.1.2.2.1) (d.2.2.2.1.1,d.2.2.2.1.2.1,d.2.2.2.1.2.2.1) d.2.2.2.2.1 d.2.2.2.2.2.1 d.2.2.2.2.2.2.1 d.2.2.2.2.2.2.2.1 d.2.2.2.2.2.2.2.2.1
def J0:qC:=⟨[qQ8],[(.exit 0,yKz)],Qu,fun k d=>qRk (Qv k k) d,fun b x _ K=>K (.exit 0) (zP b yKz (((),(),(x.1,()),(),()),((eN x.2.1 ()),(x.2.2.1.1,x.2.2.1.2.1,x.2.2.1.2.2,()),(x.2.2.2.1.1,x.2.2.2.1.2.1,x.2.2.2.1.2.2,()),x.2.2.2.2.1,x.2.2.2.2.2.1,x.2.2.2.2.2.2.1,x.2.2.2.2.2.2.2.1,x.2.2.2.2.2.2.2.2,())))⟩
def yEh:zH:=⟨[(1,.c (.lit (.ptr 1001000 0))),(2,.c (.lit (.ptr 1001001 0))),(4,.c (.lit (.ptr 1001002 0))),(34,.c .i),(35,.c .i)],[.box true sJ,.box true jy,.box true [.i,.lit (.osl 1001003 none),.lit (.osl 1001004 none),.lit (.osl 1001005 none),.lit (.osl 1001006 none),.lit (.osl 1001007 none),.lit (.osl 1001008 none),.lit .nsl,.lit .nsl,.i,.bool],.arr true qZ,.mat,.arr true .i,.mat,.arr true .i,.mat],[(4,some 6,(.sl .i),true)]⟩
def yHo:zH:=⟨[(2,.c (.lit (.ptr 1001000 0))),(4,.c (.lit (.ptr 1001001 0)))],[.box true jy,.box true [.i,.lit (.osl 1001002 none),.lit (.osl 1001003 none),.lit (.osl 1001004 none),.lit (.osl 1001005 none),.lit (.osl 1001006 none),.lit (.osl 1001007 none),.lit .nsl,.lit .nsl,.i,.bool],.arr true qZ,.mat,.arr true .i,.mat,.arr true .i,.mat],[]⟩
def yJz (f:Qw)(d:yEh.den):=f d.1.2.2.2.1.1 d.1.2.2.2.2.1.1 (wD d.2.1) (d.2.2.1.1,d.2.2.1.2.1,d.2.2.1.2.2.1) (d.2.2.2.1.1,d.2.2.2.1.2.1,d.2.2.2.1.2.2.1) d.2.2.2.2.1 d.2.2.2.2.2.1 d.2.2.2.2.2.2.1 d.2.2.2.2.2.2.2.1 d.2.2.2.2.2.2.2.2.1 d.2.2.2.2.2.2.2.2.2.1
def J1:qC:=⟨[yEh],[(.exit 2,yHo)],Qx,fun k d=>yJz (Qy k k) d,fun b x _ K=>K (.exit 2) (zP b yHo (((),(),()),((x.1.1,x.1.2.1,x.1.2.2,()),(x.2.1.1,x.2.1.2.1,x.2.1.2.2,()),x.2.2.1,x.2.2.2.1,x.2.2.2.2.1,x.2.2.2.2.2.1,x.2.2.2.2.2.2.1,x.2.2.2.2.2.2.2,())))⟩
def Qz:qB:=⟨[43,44],[(4,J0),(9,J1)],[],true⟩
theorem vH0:zZ prog 1000 0 48 (zV (zX f17) 0) J0:=lp (A:=Qz) J0 (fun d=>(d.1.2.2.1.1,(wD d.2.1),(d.2.2.1.1,d.2.2.1.2.1,d.2.2.1.2.2.1),(d.2.2.2.1.1,d.2.2.2.1.2.1,d.2.2.2.1.2.2.1),d.2.2.2.2.1,d.2.2.2.2.2.1,d.2.2.2.2.2.2.1,d.2.2.2.2.2.2.2.1,d.2.2.2.2.2.2.2.2.1)) qRk Qv qZb (e2 FZ vz) zF
theorem vGb:zZ prog 1000 0 48 (zV (zX f17) 1) J1:=lp (A:=Qz) J1 (fun d=>((d.2.1.1,d.2.1.2.1,d.2.1.2.2.1),(d.2.2.1.1,d.2.2.1.2.1,d.2.2.1.2.2.1),d.2.2.2.1,d.2.2.2.2.1,d.2.2.2.2.2.1,d.2.2.2.2.2.2.1,d.2.2.2.2.2.2.2.1,d.2.2.2.2.2.2.2.2.1)) yJz Qy yBx (e2 FZ vz) zF
def yW6:=zK 17 [.agg lE] (.agg J2) (fun k d=>iL k (wD d)) (fun x=>(eO x ()))
theorem J3:zB prog yW6:=fA (rs:=.agg J2) f17 Qz (fun d=>(vK d)) (e2 FZ vz) (rD (n:=2) (by kernel_rfl) fun i hi=>match i,hi with|0,_=>⟨J0,by kernel_rfl,vH0⟩|1,_=>⟨J1,by kernel_rfl,vGb⟩|i+2,hi=>absurd hi (by omega))
def vE8:=zK 41 [.c .bool] (.c .i) (fun k d=>H0 k d.1) (fun x=>(x,()))
theorem QA:zB prog vE8:=fA (rs:=.c .i) f41 n0 (fun d=>d.1) e0 zF
def yDp:zH:=⟨[(3,.c (.lit (.osl 1001000 none))),(5,.c .i),(6,.c .i),(11,.c (.dat false .i)),(12,.c .i),(13,.c .i)],[.arr true (.int .u8)],[]⟩
def qYh:zH:=⟨[(3,.c (.lit (.osl 1001000 none))),(11,.c (.dat false .i)),(12,.c .i),(13,.c .i)],[.arr true (.int .u8)],[]⟩
def qT4 (f:QB)(d:yDp.den):=f d.1.2.1.1 d.1.2.2.1.1 d.1.2.2.2.1.1 d.1.2.2.2.2.1.1 d.1.2.2.2.2.2.1.1 d.2.1
def QC:qC:=⟨[yDp],[(.exit 2,qYh)],QD,fun k d=>qT4 (rR k k) d,fun b x _ K=>K (.exit 2) (zP b qYh (((),(x.1,()),(x.2.1,()),(x.2.2.1,()),()),(x.2.2.2,())))⟩
def qZa:zH:=⟨[(3,.c (.lit (.osl 1001000 none))),(11,.c (.dat false .i)),(12,.c .i),(13,.c .i)],[.arr true (.int .u8)],[]⟩
def yGe:zH:=⟨[(3,.c (.lit (.osl 1001000 none)))],[.arr true (.int .u8)],[]⟩
def qX7 (f:QE)(d:qZa.den):=f d.1.2.1.1 d.1.2.2.1.1 d.1.2.2.2.1.1 d.2.1
def QF:qC:=⟨[qZa],[(.exit 0,yGe)],AC,fun k d=>qX7 (uv k k) d,fun b x _ K=>K (.exit 0) (zP b yGe (((),()),(x,())))⟩
def QG:qB:=⟨[],[(6,QC),(3,QF)],[],true⟩
theorem yPi:zZ prog 1000 0 31 (zV (zV (zX f66) 0) 0) QC:=lp (A:=QG) QC (fun d=>(d.1.2.1.1,d.1.2.2.1.1,d.1.2.2.2.1.1,d.2.1)) qT4 rR HX e0 zF
theorem yU5:zZ prog 1000 0 31 (zV (zX f66) 0) QF:=lp (A:=QG) QF (fun d=>d.2.1) qX7 uv yp e0 (loops1 yPi)
def vBh:=zK 66 [.c (.dat false .i)] (.c (.own (.int .u8))) (fun k d=>rS k d.1) (fun x=>(x,()))
theorem J4:zB prog vBh:=fA (rs:=.c (.own (.int .u8))) f66 QG (fun d=>d.1) e0 (loops1 yU5)
def yVw:=zK 75 [.c (.dat false .i)] (.c (.own (.int .u8))) (fun k d=>HY k d.1) (fun x=>(x,()))
theorem yFc:zB prog yVw:=fA (rs:=.c (.own (.int .u8))) f75 n0 (fun d=>d.1) (e1 J4) zF
def qVy:zH:=⟨[(3,.c (.lit (.osl 1001000 none))),(6,.c (.dat false (.sl .i))),(7,.c .i),(8,.c .i)],[.arr true (.int .u8)],[(3,none,(.int .u8),false)]⟩
def qSs:zH:=⟨[(3,.c (.lit (.osl 1001000 none)))],[.arr true (.int .u8)],[]⟩
def yBh (f:QH)(d:qVy.den):=f d.1.2.1.1 d.1.2.2.1.1 d.1.2.2.2.1.1 d.2.1
def QI:qC:=⟨[qVy],[(.exit 0,qSs)],AC,fun k d=>yBh (yq k k) d,fun b x _ K=>K (.exit 0) (zP b qSs (((),()),(x,())))⟩
def qUs:qB:=⟨[],[(3,QI)],[],true⟩
theorem yR9:zZ prog 1000 0 18 (zV (zX f42) 0) QI:=lp (A:=qUs) QI (fun d=>d.2.1) yBh yq yr (e1 yFc) zF
def vGe:=zK 42 [.c (.dat false (.sl .i))] (.c (.own (.int .u8))) (fun k d=>DY k d.1) (fun x=>(x,()))
theorem QJ:zB prog vGe:=fA (rs:=.c (.own (.int .u8))) f42 qUs (fun d=>d.1) (e1 yFc) (loops1 yR9)
def qZz:zH:=⟨[(1,.c (.lit (.ptr 1001000 0))),(3,.c (.lit (.ptr 1001001 0))),(4,.c (.lit (.osl 1001002 none))),(39,.c (.dat true qZ)),(40,.c .i),(41,.c .i)],[.box true jz,.box true eQ,.arr true (.sl .i)],[]⟩
def yK9:zH:=⟨[(1,.c (.lit (.ptr 1001000 0))),(3,.c (.lit (.ptr 1001001 0))),(4,.c (.lit (.osl 1001002 none)))],[.box true jz,.box true eQ,.arr true (.sl .i)],[]⟩
def qW4 (f:QK)(d:qZz.den):=f d.1.2.2.2.1.1 d.1.2.2.2.2.1.1 d.1.2.2.2.2.2.1.1 (vK d.2.1) (eT d.2.2.1) d.2.2.2.1
def J5:qC:=⟨[qZz],[(.exit 0,yK9)],QL,fun k d=>qW4 (uw k k) d,fun b x _ K=>K (.exit 0) (zP b yK9 (((),(),(),()),((eO x.1 ()),(eV x.2.1 ()),x.2.2,())))⟩
def qP1:zH:=⟨[(1,.c (.lit (.ptr 1001000 0))),(4,.c (.lit (.osl 1001001 none))),(79,.c (.dat true zJ)),(80,.c .i),(81,.c .i)],[.box true jz,.arr true (.sl .i)],[]⟩
def yDy:zH:=⟨[(1,.c (.lit (.ptr 1001000 0))),(4,.c (.lit (.osl 1001001 none)))],[.box true jz,.arr true (.sl .i)],[]⟩
def qXv (f:QM)(d:qP1.den):=f d.1.2.2.1.1 d.1.2.2.2.1.1 d.1.2.2.2.2.1.1 (vK d.2.1) d.2.2.1
def J6:qC:=⟨[qP1],[(.exit 2,yDy)],QN,fun k d=>qXv (ux k k) d,fun b x _ K=>K (.exit 2) (zP b yDy (((),(),()),((eO x.1 ()),x.2,())))⟩
def QO:qB:=⟨[],[(4,J5),(14,J6)],[],true⟩
theorem vHe:zZ prog 1000 0 110 (zV (zX f16) 0) J5:=lp (A:=QO) J5 (fun d=>((vK d.2.1),(eT d.2.2.1),d.2.2.2.1)) qW4 uw yt (e2 QA QJ) zF
theorem yWs:zZ prog 1000 0 110 (zV (zX f16) 1) J6:=lp (A:=QO) J6 (fun d=>((vK d.2.1),d.2.2.1)) qXv ux yu (e2 QA QJ) zF
def vF3:=zK 16 [.agg F0] (.c (.own (.int .u8))) (fun k d=>fh k (vK d)) (fun x=>(x,()))
theorem pL:zB prog vF3:=fA (rs:=.c (.own (.int .u8))) f16 QO (fun d=>d.1) (e2 QA QJ) (rD (n:=2) (by kernel_rfl) fun i hi=>match i,hi with|0,_=>⟨J5,by kernel_rfl,vHe⟩|1,_=>⟨J6,by kernel_rfl,yWs⟩|i+2,hi=>absurd hi (by omega))
def ySw:=zK 70 [.c (.dat false (.int .u8))] (.tup [(false,[.own (.int .u8)]),(false,[.bool])]) (fun k d=>DX k d.1) (fun x=>(x.1,x.2,()))
theorem qW8:zB prog ySw:=fA (rs:=.tup [(false,[.own (.int .u8)]),(false,[.bool])]) f70 n0 (fun d=>(d.1,d.2.1)) e0 zF
def vDc:=zK 71 [.ptr FX] (.c .i) (fun k d=>PW k (eP d)) (fun x=>(x,()))
theorem yWr:zB prog vDc:=fA (rs:=.c .i) f71 n0 (fun d=>d.1) e0 zF
def yMx:=zK 117 [.ptr FX] (.c .bool) (fun k d=>J7 k (eP d)) (fun x=>(x,()))
theorem QP:zB prog yMx:=fA (rs:=.c .bool) f117 n0 (fun d=>d.1) e0 zF
def vId:=yV 118 [.ptr true j0] (.c .bool) [vX] 0 (fun k d=>gz k (eP d)) (fun x=>(x.1,(fP x.2 ())))
theorem QQ:zB prog vId:=fX (rs:=.c .bool) (os:=[vX]) (ns:=0) f118 ⟨[],[],[(6,3)],true⟩ 1 (fun d=>(d.1,(BZ d))) e0 (Dn (n:=1) (by kernel_rfl) fun i hi=>match i,hi with|0,_=>.inr ⟨by kernel_rfl,zF⟩|i+1,hi=>absurd hi (by omega))
def yVv:=yV 72 [.ptr true j0,.c (.p .i)] (.c .i) [vX] 0 (fun k d=>JK k (eP d) d.2.2.2.2.2.2.2.2.2.2.1) (fun x=>(x.1,(fP x.2 ())))
theorem vAf:zB prog yVv:=fX (rs:=.c .i) (os:=[vX]) (ns:=0) f72 n0 1 (fun d=>(d.1,(BZ d))) (e3 QP Qf QQ) zF
def yVx:=yV 73 [.ptr true j0,.c (.p .i),.c (.p (.dat false (.int .u8)))] (.c .i) [vX] 0 (fun k d=>sE k (eP d) d.2.2.2.2.2.2.2.2.2.2.1 d.2.2.2.2.2.2.2.2.2.2.2.1) (fun x=>(x.1,(fP x.2 ())))
theorem yG1:zB prog yVx:=fX (rs:=.c .i) (os:=[vX]) (ns:=0) f73 n0 1 (fun d=>(d.1,(BZ d))) (e3 QP Qf QQ) zF
def yX7:=yV 74 [.ptr true j0] (.c .i) [vX] 0 (fun k d=>pI k (eP d)) (fun x=>(x.1,(fP x.2 ())))
theorem qYp:zB prog yX7:=fX (rs:=.c .i) (os:=[vX]) (ns:=0) f74 ⟨[],[],[(4,3)],true⟩ 1 (fun d=>(d.1,(BZ d))) (e2 QP QQ) (Dn (n:=1) (by kernel_rfl) fun i hi=>match i,hi with|0,_=>.inr ⟨by kernel_rfl,zF⟩|i+1,hi=>absurd hi (by omega))
def yNw:=yV 40 [.ptr true j0,.c (.p .i),.c (.p .i),.c (.p (.dat false (.int .u8)))] (.c .i) [vX] 0 (fun k d=>FN k (eP d) d.2.2.2.2.2.2.2.2.2.2.1 d.2.2.2.2.2.2.2.2.2.2.2.1 d.2.2.2.2.2.2.2.2.2.2.2.2.1) (fun x=>(x.1,(fP x.2 ())))
theorem qRf:zB prog yNw:=fX (rs:=.c .i) (os:=[vX]) (ns:=0) f40 n0 1 (fun d=>(d.1,(BZ d))) (e6 J4 qW8 yWr vAf yG1 qYp) zF
def yX2:=HM 15 [.ptr true j0,.c (.p (.dat false (.int .u8)))] (.tup [(false,[.link 1]),(false,lF),(false,nU),(false,qM)]) [vX,J8] 1 (.tup [(false,[.nilp]),(false,[.own (.int .u8)]),(false,[.own (.sl (.int .u8))]),(false,qM)]) [vX] 0 (fun k d=>vt k (eP d) d.2.2.2.2.2.2.2.2.2.2.1) (fun x=>((),x.1,x.2.1,x.2.2.1,(fP x.2.2.2.1 ((),(eV x.2.2.2.2 ()))))) (fun x=>((),x.1,x.2.1,x.2.2.1,(fP x.2.2.2 ())))
theorem yKg:zB prog yX2:=fN (rs:=.tup [(false,[.link 1]),(false,lF),(false,nU),(false,qM)]) (os:=[vX,J8]) (ns:=1) (rs2:=.tup [(false,[.nilp]),(false,[.own (.int .u8)]),(false,[.own (.sl (.int .u8))]),(false,qM)]) (os2:=[vX]) (ns2:=0) f15 n0 1 (fun d=>(d.2.1,d.2.2.1,d.2.2.2.1,(yDl d),(yL5 d))) (fun d=>(d.2.1,d.2.2.1,d.2.2.2.1,(yDl d))) (e2 Qo qRf) zF
def yQj:=zK 77 [.c (.dat true (.int .u8))] (.tup [(false,nT),(false,lF),(false,[.bool])]) (fun k d=>H2 k d.1) (fun x=>(x.1,x.2.1,x.2.2,()))
theorem ySa:zB prog yQj:=fA (rs:=.tup [(false,nT),(false,lF),(false,[.bool])]) f77 n0 (fun d=>(d.1,d.2.1,d.2.2.1)) (e1 FY) zF
def yTz:=yV 47 [.ptr true [.p (.dat true (.int .u8)),.p .bool]] (.c (.own .i)) [[.fro (.int .u8),.bool]] 0 (fun k d=>sG k (d.1,d.2.1)) (fun x=>(x.1,x.2.1,x.2.2,()))
theorem B1:zB prog yTz:=fX (rs:=.c (.own .i)) (os:=[[.fro (.int .u8),.bool]]) (ns:=0) f47 n0 1 (fun d=>(d.1,(d.2.1,d.2.2.1))) (e1 ySa) zF
def yZi:=yV 45 [.ptr true [.p (.dat true (.int .u8)),.p .bool],.c (.p .i)] (.c (.own .i)) [[.fro (.int .u8),.bool]] 0 (fun k d=>BO k (d.1,d.2.1) d.2.2.1) (fun x=>(x.1,x.2.1,x.2.2,()))
theorem QR:zB prog yZi:=fX (rs:=.c (.own .i)) (os:=[[.fro (.int .u8),.bool]]) (ns:=0) f45 n0 1 (fun d=>(d.1,(d.2.1,d.2.2.1))) (e1 B1) zF
def yFr:zH:=⟨[(0,.c (.lit (.ptr 1001000 0))),(1,.c .i),(5,.c (.lit (.osl 1001001 none)))],[.box true B2,.arr true (.sl .i)],[(5,none,(.sl .i),false)]⟩
def qX5:zH:=⟨[(0,.c (.lit (.ptr 1001000 0))),(5,.c (.lit (.osl 1001001 none)))],[.box true B2,.arr true (.sl .i)],[]⟩
def yFo (f:QS)(d:yFr.den):=f d.1.2.1.1 (d.2.1.1,d.2.1.2.1) d.2.2.1
def QT:qC:=⟨[yFr],[(.exit 0,qX5)],QU,fun k d=>yFo (FT k k) d,fun b x _ K=>K (.exit 0) (zP b qX5 (((),(),()),((x.1.1,x.1.2,()),x.2,())))⟩
def yD6:qB:=⟨[],[(2,QT)],[],true⟩
theorem vHz:zZ prog 1000 1 23 (zV (zX f46) 0) QT:=lp (A:=yD6) QT (fun d=>((d.2.1.1,d.2.1.2.1),d.2.2.1)) yFo FT JL (e1 B1) zF
def yWx:=yV 46 [.ptr true [.p (.dat true (.int .u8)),.p .bool],.c (.p .i)] (.c (.own (.sl .i))) [[.fro (.int .u8),.bool]] 0 (fun k d=>BP k (d.1,d.2.1) d.2.2.1) (fun x=>(x.1,x.2.1,x.2.2,()))
theorem QV:zB prog yWx:=fX (rs:=.c (.own (.sl .i))) (os:=[[.fro (.int .u8),.bool]]) (ns:=0) f46 yD6 1 (fun d=>(d.1,(d.2.1,d.2.2.1))) (e1 B1) (loops1 vHz)
def vHw:=zK 48 [.c (.dat false (.int .u8)),.c (.dat false (.int .u8))] (.c .bool) (fun k d=>P1 k d.1 d.2.1) (fun x=>(x,()))
theorem QW:zB prog vHw:=fA (rs:=.c .bool) f48 n0 (fun d=>d.1) e0 zF
def yG7:zH:=⟨[(0,.c (.dat true (.int .u8))),(2,.c (.lit (.ptr 1001000 0))),(4,.c (.lit (.ptr 1001001 0))),(5,.c (.lit (.osl 1001002 none))),(6,.c (.lit (.ptr 1001003 0))),(7,.c .i)],[.box true jy,.box true B2,.arr true .i,.box true qP9,.arr true qZ],[(6,some 1,qZ,false)]⟩
def qTc:zH:=⟨[(0,.c (.dat true (.int .u8))),(2,.c (.lit (.ptr 1001000 0))),(4,.c (.lit (.ptr 1001001 0))),(5,.c (.lit (.osl 1001002 none))),(6,.c (.lit (.ptr 1001003 0)))],[.box true jy,.box true B2,.arr true .i,.box true qP9,.arr true qZ],[]⟩
def qW5 (f:QX)(d:yG7.den):=f d.1.1.1 d.1.2.2.2.2.2.1.1 (d.2.1.1,d.2.1.2.1,d.2.1.2.2.1) (d.2.2.1.1,d.2.2.1.2.1) d.2.2.2.1 (d.2.2.2.2.1.1,d.2.2.2.2.1.2.1,d.2.2.2.2.1.2.2.1) d.2.2.2.2.2.1
def J9:qC:=⟨[yG7],[(.exit 0,qTc)],QY,fun k d=>qW5 (BQ k k) d,fun b x _ K=>K (.exit 0) (zP b qTc (((x.1,()),(),(),(),(),()),((x.2.1.1,x.2.1.2.1,x.2.1.2.2,()),(x.2.2.1.1,x.2.2.1.2,()),x.2.2.2.1,(x.2.2.2.2.1.1,x.2.2.2.2.1.2.1,x.2.2.2.2.1.2.2,()),x.2.2.2.2.2,())))⟩
def yK8:zH:=⟨[(0,.c (.dat true (.int .u8))),(2,.c (.lit (.ptr 1001000 0))),(4,.c (.lit (.ptr 1001001 0))),(6,.c (.lit (.ptr 1001002 0))),(9,.c .i)],[.box true jy,.box true B2,.box true yI6,.arr true qZ,.arr true (.sl .i),.arr true .i,.arr true (.sl .i),.arr true .i,.arr true (.sl .i),.arr true zJ],[(6,some 7,zJ,false)]⟩
def yK7:zH:=⟨[(0,.c (.dat true (.int .u8))),(2,.c (.lit (.ptr 1001000 0))),(4,.c (.lit (.ptr 1001001 0))),(6,.c (.lit (.ptr 1001002 0)))],[.box true jy,.box true B2,.box true yI6,.arr true qZ,.arr true (.sl .i),.arr true .i,.arr true (.sl .i),.arr true .i,.arr true (.sl .i),.arr true zJ],[]⟩
def qSw (f:QZ)(d:yK8.den):=f d.1.1.1 d.1.2.2.2.2.1.1 (d.2.1.1,d.2.1.2.1,d.2.1.2.2.1) (d.2.2.1.1,d.2.2.1.2.1) (d.2.2.2.1.1,d.2.2.2.1.2.1,d.2.2.2.1.2.2.1) d.2.2.2.2.1 d.2.2.2.2.2.1 d.2.2.2.2.2.2.1 d.2.2.2.2.2.2.2.1 d.2.2.2.2.2.2.2.2.1 d.2.2.2.2.2.2.2.2.2.1 d.2.2.2.2.2.2.2.2.2.2.1
def Ka:qC:=⟨[yK8],[(.exit 2,yK7)],Q0,fun k d=>qSw (BR k k) d,fun b x _ K=>K (.exit 2) (zP b yK7 (((x.1,()),(),(),(),()),((x.2.1.1,x.2.1.2.1,x.2.1.2.2,()),(x.2.2.1.1,x.2.2.1.2,()),(x.2.2.2.1.1,x.2.2.2.1.2.1,x.2.2.2.1.2.2,()),x.2.2.2.2.1,x.2.2.2.2.2.1,x.2.2.2.2.2.2.1,x.2.2.2.2.2.2.2.1,x.2.2.2.2.2.2.2.2.1,x.2.2.2.2.2.2.2.2.2.1,x.2.2.2.2.2.2.2.2.2.2,())))⟩
def Q1:qB:=⟨[],[(5,J9),(15,Ka)],[],true⟩
theorem yNi:zZ prog 1000 0 146 (zV (zX f18) 0) J9:=lp (A:=Q1) J9 (fun d=>(d.1.1.1,(d.2.1.1,d.2.1.2.1,d.2.1.2.2.1),(d.2.2.1.1,d.2.2.1.2.1),d.2.2.2.1,(d.2.2.2.2.1.1,d.2.2.2.2.1.2.1,d.2.2.2.2.1.2.2.1),d.2.2.2.2.2.1)) qW5 BQ JM (e5 QR QV B1 pL QW) zF
theorem yPm:zZ prog 1000 0 146 (zV (zX f18) 1) Ka:=lp (A:=Q1) Ka (fun d=>(d.1.1.1,(d.2.1.1,d.2.1.2.1,d.2.1.2.2.1),(d.2.2.1.1,d.2.2.1.2.1),(d.2.2.2.1.1,d.2.2.2.1.2.1,d.2.2.2.1.2.2.1),d.2.2.2.2.1,d.2.2.2.2.2.1,d.2.2.2.2.2.2.1,d.2.2.2.2.2.2.2.1,d.2.2.2.2.2.2.2.2.1,d.2.2.2.2.2.2.2.2.2.1,d.2.2.2.2.2.2.2.2.2.2.1)) qSw BR JN (e5 QR QV B1 pL QW) zF
def yUt:=zK 18 [.c (.dat true (.int .u8))] (.tup [(true,nV),(false,[.bool])]) (fun k d=>vu k d.1) (fun x=>(eO x.1 (x.2,())))
theorem Kb:zB prog yUt:=fA (rs:=.tup [(true,nV),(false,[.bool])]) f18 Q1 (fun d=>((vK d),d.2.2.2.2.2.2.2.2.2.2.2.1)) (e5 QR QV B1 pL QW) (rD (n:=2) (by kernel_rfl) fun i hi=>match i,hi with|0,_=>⟨J9,by kernel_rfl,yNi⟩|1,_=>⟨Ka,by kernel_rfl,yPm⟩|i+2,hi=>absurd hi (by omega))
def yQw:=zK 63 [.c .i] (.c .i) (fun k d=>rQ k d.1) (fun x=>(x,()))
theorem Kc:zB prog yQw:=fA (rs:=.c .i) f63 n0 (fun d=>d.1) e0 zF
def yR1:=zK 24 [.c (.dat false (.int .u8))] (.tup [(true,lG),(false,qM)]) (fun k d=>uu k d.1) (fun x=>(kE x.1 (x.2,())))
theorem Q2:zB prog yR1:=fA (rs:=.tup [(true,lG),(false,qM)]) f24 n0 (fun d=>((dI d),d.2.2.2.2.2.2.2.1)) (e2 FY Kc) zF
def yL7:=zK 20 [.c (.dat false (.int .u8))] (.tup [(true,Ke),(false,qM)]) (fun k d=>pG k d.1) (fun x=>(F1 x.1 (x.2,())))
theorem Kf:zB prog yL7:=fA (rs:=.tup [(true,Ke),(false,qM)]) f20 n0 (fun d=>((pM d),d.2.2.2.2.2.2.2.2.1)) (e2 FY Q2) zF
def vBg:=zK 97 [.c .i] (.c .bool) (fun k d=>Jr k d.1) (fun x=>(x,()))
theorem yX6:zB prog vBg:=fA (rs:=.c .bool) f97 n0 (fun d=>d.1) e0 zF
def ySq:=zK 98 [.c .i] (.c .bool) (fun k d=>Fk k d.1) (fun x=>(x,()))
theorem vG9:zB prog ySq:=fA (rs:=.c .bool) f98 n0 (fun d=>d.1) e0 zF
def yEj:zH:=⟨[(13,.c (.dat true .i)),(14,.c .i),(15,.c .i)],[],[]⟩
def yAj:zH:=⟨[],[],[]⟩
def qRd:zH:=⟨[(2,.c .bool)],[],[]⟩
def qTb (f:Q3)(d:yEj.den):=f d.1.1.1 d.1.2.1.1 d.1.2.2.1.1
def Q4:qC:=⟨[yEj],[(.exit 0,yAj),(.ret,qRd)],(Unit⊕Bool),fun k d=>qTb (mr k k) d,fun b x _ K=>match x with|.inl x=>K (.exit 0) (zP b yAj ((),()))|.inr x=>K .ret (zP b qRd (((x,()),()),()))⟩
def qRx:qB:=⟨[],[(5,Q4)],[],true⟩
theorem yQd:zZ prog 1000 0 22 (zV (zX f99) 0) Q4:=lp (A:=qRx) Q4 (fun d=>match d with|.inl d=>.inl ()|.inr d=>.inr d.1.1.1) qTb mr lA (e1 Kc) zF
def yV8:=zK 99 [.agg wC] (.c .bool) (fun k d=>kC k (dI d)) (fun x=>(x,()))
theorem yFd:zB prog yV8:=fA (rs:=.c .bool) f99 qRx (fun d=>d.1) (e1 Kc) (loops1 yQd)
def yR4:=zK 56 [.agg lE,.agg nW,.agg Q5] (.c .i) (fun k d=>Br k (wD d) (nR d) (qP3 d)) (fun x=>(x,()))
theorem vA1:zB prog yR4:=fA (rs:=.c .i) f56 n0 (fun d=>d.1) (e3 yX6 vG9 yFd) zF
def yVj:=zK 127 [.agg wC,.ptr [.i]] (.c .bool) (fun k d=>(mA (Pq k) d)) (fun x=>(x,()))
theorem yAv:zB prog yVj:=fA (rs:=.c .bool) f127 ⟨[],[],[],false⟩ (fun d=>d.1) e0 zF
def qZd:zH:=⟨[(1,.c (.lit (.fn 127 [1001000]))),(5,.c (.lit (.osl 1001001 none))),(8,.c (.dat false zJ)),(9,.c .i),(10,.c .i)],[.robox [.i],.arr true zJ],[(5,none,zJ,false)]⟩
def yDw:zH:=⟨[(5,.c (.lit (.osl 1001000 none)))],[.arr true zJ],[]⟩
def yI5 (f:Q6)(d:qZd.den):=f d.1.2.2.1.1 d.1.2.2.2.1.1 d.1.2.2.2.2.1.1 d.2.1.1 d.2.2.1
def Q7:qC:=⟨[qZd],[(.exit 0,yDw)],Q8,fun k d=>yI5 (E9 k k) d,fun b x _ K=>K (.exit 0) (zP b yDw (((),()),(x,())))⟩
def yIn:qB:=⟨[],[(3,Q7)],[],false⟩
theorem yLq:zZ prog 1000 0 23 (zV (zX f126) 0) Q7:=lp (A:=yIn) Q7 (fun d=>d.2.1) yI5 E9 A7 (e1 yAv) zF
def vIl:=zK 126 [.c (.dat false zJ),.fn 127 [[.i]]] (.c (.own zJ)) (fun k d=>Pp k d.1 d.2.1) (fun x=>(x,()))
theorem yZ2:zB prog vIl:=fA (rs:=.c (.own zJ)) f126 yIn (fun d=>d.1) (e1 yAv) (loops1 yLq)
def vF2:=zK 100 [.c (.dat false zJ),.c .i] (.c (.own zJ)) (fun k d=>E8 k d.1 d.2.1) (fun x=>(x,()))
theorem F2:zB prog vF2:=fA (rs:=.c (.own zJ)) f100 ⟨[],[],[],false⟩ (fun d=>d.1) (e1 yZ2) zF
def vFg:=yV 58 [.ptr true [.p .i,.p (.nil),.p .i,.p .i,.p .i,.p .i,.p (.nil),.p (.nil),.p (.nil),.p (.nil),.p (.nil),.p (.nil),.p (.nil),.p (.nil),.p .i,.p .bool,.p .i,.p (.nil)],.c (.p .i),.c (.p (.dat false .i))] (.tup []) [qWa] 0 (fun k d=>yLh k (d.1,(Q9 d (d.2.2.2.2.2.2.2.2.2.2.2.2.2.2.1,d.2.2.2.2.2.2.2.2.2.2.2.2.2.2.2.1,d.2.2.2.2.2.2.2.2.2.2.2.2.2.2.2.2.1))) d.2.2.2.2.2.2.2.2.2.2.2.2.2.2.2.2.2.2.1 d.2.2.2.2.2.2.2.2.2.2.2.2.2.2.2.2.2.2.2.1) (fun x=>(wW x ()))
theorem vDr:zB prog vFg:=fX (rs:=.tup []) (os:=[qWa]) (ns:=0) f58 n0 1 (fun d=>(jR d)) e0 zF
def vIh:=zK 57 [.agg nW,.c .i] (.c (.own yR)) (fun k d=>Fy k (vK d) d.2.2.2.2.2.2.2.2.2.2.2.1) (fun x=>(x,()))
theorem vE3:zB prog vIh:=fA (rs:=.c (.own yR)) f57 n0 (fun d=>d.1) (e2 F2 vDr) zF
def vE9:=yV 58 [.ptr true sK,.c (.p .i),.c (.p (.dat false .i))] (.tup []) [wA] 0 (fun k d=>JE k (gV d) d.2.2.2.2.2.2.2.2.2.2.2.2.2.2.2.2.2.2.1 d.2.2.2.2.2.2.2.2.2.2.2.2.2.2.2.2.2.2.2.1) (fun x=>(wW x ()))
theorem qQw:zB prog vE9:=fX (rs:=.tup []) (os:=[wA]) (ns:=0) f58 n0 1 (fun d=>(jR d)) e0 zF
def yNj:=zK 49 [.c .i,.c .i,.c .i] (.c .bool) (fun k d=>yP k d.1 d.2.1 d.2.2.1) (fun x=>(x,()))
theorem eW:zB prog yNj:=fA (rs:=.c .bool) f49 n0 (fun d=>d.1) e0 zF
def yXz:=zK 173 [.agg lE,.c .i] (.c .bool) (fun k d=>Fh k (wD d) d.2.2.2.2.2.1) (fun x=>(x,()))
theorem vHd:zB prog yXz:=fA (rs:=.c .bool) f173 n0 (fun d=>d.1) e0 zF
def yUq:=zK 154 [.agg lE,.c .i,.agg wC] (.c .bool) (fun k d=>Jn k (wD d) d.2.2.2.2.2.1 (qYi d)) (fun x=>(x,()))
theorem yQ9:zB prog yUq:=fA (rs:=.c .bool) f154 n0 (fun d=>d.1) (e1 vHd) zF
def yTf:=zK 133 [.agg lE,.c .i,.c .i] (.c .i) (fun k d=>u6 k (wD d) d.2.2.2.2.2.1 d.2.2.2.2.2.2.1) (fun x=>(x,()))
theorem Ra:zB prog yTf:=fA (rs:=.c .i) f133 n0 (fun d=>d.1) e0 zF
def yWy:=zK 128 [.agg lE,.c .i,.agg wC] (.c .i) (fun k d=>Bo k (wD d) d.2.2.2.2.2.1 (qYi d)) (fun x=>(x,()))
theorem yEk:zB prog yWy:=fA (rs:=.c .i) f128 n0 (fun d=>d.1) (e2 yQ9 Ra) zF
def yYx:=zK 171 [.c .i] (.c .bool) (fun k d=>IV k d.1) (fun x=>(x,()))
theorem vHx:zB prog yYx:=fA (rs:=.c .bool) f171 n0 (fun d=>d.1) e0 zF
def yVh:=zK 150 [.c .i,.c .i] (.c .bool) (fun k d=>IU k d.1 d.2.1) (fun x=>(x,()))
theorem yIt:zB prog yVh:=fA (rs:=.c .bool) f150 n0 (fun d=>d.1) (e1 vHx) zF
def ySy:=zK 151 [.c .i] (.c .bool) (fun k d=>IX k d.1) (fun x=>(x,()))
theorem yAk:zB prog ySy:=fA (rs:=.c .bool) f151 n0 (fun d=>d.1) e0 zF
def yCr:zH:=⟨[(0,.c (.dat false .i)),(1,.c .i),(6,.c .i),(7,.c .i),(8,.c .i)],[],[]⟩
def yIq:zH:=⟨[(0,.c (.dat false .i)),(1,.c .i),(6,.c .i),(7,.c .i)],[],[]⟩
def qWg (f:Rb)(d:yCr.den):=f d.1.1.1 d.1.2.1.1 d.1.2.2.1.1 d.1.2.2.2.1.1 d.1.2.2.2.2.1.1
def Rc:qC:=⟨[yCr],[(.exit 0,yIq)],Re,fun k d=>qWg (EW k k) d,fun b x _ K=>K (.exit 0) (zP b yIq (((x.1,()),(x.2.1,()),(x.2.2.1,()),(x.2.2.2,()),()),()))⟩
def qQj:qB:=⟨[],[(3,Rc)],[],true⟩
theorem yQv:zZ prog 1000 0 54 (zV (zX f123) 0) Rc:=lp (A:=qQj) Rc (fun d=>(d.1.1.1,d.1.2.1.1,d.1.2.2.1.1,d.1.2.2.2.1.1)) qWg EW IW (e2 yIt yAk) zF
def yT7:=zK 123 [.c (.dat false .i),.c .i] (.tup [(false,qM),(false,[.bool])]) (fun k d=>AL k d.1 d.2.1) (fun x=>(x.1,x.2,()))
theorem yJa:zB prog yT7:=fA (rs:=.tup [(false,qM),(false,[.bool])]) f123 qQj (fun d=>(d.1,d.2.1)) (e2 yIt yAk) (loops1 yQv)
def yOi:=rN 156 false .i (.own .i) me
theorem F3:zB prog yOi:=fC f156 ⟨[],[],[],false⟩ e0 zF
theorem vFf (A X:Option Addr)(n c vc:Nat)(w w':World)(rv:Value)(hr:(Builtin.append_ #[36,36] 36 #[.slice A n c,.slice X 1 vc]).run prog w=.ok rv w'):
    Calls prog 155 #[.slice A n c,.int .i64 n,.slice X 1 vc] w fun e kZ=>e=.returned rv∧kZ=w':=by
  have t0:prog.underlying 36=some (.slice 2):=by kernel_rfl
  have t3:prog.underlying 3=some (.int .i64):=by kernel_rfl
  have z0:∀w,(Go.sizeOf 2).run prog w=.ok 1 w:=fun w=>by kernel_rfl
  have u0:=run_underlying t0;have u3:=run_underlying t3
  go_enter Proofs.Tryz.func155,Proofs.Tryz.ntmps155
  go_wp2_with (at_builtin;refine Lib.wpList_append_run _ rfl _ _ _ _ rfl _ _ rfl rfl _ _ hr ?_)
  all_goals (go_ret;exact⟨rfl,rfl⟩)
theorem vE6:HN prog 155 36 3 1 where
  ends:=vFf
  grow B off n c i X vo vc N G w w1 w2 w3 hi hnc aH Rf hG hz hA hB:=by
    simp only[Nat.mul_one] at hA hB
    have t0:prog.underlying 36=some (.slice 2):=by kernel_rfl
    have t3:prog.underlying 3=some (.int .i64):=by kernel_rfl
    have z0:∀w,(Go.sizeOf 2).run prog w=.ok 1 w:=fun w=>by kernel_rfl
    have u0:=run_underlying t0;have u3:=run_underlying t3
    have mixed:prog.follows .mixedOrders=true:=fm
    have Rg:¬((i:Int)=(n:Int)):=by omega
    have Ds:IntKind.i64.wrap ((i:Int)+1)=(i:Int)+1:=by rw[IntKind.wrap_i64];omega
    have dA:(0:Int)≤(i:Int)+1:=by omega
    have eE:i≤n:=by omega
    have dW:((i:Int)+1).toNat=i+1:=by omega
    have Rh:¬(c=i):=by omega
    have hz3:(c:Int)<(n:Int)+1:=by omega
    have Ri:(i:Int)≤(n:Int):=by omega
    have hGi:¬(G=i):=by omega
    have Rj:¬(G=i+1):=by omega
    go_enter Proofs.Tryz.func155,Proofs.Tryz.ntmps155
    go_wp2_with (first
      |(at_builtin;refine Lib.wpList_append_run _ rfl _ _ _ _ rfl _ _ rfl rfl _ _ hz ?_)
      |(at_builtin;refine HR _ rfl _ _ 36 36 rfl _ _ rfl rfl (hA _) ?_))
    go_region_law_o (refine HS rfl _ _ 36 36 rfl (.slice (some ⟨N,(i+1),none⟩) (n+1-(i+1)) (G-(i+1))) (.slice (some ⟨B,off+i,none⟩) (n-i) (c-i)) (by simp[Act.eval,Act.put]) (by simp[Act.eval,Act.put]) (hB (G-(i+1)) (c-i)) ?_)
    go_wp2
    go_ret
    exact⟨rfl,rfl⟩
  shift B off n c i X vo vc w w1 w2 hi aH Rf nh hA hB:=by
    simp only[Nat.mul_one] at hA hB
    have t0:prog.underlying 36=some (.slice 2):=by kernel_rfl
    have t3:prog.underlying 3=some (.int .i64):=by kernel_rfl
    have z0:∀w,(Go.sizeOf 2).run prog w=.ok 1 w:=fun w=>by kernel_rfl
    have u0:=run_underlying t0;have u3:=run_underlying t3
    have mixed:prog.follows .mixedOrders=true:=fm
    have Rg:¬((i:Int)=(n:Int)):=by omega
    have Ds:IntKind.i64.wrap ((i:Int)+1)=(i:Int)+1:=by rw[IntKind.wrap_i64];omega
    have dA:(0:Int)≤(i:Int)+1:=by omega
    have eE:i≤n:=by omega
    have dW:((i:Int)+1).toNat=i+1:=by omega
    have Rh:¬(c=i):=by omega
    have Fz:=fun lb cb=>Y3 (P:=prog) (fo:=174) (tb:=4) (e:=2) (size:=1) Proofs.Tryz.func174 (by kernel_rfl) (by kernel_rfl) (by kernel_rfl) (by kernel_rfl) t0 z0 nh vo (off+(i+1)) vc lb cb
    have hb2:¬(c=i+1):=by omega
    have Ri:(i:Int)≤(n:Int)+1:=by omega
    go_enter Proofs.Tryz.func155,Proofs.Tryz.ntmps155
    go_wp2_with (simp only[Fz])
    go_region_law_o (refine HS rfl _ _ 36 36 rfl (.slice (some ⟨B,off+(i+1),none⟩) (n-i) (c-(i+1))) (.slice (some ⟨B,off+i,none⟩) (n+1-i) (c-i)) (by simp[Act.eval,Act.put]) (by simp[Act.eval,Act.put]) (hA _ _) ?_)
    go_wp2_with (at_builtin;refine HR _ rfl _ _ 36 36 rfl _ _ rfl rfl (hB _) ?_)
    go_ret
    exact⟨rfl,rfl⟩
def vEr:Nat×kp:=(155,NM .i 8)
theorem yVd:zB prog vEr:=Zc (e:=2) (fn:=f155) vE6
def vGz:=zK 129 [.c (.dat true .i),.c .i] (.tup [(false,[.fro .i]),(false,qM)]) (fun k d=>AM k d.1 d.2.1) (fun x=>(x.1,x.2,()))
theorem qYc:zB prog vGz:=fA (rs:=.tup [(false,[.fro .i]),(false,qM)]) f129 n0 (fun d=>(d.1,d.2.1)) (e3 yJa F3 yVd) zF
def vDq:=zK 114 [.agg wC,.ptr [.i]] (.c .bool) (fun k d=>(mA (OT k) d)) (fun x=>(x,()))
theorem yI9:zB prog vDq:=fA (rs:=.c .bool) f114 ⟨[],[],[],false⟩ (fun d=>d.1) e0 zF
def yCh:zH:=⟨[(0,.c (.dat false zJ)),(1,.c (.lit (.fn 114 [1001000]))),(7,.c .i),(8,.c .i)],[.robox [.i]],[]⟩
def qUe:zH:=⟨[],[],[]⟩
def yJi:zH:=⟨[(4,.c .i)],[],[]⟩
def yCf (f:Rk)(d:yCh.den):=f d.1.1.1 d.1.2.2.1.1 d.1.2.2.2.1.1 d.2.1.1
def Rl:qC:=⟨[yCh],[(.exit 0,qUe),(.ret,yJi)],(Unit⊕Int),fun k d=>yCf (AB k k) d,fun b x _ K=>match x with|.inl x=>K (.exit 0) (zP b qUe ((),()))|.inr x=>K .ret (zP b yJi (((x,()),()),()))⟩
def yEv:qB:=⟨[],[(2,Rl)],[],false⟩
theorem yZm:zZ prog 1000 0 19 (zV (zX f113) 0) Rl:=lp (A:=yEv) Rl (fun d=>match d with|.inl d=>.inl ()|.inr d=>.inr d.1.1.1) yCf AB AE (e1 yI9) zF
def yRr:=zK 113 [.c (.dat false zJ),.fn 114 [[.i]]] (.c .i) (fun k d=>OU k d.1 d.2.1) (fun x=>(x,()))
theorem yTe:zB prog yRr:=fA (rs:=.c .i) f113 yEv (fun d=>d.1) (e1 yI9) (loops1 yZm)
def yRh:=zK 62 [.c (.dat false zJ),.c .i] (.c .i) (fun k d=>lh k d.1 d.2.1) (fun x=>(x,()))
theorem sL:zB prog yRh:=fA (rs:=.c .i) f62 ⟨[],[],[],false⟩ (fun d=>d.1) (e1 yTe) zF
def yXj:=zK 172 [.c .i] (.c .bool) (fun k d=>IP k d.1) (fun x=>(x,()))
theorem yY1:zB prog yXj:=fA (rs:=.c .bool) f172 ⟨[],[],[],false⟩ (fun d=>d.1) e0 zF
def vEh:=zK 153 [.c .i,.c .i] (.c .i) (fun k d=>EP k d.1 d.2.1) (fun x=>(x,()))
theorem yS9:zB prog vEh:=fA (rs:=.c .i) f153 ⟨[],[],[],false⟩ (fun d=>d.1) (e1 yY1) zF
def qYu:zH:=⟨[(3,.c .i),(6,.c (.dat false .i)),(7,.c .i),(8,.c .i)],[],[]⟩
def qS5:zH:=⟨[(3,.c .i)],[],[]⟩
def qU3:zH:=⟨[(2,.c .i)],[],[]⟩
def qWj (f:Rm)(d:qYu.den):=f d.1.1.1 d.1.2.1.1 d.1.2.2.1.1 d.1.2.2.2.1.1
def Rn:qC:=⟨[qYu],[(.exit 0,qS5),(.ret,qU3)],(Int⊕Int),fun k d=>qWj (EO k k) d,fun b x _ K=>match x with|.inl x=>K (.exit 0) (zP b qS5 (((x,()),()),()))|.inr x=>K .ret (zP b qU3 (((x,()),()),()))⟩
def qTa:qB:=⟨[],[(3,Rn)],[],false⟩
theorem yRs:zZ prog 1000 0 18 (zV (zX f152) 0) Rn:=lp (A:=qTa) Rn (fun d=>match d with|.inl d=>.inl d.1.1.1|.inr d=>.inr d.1.1.1) qWj EO qQv e0 zF
def vBm:=zK 152 [.c (.dat false .i)] (.c .i) (fun k d=>IN k d.1) (fun x=>(x,()))
theorem yOp:zB prog vBm:=fA (rs:=.c .i) f152 qTa (fun d=>d.1) e0 (loops1 yRs)
def vH4:=zK 125 [.agg wC,.agg wC] (.c .i) (fun k d=>(F4 (AF k) d)) (fun x=>(x,()))
theorem B3:zB prog vH4:=fA (rs:=.c .i) f125 ⟨[],[],[],false⟩ (fun d=>d.1) (e2 yS9 yOp) zF
def yWv:=rN 158 false zJ (.own zJ) sd
theorem Kg:zB prog yWv:=fC f158 ⟨[],[],[],false⟩ e0 zF
theorem yXk (A X:Option Addr)(n c vc:Nat)(w w':World)(rv:Value)(hr:(Builtin.append_ #[39,39] 39 #[.slice A n c,.slice X 1 vc]).run prog w=.ok rv w'):
    Calls prog 157 #[.slice A n c,.int .i64 n,.slice X 1 vc] w fun e kZ=>e=.returned rv∧kZ=w':=by
  have t0:prog.underlying 39=some (.slice 109):=by kernel_rfl
  have t3:prog.underlying 3=some (.int .i64):=by kernel_rfl
  have z0:∀w,(Go.sizeOf 109).run prog w=.ok 7 w:=fun w=>by kernel_rfl
  have u0:=run_underlying t0;have u3:=run_underlying t3
  go_enter Proofs.Tryz.func157,Proofs.Tryz.ntmps157
  go_wp2_with (at_builtin;refine Lib.wpList_append_run _ rfl _ _ _ _ rfl _ _ rfl rfl _ _ hr ?_)
  all_goals (go_ret;exact⟨rfl,rfl⟩)
theorem yZ8:HN prog 157 39 3 7 where
  ends:=yXk
  grow B off n c i X vo vc N G w w1 w2 w3 hi hnc aH Rf hG hz hA hB:=by
    have t0:prog.underlying 39=some (.slice 109):=by kernel_rfl
    have t3:prog.underlying 3=some (.int .i64):=by kernel_rfl
    have z0:∀w,(Go.sizeOf 109).run prog w=.ok 7 w:=fun w=>by kernel_rfl
    have u0:=run_underlying t0;have u3:=run_underlying t3
    have mixed:prog.follows .mixedOrders=true:=fm
    have Rg:¬((i:Int)=(n:Int)):=by omega
    have Ds:IntKind.i64.wrap ((i:Int)+1)=(i:Int)+1:=by rw[IntKind.wrap_i64];omega
    have dA:(0:Int)≤(i:Int)+1:=by omega
    have eE:i≤n:=by omega
    have dW:((i:Int)+1).toNat=i+1:=by omega
    have Rh:¬(c=i):=by omega
    have hz3:(c:Int)<(n:Int)+1:=by omega
    have Ri:(i:Int)≤(n:Int):=by omega
    have hGi:¬(G=i):=by omega
    have Rj:¬(G=i+1):=by omega
    go_enter Proofs.Tryz.func157,Proofs.Tryz.ntmps157
    go_wp2_with (first
      |(at_builtin;refine Lib.wpList_append_run _ rfl _ _ _ _ rfl _ _ rfl rfl _ _ hz ?_)
      |(at_builtin;refine HR _ rfl _ _ 39 39 rfl _ _ rfl rfl (hA _) ?_))
    go_region_law_o (refine HS rfl _ _ 39 39 rfl (.slice (some ⟨N,(i+1)*7,none⟩) (n+1-(i+1)) (G-(i+1))) (.slice (some ⟨B,off+i*7,none⟩) (n-i) (c-i)) (by simp[Act.eval,Act.put]) (by simp[Act.eval,Act.put]) (hB (G-(i+1)) (c-i)) ?_)
    go_wp2
    go_ret
    exact⟨rfl,rfl⟩
  shift B off n c i X vo vc w w1 w2 hi aH Rf nh hA hB:=by
    have t0:prog.underlying 39=some (.slice 109):=by kernel_rfl
    have t3:prog.underlying 3=some (.int .i64):=by kernel_rfl
    have z0:∀w,(Go.sizeOf 109).run prog w=.ok 7 w:=fun w=>by kernel_rfl
    have u0:=run_underlying t0;have u3:=run_underlying t3
    have mixed:prog.follows .mixedOrders=true:=fm
    have Rg:¬((i:Int)=(n:Int)):=by omega
    have Ds:IntKind.i64.wrap ((i:Int)+1)=(i:Int)+1:=by rw[IntKind.wrap_i64];omega
    have dA:(0:Int)≤(i:Int)+1:=by omega
    have eE:i≤n:=by omega
    have dW:((i:Int)+1).toNat=i+1:=by omega
    have Rh:¬(c=i):=by omega
    have Fz:=fun lb cb=>Y3 (P:=prog) (fo:=176) (tb:=4) (e:=109) (size:=7) Proofs.Tryz.func176 (by kernel_rfl) (by kernel_rfl) (by kernel_rfl) (by kernel_rfl) t0 z0 nh vo (off+(i+1)*7) vc lb cb
    have hb2:¬(c=i+1):=by omega
    have Ri:(i:Int)≤(n:Int)+1:=by omega
    go_enter Proofs.Tryz.func157,Proofs.Tryz.ntmps157
    go_wp2_with (simp only[Fz])
    go_region_law_o (refine HS rfl _ _ 39 39 rfl (.slice (some ⟨B,off+(i+1)*7,none⟩) (n-i) (c-(i+1))) (.slice (some ⟨B,off+i*7,none⟩) (n+1-i) (c-i)) (by simp[Act.eval,Act.put]) (by simp[Act.eval,Act.put]) (hA _ _) ?_)
    go_wp2_with (at_builtin;refine HR _ rfl _ _ 39 39 rfl _ _ rfl rfl (hB _) ?_)
    go_ret
    exact⟨rfl,rfl⟩
def vG1:Nat×kp:=(157,NM zJ 56)
theorem Kh:zB prog vG1:=Zc (e:=109) (fn:=f157) yZ8
def yFw:zH:=⟨[(0,.c (.dat true zJ)),(3,.c (.lit (.ptr 1001000 0))),(6,.c .i)],[.box true iN],[]⟩
def yDu:zH:=⟨[(0,.c (.dat true zJ)),(3,.c (.lit (.ptr 1001000 0))),(6,.c .i)],[.box true iN],[]⟩
def yIv (f:Ro)(d:yFw.den):=f d.1.1.1 d.1.2.2.1.1 (dI d.2.1)
def Rp:qC:=⟨[yFw],[(.exit 1,yDu)],Rq,fun k d=>yIv (ES k k) d,fun b x _ K=>K (.exit 1) (zP b yDu (((x.1,()),(),(x.2.1,()),()),((kE x.2.2 ()),())))⟩
def yD0:qB:=⟨[],[(6,Rp)],[],true⟩
theorem yVr:zZ prog 1000 0 40 (zV (zX f130) 0) Rp:=lp (A:=yD0) Rp (fun d=>(d.1.1.1,d.1.2.2.1.1,(dI d.2.1))) yIv ES AG (e4 sL B3 Kg Kh) zF
def yZ5:=zK 130 [.c (.dat true zJ),.agg wC] (.tup [(false,[.fro zJ]),(false,qM)]) (fun k d=>se k d.1 (Rr d)) (fun x=>(x.1,x.2,()))
theorem Ki:zB prog yZ5:=fA (rs:=.tup [(false,[.fro zJ]),(false,qM)]) f130 yD0 (fun d=>(d.1,d.2.1)) (e4 sL B3 Kg Kh) (loops1 yVr)
def vIa:=yV 101 [.ptr true sM,.agg [.i,.i,.i,.i,.i,.i]] (.c .i) [wA] 0 (fun k d=>Jo k (jR d) (qT6 d)) (fun x=>(x.1,(wW x.2 ())))
theorem yM8:zB prog vIa:=fX (rs:=.c .i) (os:=[wA]) (ns:=0) f101 n0 1 (fun d=>(d.1,(fQ d))) (e4 eW yEk qYc Ki) zF
def yV7:=zK 131 [.ptr Rs,.c .i] (.tup [(true,lG),(false,qM)]) (fun k d=>Rt k (jR d) d.2.2.2.2.2.2.2.2.2.2.2.2.2.2.2.2.2.2.1) (fun x=>(kE x.1 (x.2,())))
theorem qP2:zB prog yV7:=fA (rs:=.tup [(true,lG),(false,qM)]) f131 n0 (fun d=>((dI d),d.2.2.2.2.2.2.2.1)) (e1 sL) zF
def vCk:=yV 159 [.c (.own zJ),.c (.p .i),.c (.p .i)] (.c (.own zJ)) [] 0 (fun k d=>EN k d.1 d.2.1 d.2.2.1) (fun x=>(x,()))
theorem yHp:zB prog vCk:=fX (rs:=.c (.own zJ)) (os:=[]) (ns:=0) f159 ⟨[],[],[],false⟩ 0 (fun d=>d.1) e0 zF
def yU6:=zK 132 [.c (.dat true zJ),.c .i] (.tup [(false,[.fro zJ]),(true,lG),(false,qM)]) (fun k d=>mj k d.1 d.2.1) (fun x=>(Ru x ()))
theorem mB:zB prog yU6:=fA (rs:=.tup [(false,[.fro zJ]),(true,lG),(false,qM)]) f132 ⟨[],[],[],false⟩ (fun d=>(Rv d)) (e3 sL Kg yHp) zF
def vEc:=yV 58 [.ptr true sM,.c (.p .i),.c (.p (.dat false .i))] (.tup []) [wA] 0 (fun k d=>sA k (jR d) d.2.2.2.2.2.2.2.2.2.2.2.2.2.2.2.2.2.2.1 d.2.2.2.2.2.2.2.2.2.2.2.2.2.2.2.2.2.2.2.1) (fun x=>(wW x ()))
theorem qRe:zB prog vEc:=fX (rs:=.tup []) (os:=[wA]) (ns:=0) f58 n0 1 (fun d=>(jR d)) e0 zF
def yOq:=zK 134 [.c (.dat true zJ),.c .i,.c .i] (.tup [(false,[.fro zJ]),(false,qM)]) (fun k d=>AH k d.1 d.2.1 d.2.2.1) (fun x=>(x.1,x.2,()))
theorem yG2:zB prog yOq:=fA (rs:=.tup [(false,[.fro zJ]),(false,qM)]) f134 n0 (fun d=>(d.1,d.2.1)) (e2 mB Ki) zF
def vIg:=zK 132 [.c (.dat false zJ),.c .i] (.tup [(false,[.own zJ]),(true,lG),(false,qM)]) (fun k d=>O2 k d.1 d.2.1) (fun x=>(Ru x ()))
theorem yCw:zB prog vIg:=fA (rs:=.tup [(false,[.own zJ]),(true,lG),(false,qM)]) f132 ⟨[],[],[],false⟩ (fun d=>(Rv d)) (e3 sL Kg yHp) zF
def qYx:zH:=⟨[(6,.c (.lit (.osl 1001000 none))),(7,.c (.lit (.ptr 1001001 0))),(9,.c .i)],[.arr true zJ,.box true iN],[]⟩
def yHx:zH:=⟨[(6,.c (.lit (.osl 1001000 none))),(7,.c (.lit (.ptr 1001001 0))),(9,.c .i)],[.arr true zJ,.box true iN],[]⟩
def yKp (f:Rw)(d:qYx.den):=f d.1.2.2.1.1 d.2.1 (dI d.2.2.1)
def Rx:qC:=⟨[qYx],[(.exit 0,yHx)],Ry,fun k d=>yKp (EV k k) d,fun b x _ K=>K (.exit 0) (zP b yHx (((),(),(x.1,()),()),(x.2.1,(kE x.2.2 ()),())))⟩
def yHg:qB:=⟨[],[(5,Rx)],[],true⟩
theorem yOt:zZ prog 1000 0 41 (zV (zX f135) 0) Rx:=lp (A:=yHg) Rx (fun d=>(d.1.2.2.1.1,d.2.1,(dI d.2.2.1))) yKp EV AJ (e3 yCw B3 Kh) zF
def yQ6:=zK 135 [.c (.dat true zJ),.c .i] (.tup [(false,[.fro zJ]),(false,qM)]) (fun k d=>AK k d.1 d.2.1) (fun x=>(x.1,x.2,()))
theorem qTo:zB prog yQ6:=fA (rs:=.tup [(false,[.fro zJ]),(false,qM)]) f135 yHg (fun d=>(d.1,d.2.1)) (e3 yCw B3 Kh) (loops1 yOt)
def vHs:=zK 136 [.c (.dat true zJ),.c .i] (.tup [(false,[.fro zJ]),(false,qM)]) (fun k d=>AI k d.1 d.2.1) (fun x=>(x.1,x.2,()))
theorem qZr:zB prog vHs:=fA (rs:=.tup [(false,[.fro zJ]),(false,qM)]) f136 n0 (fun d=>(d.1,d.2.1)) (e2 mB Ki) zF
def yZj:=yV 102 [.ptr true sM,.agg wC] (.c .i) [wA] 0 (fun k d=>u9 k (jR d) (B4 d)) (fun x=>(x.1,(wW x.2 ())))
theorem yXm:zB prog yZj:=fX (rs:=.c .i) (os:=[wA]) (ns:=0) f102 n0 1 (fun d=>(d.1,(fQ d))) (e8 qP2 mB qRe eW Ra yG2 qTo qZr) zF
def yNq:=rN 160 false qZ (.own qZ) Oc
theorem yUk:zB prog yNq:=fC f160 ⟨[],[],[],false⟩ e0 zF
def vAv:=rN 140 true (.sl .i) (.jun) Oa
theorem yHc:zB prog vAv:=fC f140 ⟨[],[],[],false⟩ e0 zF
def qXy:zH:=⟨[(3,.c (.lit (.osl 1001000 none))),(8,.c (.dat true (.sl .i))),(9,.c .i),(10,.c .i)],[.pmat],[]⟩
def yE2:zH:=⟨[(3,.c (.lit (.osl 1001000 none)))],[.pmat],[]⟩
def qVe (f:Rz)(d:qXy.den):=f d.1.2.1.1 d.1.2.2.1.1 d.1.2.2.2.1.1 d.2.1.1 d.2.1.2
def RA:qC:=⟨[qXy],[(.exit 0,yE2)],(EQ×Nat),fun k d=>qVe (Ef k k) d,fun b x _ K=>K (.exit 0) (zP b yE2 (((),()),((x.1,x.2),())))⟩
def qX8:qB:=⟨[],[(3,RA)],[],false⟩
theorem vEd:zZ prog 1000 0 22 (zV (zX f161) 0) RA:=lp (A:=qX8) RA (fun d=>d.2.1) qVe Ef zc (e2 yHc F3) zF
def vB7:=zK 161 [.c (.dat true (.sl .i))] (.c (.mat)) (fun k d=>Eg k d.1) (fun x=>(x,()))
theorem yUw:zB prog vB7:=fA (rs:=.c (.mat)) f161 qX8 (fun d=>d.1) (e2 yHc F3) (loops1 vEd)
def yXp:=zK 137 [.agg [.dat false qZ,.dat true (.sl .i),.dat false .i,.dat true (.sl .i)]] (.agg [.own qZ,.mat,.own .i,.mat]) (fun k d=>(jW (dG k) d)) (fun x=>(eV x ()))
theorem lH:zB prog yXp:=fA (rs:=.agg [.own qZ,.mat,.own .i,.mat]) f137 ⟨[],[],[],false⟩ (fun d=>(eT d)) (e3 yUk yUw F3) zF
def yUh:=zK 138 [.ptr Rs,.c .i] (.c .bool) (fun k d=>RB k (jR d) d.2.2.2.2.2.2.2.2.2.2.2.2.2.2.2.2.2.2.1) (fun x=>(x,()))
theorem qV9:zB prog yUh:=fA (rs:=.c .bool) f138 n0 (fun d=>d.1) (e1 eW) zF
def yQm:=yV 103 [.ptr true sM,.agg wC] (.c .i) [wA] 0 (fun k d=>vd k (jR d) (B4 d)) (fun x=>(x.1,(wW x.2 ())))
theorem yMj:zB prog yQm:=fX (rs:=.c .i) (os:=[wA]) (ns:=0) f103 n0 1 (fun d=>(d.1,(fQ d))) (e3 lH qV9 eW) zF
def vBt:=zK 139 [.ptr Rs,.c .i] (.c .bool) (fun k d=>F5 k (jR d) d.2.2.2.2.2.2.2.2.2.2.2.2.2.2.2.2.2.2.1) (fun x=>(x,()))
theorem B5:zB prog vBt:=fA (rs:=.c .bool) f139 n0 (fun d=>d.1) (e1 eW) zF
def vAk:=rN 140 true (.sl .i) (.own (.sl .i)) Bq
theorem yJ0:zB prog vAk:=fC f140 ⟨[],[],[],false⟩ e0 zF
def vHt:=zK 141 [.c (.dat false .i),.c .i,.c .i] (.c (.own .i)) (fun k d=>mo k d.1 d.2.1 d.2.2.1) (fun x=>(x,()))
theorem B6:zB prog vHt:=fA (rs:=.c (.own .i)) f141 n0 (fun d=>d.1) (e1 F3) zF
def yVm:=zK 147 [.c .i] (.c .bool) (fun k d=>O6 k d.1) (fun x=>(x,()))
theorem yXi:zB prog yVm:=fA (rs:=.c .bool) f147 n0 (fun d=>d.1) e0 zF
def vGf:=zK 148 [.c (.int .u64),.c (.int .u64)] (.tup [(false,[.int .u64]),(false,[.int .u64])]) (fun k d=>EX k d.1 d.2.1) (fun x=>(x.1,x.2,()))
theorem vCi:zB prog vGf:=fA (rs:=.tup [(false,[.int .u64]),(false,[.int .u64])]) f148 n0 (fun d=>(d.1,d.2.1)) e0 zF
def vEs:=zK 187 [.c (.int .u64)] (.c .i) (fun k d=>qP7 k d.1) (fun x=>(x,()))
theorem yZs:zB prog vEs:=fA (rs:=.c .i) f187 n0 (fun d=>d.1) e0 zF
def yPl:=zK 170 [.c (.int .u64)] (.c .i) (fun k d=>yFl k d.1) (fun x=>(x,()))
theorem RD:zB prog yPl:=fA (rs:=.c .i) f170 n0 (fun d=>d.1) (e1 yZs) zF
def yDt:zH:=⟨[(2,.c (.int .u64)),(8,.c (.int .u64)),(9,.c (.int .u64)),(10,.c (.int .u64)),(11,.c (.int .u64)),(13,.c (.int .u64)),(14,.c (.int .u64)),(15,.c (.int .u64)),(16,.c (.int .u64))],[],[]⟩
def qUg:zH:=⟨[(2,.c (.int .u64)),(8,.c (.int .u64)),(9,.c (.int .u64)),(10,.c (.int .u64)),(11,.c (.int .u64)),(13,.c (.int .u64)),(14,.c (.int .u64)),(15,.c (.int .u64))],[],[]⟩
def yCe (f:RE)(d:yDt.den):=f d.1.1.1 d.1.2.1.1 d.1.2.2.1.1 d.1.2.2.2.1.1 d.1.2.2.2.2.1.1 d.1.2.2.2.2.2.1.1 d.1.2.2.2.2.2.2.1.1 d.1.2.2.2.2.2.2.2.1.1 d.1.2.2.2.2.2.2.2.2.1.1
def Kj:qC:=⟨[yDt],[(.exit 0,qUg)],RF,fun k d=>yCe (RG k k) d,fun b x _ K=>K (.exit 0) (zP b qUg (((x.1,()),(x.2.1,()),(x.2.2.1,()),(x.2.2.2.1,()),(x.2.2.2.2.1,()),(x.2.2.2.2.2.1,()),(x.2.2.2.2.2.2.1,()),(x.2.2.2.2.2.2.2,()),()),()))⟩
def qVu:zH:=⟨[(2,.c (.int .u64)),(8,.c (.int .u64)),(9,.c (.int .u64)),(10,.c (.int .u64)),(14,.c (.int .u64)),(15,.c (.int .u64)),(16,.c (.int .u64)),(17,.c (.int .u64)),(18,.c (.int .u64))],[],[]⟩
def yDj:zH:=⟨[(2,.c (.int .u64)),(8,.c (.int .u64)),(14,.c (.int .u64)),(15,.c (.int .u64)),(17,.c (.int .u64)),(18,.c (.int .u64))],[],[]⟩
def qPu (f:RH)(d:qVu.den):=f d.1.1.1 d.1.2.1.1 d.1.2.2.1.1 d.1.2.2.2.1.1 d.1.2.2.2.2.1.1 d.1.2.2.2.2.2.1.1 d.1.2.2.2.2.2.2.1.1 d.1.2.2.2.2.2.2.2.1.1 d.1.2.2.2.2.2.2.2.2.1.1
def Kk:qC:=⟨[qVu],[(.exit 2,yDj)],RI,fun k d=>qPu (RJ k k) d,fun b x _ K=>K (.exit 2) (zP b yDj (((x.1,()),(x.2.1,()),(x.2.2.1,()),(x.2.2.2.1,()),(x.2.2.2.2.1,()),(x.2.2.2.2.2,()),()),()))⟩
def RK:qB:=⟨[],[(17,Kj),(24,Kk)],[],true⟩
theorem vD9:zZ prog 1000 0 135 (zV (zX f149) 0) Kj:=lp (A:=RK) Kj (fun d=>(d.1.1.1,d.1.2.1.1,d.1.2.2.1.1,d.1.2.2.2.1.1,d.1.2.2.2.2.1.1,d.1.2.2.2.2.2.1.1,d.1.2.2.2.2.2.2.1.1,d.1.2.2.2.2.2.2.2.1.1)) yCe RG yHb (e1 RD) zF
theorem yV5:zZ prog 1000 0 135 (zV (zX f149) 1) Kk:=lp (A:=RK) Kk (fun d=>(d.1.1.1,d.1.2.1.1,d.1.2.2.1.1,d.1.2.2.2.1.1,d.1.2.2.2.2.1.1,d.1.2.2.2.2.2.1.1)) qPu RJ yG5 (e1 RD) zF
def yU9:=zK 149 [.c (.int .u64),.c (.int .u64),.c (.int .u64)] (.tup [(false,[.int .u64]),(false,[.int .u64])]) (fun k d=>I1 k d.1 d.2.1 d.2.2.1) (fun x=>(x.1,x.2,()))
theorem yTo:zB prog yU9:=fA (rs:=.tup [(false,[.int .u64]),(false,[.int .u64])]) f149 RK (fun d=>(d.1,d.2.1)) (e1 RD) (rD (n:=2) (by kernel_rfl) fun i hi=>match i,hi with|0,_=>⟨Kj,by kernel_rfl,vD9⟩|1,_=>⟨Kk,by kernel_rfl,yV5⟩|i+2,hi=>absurd hi (by omega))
def yTa:=(96,HL)
theorem RM:zB prog yTa:=yNt (fn:=f96)
def vIe:=zK 122 [.c .i,.c .i,.c .i] (.tup [(false,qM),(false,[.bool])]) (fun k d=>I2 k d.1 d.2.1 d.2.2.1) (fun x=>(x.1,x.2,()))
theorem yHv:zB prog vIe:=fA (rs:=.tup [(false,qM),(false,[.bool])]) f122 n0 (fun d=>(d.1,d.2.1)) (e4 yXi vCi yTo RM) zF
def yHn:zH:=⟨[(4,.c .i),(5,.c (.int .u64)),(9,.c (.dat false .i)),(10,.c .i),(11,.c .i)],[],[]⟩
def qXd:zH:=⟨[(4,.c .i),(5,.c (.int .u64))],[],[]⟩
def qPt (f:RN)(d:yHn.den):=f d.1.1.1 d.1.2.1.1 d.1.2.2.1.1 d.1.2.2.2.1.1 d.1.2.2.2.2.1.1
def RO:qC:=⟨[yHn],[(.exit 0,qXd)],wQ,fun k d=>qPt (AO k k) d,fun b x _ K=>K (.exit 0) (zP b qXd (((x.1,()),(x.2,()),()),()))⟩
def yGm:qB:=⟨[],[(4,RO)],[],false⟩
theorem vEp:zZ prog 1000 0 37 (zV (zX f53) 0) RO:=lp (A:=yGm) RO (fun d=>(d.1.1.1,d.1.2.1.1)) qPt AO AP (e1 RM) zF
def vIi:=zK 53 [.c (.dat false .i)] (.tup [(false,qM),(false,[.bool])]) (fun k d=>AN k d.1) (fun x=>(x.1,x.2,()))
theorem Kl:zB prog vIi:=fA (rs:=.tup [(false,qM),(false,[.bool])]) f53 yGm (fun d=>(d.1,d.2.1)) (e1 RM) (loops1 vEp)
def qW1:zH:=⟨[(1,.c (.dat false .i)),(2,.c (.dat false .i)),(8,.c (.lit (.osl 1001000 none))),(25,.c (.dat false jA)),(26,.c .i),(27,.c .i)],[.arr true .i],[(8,none,.i,false)]⟩
def yDh:zH:=⟨[(8,.c (.lit (.osl 1001000 none)))],[.arr true .i],[]⟩
def qVn:zH:=⟨[(6,.c .i),(7,.c .bool)],[],[]⟩
def yEi (f:RP)(d:qW1.den):=f d.1.1.1 d.1.2.1.1 d.1.2.2.2.1.1 d.1.2.2.2.2.1.1 d.1.2.2.2.2.2.1.1 d.2.1
def RQ:qC:=⟨[qW1],[(.exit 0,yDh),(.ret,qVn)],(AC⊕(Int×Bool)),fun k d=>yEi (AR k k) d,fun b x _ K=>match x with|.inl x=>K (.exit 0) (zP b yDh (((),()),(x,())))|.inr x=>K .ret (zP b qVn (((x.1,()),(x.2,()),()),()))⟩
def qZf:qB:=⟨[],[(5,RQ)],[],true⟩
theorem yMa:zZ prog 1000 0 57 (zV (zX f88) 0) RQ:=lp (A:=qZf) RQ (fun d=>match d with|.inl d=>.inl d.2.1|.inr d=>.inr (d.1.1.1,d.1.2.1.1)) yEi AR AT (e2 yHv Kl) zF
def vCs:=zK 88 [.c (.dat false jA),.c (.dat false .i),.c (.dat false .i)] (.tup [(false,qM),(false,[.bool])]) (fun k d=>nI k d.1 d.2.1 d.2.2.1) (fun x=>(x.1,x.2,()))
theorem sN:zB prog vCs:=fA (rs:=.tup [(false,qM),(false,[.bool])]) f88 qZf (fun d=>(d.1,d.2.1)) (e2 yHv Kl) (loops1 yMa)
def vHi:=yV 104 [.ptr true sM,.c (.p .i),.c (.p .i)] (.c .i) [wA] 0 (fun k d=>Jp k (jR d) d.2.2.2.2.2.2.2.2.2.2.2.2.2.2.2.2.2.2.1 d.2.2.2.2.2.2.2.2.2.2.2.2.2.2.2.2.2.2.2.1) (fun x=>(x.1,(wW x.2 ())))
theorem vHg:zB prog vHi:=fX (rs:=.c .i) (os:=[wA]) (ns:=0) f104 n0 1 (fun d=>(d.1,(fQ d))) (e6 B5 eW yJ0 B6 sN lH) zF
def yNh:=zK 178 [.c .i,.c .i] (.tup [(false,qM),(false,[.bool])]) (fun k d=>Jq k d.1 d.2.1) (fun x=>(x.1,x.2,()))
theorem vDp:zB prog yNh:=fA (rs:=.tup [(false,qM),(false,[.bool])]) f178 ⟨[],[],[],false⟩ (fun d=>(d.1,d.2.1)) e0 zF
def vAp:=zK 79 [.agg nX] (.c .bool) (fun k d=>H3 k d.1 d.2.1 d.2.2.1) (fun x=>(x,()))
theorem qYs:zB prog vAp:=fA (rs:=.c .bool) f79 ⟨[],[],[],false⟩ (fun d=>d.1) e0 zF
def yS3:=zK 162 [.agg nX,.c .i] (.tup [(true,B7),(false,qM)]) (fun k d=>Fj k (d.1,d.2.1,d.2.2.1) d.2.2.2.1) (fun x=>(x.1.1,x.1.2.1,x.1.2.2,x.2,()))
theorem qQb:zB prog yS3:=fA (rs:=.tup [(true,B7),(false,qM)]) f162 n0 (fun d=>((d.1,d.2.1,d.2.2.1),d.2.2.2.1)) (e2 vDp qYs) zF
def yP0:=zK 142 [.agg nX,.c .i] (.tup [(true,B7),(false,qM)]) (fun k d=>Bw k (d.1,d.2.1,d.2.2.1) d.2.2.2.1) (fun x=>(x.1.1,x.1.2.1,x.1.2.2,x.2,()))
theorem yFk:zB prog yP0:=fA (rs:=.tup [(true,B7),(false,qM)]) f142 n0 (fun d=>((d.1,d.2.1,d.2.2.1),d.2.2.2.1)) (e1 qQb) zF
def yMi:=zK 163 [.agg nX,.c .i] (.c .i) (fun k d=>(jW (rV k) d)) (fun x=>(x,()))
theorem Km:zB prog yMi:=fA (rs:=.c .i) f163 ⟨[],[],[],false⟩ (fun d=>d.1) e0 zF
def vC1:=zK 143 [.agg nX,.c .i,.c .i] (.tup [(true,B7),(false,qM)]) (fun k d=>Bx k (d.1,d.2.1,d.2.2.1) d.2.2.2.1 d.2.2.2.2.1) (fun x=>(x.1.1,x.1.2.1,x.1.2.2,x.2,()))
theorem yI1:zB prog vC1:=fA (rs:=.tup [(true,B7),(false,qM)]) f143 n0 (fun d=>((d.1,d.2.1,d.2.2.1),d.2.2.2.1)) (e2 qQb Km) zF
def yMz:=zK 144 [.agg nX,.c .i] (.c .i) (fun k d=>By k (d.1,d.2.1,d.2.2.1) d.2.2.2.1) (fun x=>(x,()))
theorem yD1:zB prog yMz:=fA (rs:=.c .i) f144 n0 (fun d=>d.1) e0 zF
def yPt:=yV 105 [.ptr true sM,.c (.p .i),.c (.p .i),.c (.p .i)] (.c .i) [wA] 0 (fun k d=>RR k (jR d) d.2.2.2.2.2.2.2.2.2.2.2.2.2.2.2.2.2.2.1 d.2.2.2.2.2.2.2.2.2.2.2.2.2.2.2.2.2.2.2.1 d.2.2.2.2.2.2.2.2.2.2.2.2.2.2.2.2.2.2.2.2.1) (fun x=>(x.1,(wW x.2 ())))
theorem vFd:zB prog yPt:=fX (rs:=.c .i) (os:=[wA]) (ns:=0) f105 n0 1 (fun d=>(d.1,(fQ d))) (e5 eW yFk yI1 yD1 lH) zF
def qSv:zH:=⟨[(0,.c (.lit (.ptr 1001000 0))),(7,.c (.lit (.osl 1001002 none))),(8,.c (.lit (.ptr 1001003 0))),(40,.c (.dat true (.sl .i))),(41,.c .i),(42,.c .i)],[.box true RT,.arr true yR,.arr true .i,.box true qZ4,.arr true qZ,.mat,.arr true .i,.mat],[]⟩
def yK4:zH:=⟨[(0,.c (.lit (.ptr 1001000 0))),(7,.c (.lit (.osl 1001002 none))),(8,.c (.lit (.ptr 1001003 0)))],[.box true RT,.arr true yR,.arr true .i,.box true qZ4,.arr true qZ,.mat,.arr true .i,.mat],[]⟩
def yKk:zH:=⟨[(0,.c (.lit (.ptr 1001000 0))),(6,.c .i)],[.box true RT,.arr true yR],[]⟩
def qWp (f:RU)(d:qSv.den):=f d.1.2.2.2.1.1 d.1.2.2.2.2.1.1 d.1.2.2.2.2.2.1.1 (gV d.2.1) d.2.2.1 d.2.2.2.1 d.2.2.2.2.2.1 d.2.2.2.2.2.2.1 d.2.2.2.2.2.2.2.1 d.2.2.2.2.2.2.2.2.1
def RV:qC:=⟨[qSv],[(.exit 0,yK4),(.ret,yKk)],RW,fun k d=>qWp (RX k k) d,fun b x _ K=>match x with|.inl x=>K (.exit 0) (zP b yK4 (((),(),(),()),((yX x.1 ()),x.2.1,x.2.2.1,(),x.2.2.2.1,x.2.2.2.2.1,x.2.2.2.2.2.1,x.2.2.2.2.2.2,())))|.inr x=>K .ret (zP b yKk (((),(x.1,()),()),((yX x.2.1 ()),x.2.2,())))⟩
def yJm:qB:=⟨[],[(6,RV)],[],true⟩
theorem ySt:zZ prog 1000 1 81 (zV (zX f106) 0) RV:=lp (A:=yJm) RV (fun d=>match d with|.inl d=>.inl ((gV d.2.1),d.2.2.1,d.2.2.2.1,d.2.2.2.2.2.1,d.2.2.2.2.2.2.1,d.2.2.2.2.2.2.2.1,d.2.2.2.2.2.2.2.2.1)|.inr d=>.inr (d.1.2.1.1,(gV d.2.1),d.2.2.1)) qWp RX qTd (e5 B5 eW B6 lH sN) zF
def yWa:=yV 106 [.ptr true sM,.c (.p .i),.c (.p .i)] (.c .i) [wA] 0 (fun k d=>yLb k (jR d) d.2.2.2.2.2.2.2.2.2.2.2.2.2.2.2.2.2.2.1 d.2.2.2.2.2.2.2.2.2.2.2.2.2.2.2.2.2.2.2.1) (fun x=>(x.1,(wW x.2 ())))
theorem yL6:zB prog yWa:=fX (rs:=.c .i) (os:=[wA]) (ns:=0) f106 yJm 1 (fun d=>(d.1,(fQ d))) (e5 B5 eW B6 lH sN) (loops1 ySt)
def yO3:=yV 59 [.ptr true sM,.agg wC] (.c .i) [wA] 0 (fun k d=>JB k (jR d) (B4 d)) (fun x=>(x.1,(wW x.2 ())))
theorem ySf:zB prog yO3:=fX (rs:=.c .i) (os:=[wA]) (ns:=0) f59 n0 1 (fun d=>(d.1,(fQ d))) (e6 yM8 yXm yMj vHg vFd yL6) zF
def yLt:=zK 54 [.agg lE,.c .i] (.c .bool) (fun k d=>(nY (Bm k) d)) (fun x=>(x,()))
theorem Kn:zB prog yLt:=fA (rs:=.c .bool) f54 ⟨[],[],[],false⟩ (fun d=>d.1) e0 zF
def yTh:=zK 109 [.c .i,.c .i,.c (.dat false .i)] (.agg Ke) (fun k d=>mq k d.1 d.2.1 d.2.2.1) (fun x=>(F1 x ()))
theorem sO:zB prog yTh:=fA (rs:=.agg Ke) f109 ⟨[],[],[],false⟩ (fun d=>(pM d)) e0 zF
def qRh:zH:=⟨[(1,.c (.lit (.ptr 1001000 0))),(2,.c (.lit (.ptr 1001001 0))),(4,.c (.lit (.osl 1001002 none))),(10,.c (.dat true zJ)),(11,.c .i),(12,.c .i)],[.box true jz,.box true jy,.arr true yR],[(4,none,yR,false)]⟩
def qZ6:zH:=⟨[(1,.c (.lit (.ptr 1001000 0))),(2,.c (.lit (.ptr 1001001 0))),(4,.c (.lit (.osl 1001002 none)))],[.box true jz,.box true jy,.arr true yR],[]⟩
def qPy (f:RY)(d:qRh.den):=(pN (f d.1.2.2.2.1.1 d.1.2.2.2.2.1.1 d.1.2.2.2.2.2.1.1) d.2.1) d.2.2.1.1 d.2.2.1.2.1 d.2.2.1.2.2.1 d.2.2.2.1
def Ko:qC:=⟨[qRh],[(.exit 0,qZ6)],RZ,fun k d=>qPy (Bg k k) d,fun b x _ K=>K (.exit 0) (zP b qZ6 (((),(),(),()),((sP x ()),(x.2.2.2.2.2.2.2.2.2.2.2.1,x.2.2.2.2.2.2.2.2.2.2.2.2.1,x.2.2.2.2.2.2.2.2.2.2.2.2.2.1,()),x.2.2.2.2.2.2.2.2.2.2.2.2.2.2,())))⟩
def qQ0:zH:=⟨[(1,.c (.lit (.ptr 1001000 0))),(2,.c (.lit (.ptr 1001001 0))),(4,.c (.lit (.osl 1001002 none))),(28,.c (.dat true qZ)),(29,.c .i),(30,.c .i)],[.box true jz,.box true jy,.arr true yR],[]⟩
def yFy:zH:=⟨[(1,.c (.lit (.ptr 1001000 0))),(2,.c (.lit (.ptr 1001001 0))),(4,.c (.lit (.osl 1001002 none)))],[.box true jz,.box true jy,.arr true yR],[]⟩
def yC1 (f:R0)(d:qQ0.den):=(pN (f d.1.2.2.2.1.1 d.1.2.2.2.2.1.1 d.1.2.2.2.2.2.1.1) d.2.1) d.2.2.1.1 d.2.2.1.2.1 d.2.2.1.2.2.1 d.2.2.2.1
def Kp:qC:=⟨[qQ0],[(.exit 2,yFy)],R1,fun k d=>yC1 (Bi k k) d,fun b x _ K=>K (.exit 2) (zP b yFy (((),(),(),()),((sP x ()),(x.2.2.2.2.2.2.2.2.2.2.2.1,x.2.2.2.2.2.2.2.2.2.2.2.2.1,x.2.2.2.2.2.2.2.2.2.2.2.2.2.1,()),x.2.2.2.2.2.2.2.2.2.2.2.2.2.2,())))⟩
def R2:qB:=⟨[],[(3,Ko),(8,Kp)],[],false⟩
theorem yTs:zZ prog 1000 0 48 (zV (zX f107) 0) Ko:=lp (A:=R2) Ko (fun d=>(sP d.2.1 (d.2.2.1.1,d.2.2.1.2.1,d.2.2.1.2.2.1,d.2.2.2.1))) qPy Bg Bh (e1 sO) zF
theorem vEb:zZ prog 1000 0 48 (zV (zX f107) 1) Kp:=lp (A:=R2) Kp (fun d=>(sP d.2.1 (d.2.2.1.1,d.2.2.1.2.1,d.2.2.1.2.2.1,d.2.2.2.1))) yC1 Bi Bj (e1 sO) zF
def yYj:=zK 107 [.agg F0] (.tup [(true,yDx),(false,[.own yR])]) (fun k d=>(pN (Jl k) d)) (fun x=>(F6 x ()))
theorem qYt:zB prog yYj:=fA (rs:=.tup [(true,yDx),(false,[.own yR])]) f107 R2 (fun d=>(F7 d)) (e1 sO) (rD (n:=2) (by kernel_rfl) fun i hi=>match i,hi with|0,_=>⟨Ko,by kernel_rfl,yTs⟩|1,_=>⟨Kp,by kernel_rfl,vEb⟩|i+2,hi=>absurd hi (by omega))
def yWh:=zK 108 [.agg wC,.c .i] (.c .bool) (fun k d=>(mA (Ps k) d)) (fun x=>(x,()))
theorem yKj:zB prog yWh:=fA (rs:=.c .bool) f108 ⟨[],[],[],false⟩ (fun d=>d.1) e0 zF
def vDt:=zK 110 [.agg lE,.c .i] (.c .bool) (fun k d=>(nY (Jm k) d)) (fun x=>(x,()))
theorem yIx:zB prog vDt:=fA (rs:=.c .bool) f110 ⟨[],[],[],false⟩ (fun d=>d.1) e0 zF
def vEj:=zK 185 [.agg wC,.c .i] (.c .bool) (fun k d=>(mA (OK k) d)) (fun x=>(x,()))
theorem yRm:zB prog vEj:=fA (rs:=.c .bool) f185 ⟨[],[],[],false⟩ (fun d=>d.1) e0 zF
def yU8:=zK 184 [.agg wC,.ptr [.i]] (.c .bool) (fun k d=>(mA (OJ k) d)) (fun x=>(x,()))
theorem qSh:zB prog yU8:=fA (rs:=.c .bool) f184 ⟨[],[],[],false⟩ (fun d=>d.1) (e1 yRm) zF
def yE4:zH:=⟨[(1,.c (.lit (.fn 184 [1001000]))),(5,.c (.lit (.osl 1001001 none))),(8,.c (.dat false zJ)),(9,.c .i),(10,.c .i)],[.robox [.i],.arr true zJ],[(5,none,zJ,false)]⟩
def qT0:zH:=⟨[(5,.c (.lit (.osl 1001000 none)))],[.arr true zJ],[]⟩
def yBt (f:R3)(d:yE4.den):=f d.1.2.2.1.1 d.1.2.2.2.1.1 d.1.2.2.2.2.1.1 d.2.1.1 d.2.2.1
def R4:qC:=⟨[yE4],[(.exit 0,qT0)],R5,fun k d=>yBt (EK k k) d,fun b x _ K=>K (.exit 0) (zP b qT0 (((),()),(x,())))⟩
def yI3:qB:=⟨[],[(3,R4)],[],false⟩
theorem vD1:zZ prog 1000 0 23 (zV (zX f126) 0) R4:=lp (A:=yI3) R4 (fun d=>d.2.1) yBt EK Av (e1 qSh) zF
def yQ8:=zK 126 [.c (.dat false zJ),.fn 184 [[.i]]] (.c (.own zJ)) (fun k d=>OI k d.1 d.2.1) (fun x=>(x,()))
theorem vBb:zB prog yQ8:=fA (rs:=.c (.own zJ)) f126 yI3 (fun d=>d.1) (e1 qSh) (loops1 vD1)
def vHl:=zK 168 [.c (.dat false zJ),.c .i] (.c (.own zJ)) (fun k d=>Au k d.1 d.2.1) (fun x=>(x,()))
theorem v7:zB prog vHl:=fA (rs:=.c (.own zJ)) f168 ⟨[],[],[],false⟩ (fun d=>d.1) (e1 vBb) zF
def yYl:=zK 198 [.agg wC,.ptr wC] (.c .bool) (fun k d=>(F4 (OO k) d)) (fun x=>(x,()))
theorem yCv:zB prog yYl:=fA (rs:=.c .bool) f198 ⟨[],[],[],false⟩ (fun d=>d.1) e0 zF
def qPw:zH:=⟨[(0,.c (.dat false zJ)),(1,.c (.lit (.fn 198 [1001000]))),(7,.c .i),(8,.c .i)],[.robox iN],[]⟩
def yEb:zH:=⟨[],[],[]⟩
def qUh:zH:=⟨[(4,.c .i)],[],[]⟩
def qYd (f:R6)(d:qPw.den):=(sQ (f d.1.1.1 d.1.2.2.1.1 d.1.2.2.2.1.1) d.2.1)
def R7:qC:=⟨[qPw],[(.exit 0,yEb),(.ret,qUh)],(Unit⊕Int),fun k d=>qYd (Aw k k) d,fun b x _ K=>match x with|.inl x=>K (.exit 0) (zP b yEb ((),()))|.inr x=>K .ret (zP b qUh (((x,()),()),()))⟩
def qSz:qB:=⟨[],[(2,R7)],[],false⟩
theorem vA8:zZ prog 1000 0 19 (zV (zX f113) 0) R7:=lp (A:=qSz) R7 (fun d=>match d with|.inl d=>.inl ()|.inr d=>.inr d.1.1.1) qYd Aw Ax (e1 yCv) zF
def vHh:=zK 113 [.c (.dat false zJ),.fn 198 [wC]] (.c .i) (fun k d=>(mA (OP k) d)) (fun x=>(x,()))
theorem yTp:zB prog vHh:=fA (rs:=.c .i) f113 qSz (fun d=>d.1) (e1 yCv) (loops1 vA8)
def yV2:=zK 95 [.c (.dat false zJ),.fn 198 [wC]] (.c .bool) (fun k d=>(mA (IL k) d)) (fun x=>(x,()))
theorem vDu:zB prog yV2:=fA (rs:=.c .bool) f95 ⟨[],[],[],false⟩ (fun d=>d.1) (e1 yTp) zF
def vF1:=yV 197 [.agg wC,.ptr true [.map],.ptr false [.p (.dat false zJ)]] (.c .bool) [[.map]] 0 (fun k d=>(R8 (OR k) d)) (fun x=>(x.1,x.2,()))
theorem yE3:zB prog vF1:=fX (rs:=.c .bool) (os:=[[.map]]) (ns:=0) f197 ⟨[],[],[],false⟩ 3 (fun d=>(d.1,d.2.1)) (e1 vDu) zF
def qRv:zH:=⟨[(1,.c (.lit (.fn 197 [1001000,1001002]))),(5,.c (.lit (.osl 1001003 none))),(8,.c (.dat false zJ)),(9,.c .i),(10,.c .i)],[.box true [.lit (.map 1001001)],.imap,.robox [.dat false zJ],.arr true zJ],[(5,none,zJ,false)]⟩
def qP4:zH:=⟨[(1,.c (.lit (.fn 197 [1001000,1001002]))),(5,.c (.lit (.osl 1001003 none)))],[.box true [.lit (.map 1001001)],.imap,.robox [.dat false zJ],.arr true zJ],[]⟩
def yKw (f:R9)(d:qRv.den):=f d.1.2.2.1.1 d.1.2.2.2.1.1 d.1.2.2.2.2.1.1 d.2.2.1 d.2.2.2.1.1 d.2.2.2.2.1
def Sa:qC:=⟨[qRv],[(.exit 0,qP4)],Sb,fun k d=>yKw (Ay k k) d,fun b x _ K=>K (.exit 0) (zP b qP4 (((),(),()),((),x.1,(x.2.1,()),x.2.2,())))⟩
def yAq:qB:=⟨[],[(3,Sa)],[],false⟩
theorem yNr:zZ prog 1000 2 23 (zV (zX f126) 0) Sa:=lp (A:=yAq) Sa (fun d=>(d.2.2.1,d.2.2.2.1.1,d.2.2.2.2.1)) yKw Ay Az (e1 yE3) zF
def yYs:=yV 126 [.c (.p (.dat false zJ)),.fn 197 [(true,[.map]),(false,[.p (.dat false zJ)])]] (.c (.own zJ)) [[.map]] 0 (fun k d=>OQ k d.1 d.2.1 d.2.2.1) (fun x=>(x.1,x.2,()))
theorem yWu:zB prog yYs:=fX (rs:=.c (.own zJ)) (os:=[[.map]]) (ns:=0) f126 yAq 2 (fun d=>(d.1,d.2.1)) (e1 yE3) (loops1 yNr)
def yZc:=zK 190 [.c (.dat false zJ),.c .i] (.c (.own zJ)) (fun k d=>EM k d.1 d.2.1) (fun x=>(x,()))
theorem F8:zB prog yZc:=fA (rs:=.c (.own zJ)) f190 ⟨[],[],[],false⟩ (fun d=>d.1) (e2 v7 yWu) zF
def yTn:=zK 91 [.agg fR,.agg wC] (.c .bool) (fun k d=>(pN (zh k) d)) (fun x=>(x,()))
theorem Sc:zB prog yTn:=fA (rs:=.c .bool) f91 ⟨[],[],[],false⟩ (fun d=>d.1) e0 zF
def vFu:=zK 199 [.agg wC,.ptr fR] (.c .bool) (fun k d=>(pN (OF k) d)) (fun x=>(x,()))
theorem qWy:zB prog vFu:=fA (rs:=.c .bool) f199 ⟨[],[],[],false⟩ (fun d=>d.1) (e1 Sc) zF
def qU0:zH:=⟨[(0,.c (.dat false zJ)),(1,.c (.lit (.fn 199 [1001000]))),(7,.c .i),(8,.c .i)],[.robox kF],[]⟩
def qXg:zH:=⟨[],[],[]⟩
def qS8:zH:=⟨[(4,.c .i)],[],[]⟩
def yHk (f:Sd)(d:qU0.den):=(jW (f d.1.1.1 d.1.2.2.1.1 d.1.2.2.2.1.1) d.2.1)
def Se:qC:=⟨[qU0],[(.exit 0,qXg),(.ret,qS8)],(Unit⊕Int),fun k d=>yHk (EI k k) d,fun b x _ K=>match x with|.inl x=>K (.exit 0) (zP b qXg ((),()))|.inr x=>K .ret (zP b qS8 (((x,()),()),()))⟩
def qQ5:qB:=⟨[],[(2,Se)],[],false⟩
theorem vG7:zZ prog 1000 0 19 (zV (zX f113) 0) Se:=lp (A:=qQ5) Se (fun d=>match d with|.inl d=>.inl ()|.inr d=>.inr d.1.1.1) yHk EI z9 (e1 qWy) zF
def vGd:=zK 113 [.c (.dat false zJ),.fn 199 [fR]] (.c .i) (fun k d=>(nZ (OG k) d)) (fun x=>(x,()))
theorem vEg:zB prog vGd:=fA (rs:=.c .i) f113 qQ5 (fun d=>d.1) (e1 qWy) (loops1 vG7)
def yOj:=zK 95 [.c (.dat false zJ),.fn 199 [fR]] (.c .bool) (fun k d=>(nZ (IK k) d)) (fun x=>(x,()))
theorem yNo:zB prog yOj:=fA (rs:=.c .bool) f95 ⟨[],[],[],false⟩ (fun d=>d.1) (e1 vEg) zF
def yJp:zH:=⟨[(4,.c (.lit (.ptr 1001000 0))),(5,.c (.lit (.ptr 1001001 0))),(15,.c (.dat false zJ)),(16,.c .i),(17,.c .i)],[.box true [.lit .nsl,.lit .nsl,.lit .nsl],.box true Sf,.arr true .i,.arr true .i,.mat],[]⟩
def yD3:zH:=⟨[(4,.c (.lit (.ptr 1001000 0))),(5,.c (.lit (.ptr 1001001 0)))],[.box true [.lit .nsl,.lit .nsl,.lit .nsl],.box true Sf,.arr true .i,.arr true .i,.mat],[]⟩
def qWs (f:Sg)(d:yJp.den):=f d.1.2.2.1.1 d.1.2.2.2.1.1 d.1.2.2.2.2.1.1 d.2.2.2.1 d.2.2.2.2.1 d.2.2.2.2.2.1
def Sh:qC:=⟨[yJp],[(.exit 0,yD3)],Si,fun k d=>qWs (ED k k) d,fun b x _ K=>K (.exit 0) (zP b yD3 (((),(),()),((),(),x.1,x.2.1,x.2.2,())))⟩
def qRw:qB:=⟨[],[(3,Sh)],[],false⟩
theorem yQ3:zZ prog 1000 0 84 (zV (zX f192) 0) Sh:=lp (A:=qRw) Sh (fun d=>(d.2.2.2.1,d.2.2.2.2.1,d.2.2.2.2.2.1)) qWs ED zv (e2 vz FZ) zF
def ySd:=zK 192 [.c .i,.c (.dat false zJ)] (.agg [.own .i,.own .i,.mat]) (fun k d=>IF k d.1 d.2.1) (fun x=>(x.1,x.2.1,x.2.2,()))
theorem qSj:zB prog ySd:=fA (rs:=.agg [.own .i,.own .i,.mat]) f192 qRw (fun d=>(d.1,d.2.1,d.2.2.1)) (e2 vz FZ) (loops1 yQ3)
def yOv:=zK 193 [.agg wC,.ptr [.i]] (.c .bool) (fun k d=>(mA (Oz k) d)) (fun x=>(x,()))
theorem yHy:zB prog yOv:=fA (rs:=.c .bool) f193 ⟨[],[],[],false⟩ (fun d=>d.1) e0 zF
def yIk:zH:=⟨[(0,.c (.dat false zJ)),(1,.c (.lit (.fn 193 [1001000]))),(7,.c .i),(8,.c .i)],[.robox [.i]],[]⟩
def qZu:zH:=⟨[],[],[]⟩
def yAn:zH:=⟨[(4,.c .i)],[],[]⟩
def qRb (f:Sj)(d:yIk.den):=f d.1.1.1 d.1.2.2.1.1 d.1.2.2.2.1.1 d.2.1.1
def Sk:qC:=⟨[yIk],[(.exit 0,qZu),(.ret,yAn)],(Unit⊕Int),fun k d=>qRb (EE k k) d,fun b x _ K=>match x with|.inl x=>K (.exit 0) (zP b qZu ((),()))|.inr x=>K .ret (zP b yAn (((x,()),()),()))⟩
def yAx:qB:=⟨[],[(2,Sk)],[],false⟩
theorem yO4:zZ prog 1000 0 19 (zV (zX f113) 0) Sk:=lp (A:=yAx) Sk (fun d=>match d with|.inl d=>.inl ()|.inr d=>.inr d.1.1.1) qRb EE zw (e1 yHy) zF
def yZ0:=zK 113 [.c (.dat false zJ),.fn 193 [[.i]]] (.c .i) (fun k d=>OA k d.1 d.2.1) (fun x=>(x,()))
theorem yUz:zB prog yZ0:=fA (rs:=.c .i) f113 yAx (fun d=>d.1) (e1 yHy) (loops1 yO4)
def yPk:=zK 95 [.c (.dat false zJ),.fn 193 [[.i]]] (.c .bool) (fun k d=>IG k d.1 d.2.1) (fun x=>(x,()))
theorem qSf:zB prog yPk:=fA (rs:=.c .bool) f95 ⟨[],[],[],false⟩ (fun d=>d.1) (e1 yUz) zF
def yAm:zH:=⟨[(5,.c .i),(12,.c (.dat false .i)),(13,.c .i),(14,.c .i)],[],[]⟩
def yA4:zH:=⟨[(5,.c .i)],[],[]⟩
def yB2 (f:Int→AC→Int→Int→Option Int)(d:yAm.den):=f d.1.1.1 d.1.2.1.1 d.1.2.2.1.1 d.1.2.2.2.1.1
def Sl:qC:=⟨[yAm],[(.exit 0,yA4)],Int,fun k d=>yB2 (zp k k) d,fun b x _ K=>K (.exit 0) (zP b yA4 (((x,()),()),()))⟩
def yIc:qB:=⟨[],[(3,Sl)],[],false⟩
theorem vA0:zZ prog 1000 0 23 (zV (zX f200) 0) Sl:=lp (A:=yIc) Sl (fun d=>d.1.1.1) yB2 zp zq e0 zF
def vGc:=zK 200 [.agg fR,.c .i] (.c .i) (fun k d=>(nZ (IC k) d)) (fun x=>(x,()))
theorem yE0:zB prog vGc:=fA (rs:=.c .i) f200 yIc (fun d=>d.1) e0 (loops1 vA0)
def vCp:=zK 201 [.c .i,.c .i] (.c .bool) (fun k d=>zy k d.1 d.2.1) (fun x=>(x,()))
theorem Sm:zB prog vCp:=fA (rs:=.c .bool) f201 ⟨[],[],[],false⟩ (fun d=>d.1) e0 zF
def vB6:=zK 202 [.agg wC,.ptr [.i],.ptr nX,.ptr Kq,.ptr [.i],.ptr fR] (.c .bool) (fun k d=>(yZv (OB k) d)) (fun x=>(x,()))
theorem yFs:zB prog vB6:=fA (rs:=.c .bool) f202 ⟨[],[],[],false⟩ (fun d=>d.1) (e2 Km Sm) zF
def yA5:zH:=⟨[(0,.c (.dat false zJ)),(1,.c (.lit (.fn 202 [1001000,1001001,1001002,1001003,1001004]))),(7,.c .i),(8,.c .i)],[.robox [.i],.robox [.i,.i,.i],.robox Sn,.robox [.i],.robox kF],[]⟩
def yK3:zH:=⟨[],[],[]⟩
def qS0:zH:=⟨[(4,.c .i)],[],[]⟩
def yGj (f:So)(d:yA5.den):=(jW (f d.1.1.1 d.1.2.2.1.1 d.1.2.2.2.1.1 d.2.1.1 d.2.2.1.1 d.2.2.1.2.1 d.2.2.1.2.2.1 d.2.2.2.1.1 d.2.2.2.1.2.1 d.2.2.2.1.2.2.1 d.2.2.2.2.1.1) d.2.2.2.2.2.1)
def Sp:qC:=⟨[yA5],[(.exit 0,yK3),(.ret,qS0)],(Unit⊕Int),fun k d=>yGj (EG k k) d,fun b x _ K=>match x with|.inl x=>K (.exit 0) (zP b yK3 ((),()))|.inr x=>K .ret (zP b qS0 (((x,()),()),()))⟩
def qYf:qB:=⟨[],[(2,Sp)],[],false⟩
theorem yYi:zZ prog 1000 0 19 (zV (zX f113) 0) Sp:=lp (A:=qYf) Sp (fun d=>match d with|.inl d=>.inl ()|.inr d=>.inr d.1.1.1) yGj EG zz (e1 yFs) zF
def vA4:=zK 113 [.c (.dat false zJ),.fn 202 [[.i],nX,Kq,[.i],fR]] (.c .i) (fun k d=>(Sq (OC k) d)) (fun x=>(x,()))
theorem yXv:zB prog vA4:=fA (rs:=.c .i) f113 qYf (fun d=>d.1) (e1 yFs) (loops1 yYi)
def vD7:=zK 95 [.c (.dat false zJ),.fn 202 [[.i],nX,Kq,[.i],fR]] (.c .bool) (fun k d=>(Sq (IH k) d)) (fun x=>(x,()))
theorem yIf:zB prog vD7:=fA (rs:=.c .bool) f95 ⟨[],[],[],false⟩ (fun d=>d.1) (e1 yXv) zF
def qRo:zH:=⟨[(3,.c (.dat false zJ)),(4,.c (.lit (.ptr 1001000 0))),(5,.c (.lit (.ptr 1001001 0))),(6,.c (.lit (.ptr 1001002 0))),(9,.c (.lit (.ptr 1001003 0))),(10,.c (.lit (.ptr 1001004 0))),(11,.c .i),(39,.c (.dat false .i)),(40,.c .i),(41,.c .i)],[.box true Sn,.box true kF,.box true [.i],.box true [.i,.i,.i],.box true [.i]],[]⟩
def qZ1:zH:=⟨[(3,.c (.dat false zJ)),(4,.c (.lit (.ptr 1001000 0))),(5,.c (.lit (.ptr 1001001 0))),(6,.c (.lit (.ptr 1001002 0))),(9,.c (.lit (.ptr 1001003 0))),(10,.c (.lit (.ptr 1001004 0))),(11,.c .i)],[.box true Sn,.box true kF,.box true [.i],.box true [.i,.i,.i],.box true [.i]],[]⟩
def qR2 (f:Sr)(d:qRo.den):=(jW (f d.1.1.1 d.1.2.2.2.2.2.2.1.1 d.1.2.2.2.2.2.2.2.1.1 d.1.2.2.2.2.2.2.2.2.1.1 d.1.2.2.2.2.2.2.2.2.2.1.1 d.2.1.1 d.2.1.2.1 d.2.1.2.2.1) d.2.2.1) d.2.2.2.1.1 d.2.2.2.2.1.1 d.2.2.2.2.1.2.1 d.2.2.2.2.1.2.2.1 d.2.2.2.2.2.1.1
def Ss:qC:=⟨[qRo],[(.exit 0,qZ1)],Su,fun k d=>qR2 (uH k k) d,fun b x _ K=>K (.exit 0) (zP b qZ1 (((x.1,()),(),(),(),(),(),(x.2.1,()),()),((x.2.2.1,x.2.2.2.1,x.2.2.2.2.1,()),(yNb x ()),(x.2.2.2.2.2.2.2.2.2.1,()),(x.2.2.2.2.2.2.2.2.2.2.1,x.2.2.2.2.2.2.2.2.2.2.2.1,x.2.2.2.2.2.2.2.2.2.2.2.2.1,()),(x.2.2.2.2.2.2.2.2.2.2.2.2.2,()),())))⟩
def qQ6:qB:=⟨[],[(7,Ss)],[],false⟩
theorem yY0:zZ prog 1000 0 59 (zV (zX f194) 0) Ss:=lp (A:=qQ6) Ss (fun d=>(d.1.1.1,d.1.2.2.2.2.2.2.1.1,d.2.1.1,d.2.1.2.1,d.2.1.2.2.1,(jV d.2.2.1 (d.2.2.2.1.1,d.2.2.2.2.1.1,d.2.2.2.2.1.2.1,d.2.2.2.2.1.2.2.1,d.2.2.2.2.2.1.1)))) qR2 uH z6 (e3 yE0 Sm yIf) zF
def vHj:=zK 194 [.agg Kq,.agg fR,.c .i,.c (.dat false zJ)] (.c .bool) (fun k d=>(R8 (IJ k) d)) (fun x=>(x,()))
theorem yH6:zB prog vHj:=fA (rs:=.c .bool) f194 qQ6 (fun d=>d.1) (e3 yE0 Sm yIf) (loops1 yY0)
def yF9:zH:=⟨[(1,.c (.dat false zJ)),(2,.c (.lit (.ptr 1001000 0))),(5,.c (.lit (.ptr 1001001 0))),(6,.c (.lit (.osl 1001005 none))),(16,.c .i),(17,.c .i)],[.box true kF,.box true Sf,.arr true .i,.arr true .i,.mat,.arr true .i],[(6,none,.i,false)]⟩
def qRz:zH:=⟨[(6,.c (.lit (.osl 1001000 none)))],[.arr true .i],[]⟩
def yIu (f:Sv)(d:yF9.den):=(jW (f d.1.1.1 d.1.2.2.2.2.1.1 d.1.2.2.2.2.2.1.1) d.2.1) d.2.2.2.1 d.2.2.2.2.1 d.2.2.2.2.2.1 d.2.2.2.2.2.2.1
def Sw:qC:=⟨[yF9],[(.exit 0,qRz)],AC,fun k d=>yIu (z7 k k) d,fun b x _ K=>K (.exit 0) (zP b qRz (((),()),(x,())))⟩
def qTq:qB:=⟨[],[(4,Sw)],[],false⟩
theorem vFj:zZ prog 1000 0 37 (zV (zX f181) 0) Sw:=lp (A:=qTq) Sw (fun d=>d.2.1) yIu z7 z8 (e3 qSj qSf yH6) zF
def yNp:=zK 181 [.agg fR,.c (.dat false zJ)] (.c (.own .i)) (fun k d=>(nZ (uI k) d)) (fun x=>(x,()))
theorem F9:zB prog yNp:=fA (rs:=.c (.own .i)) f181 qTq (fun d=>d.1) (e3 qSj qSf yH6) (loops1 vFj)
def yZx:=zK 191 [.agg fR,.c (.dat false zJ)] (.c .bool) (fun k d=>(nZ (uJ k) d)) (fun x=>(x,()))
theorem Ga:zB prog yZx:=fA (rs:=.c .bool) f191 ⟨[],[],[],false⟩ (fun d=>d.1) (e2 yNo F9) zF
def yVp:=zK 186 [.agg wC,.ptr fR] (.c .bool) (fun k d=>(pN (Of k) d)) (fun x=>(x,()))
theorem qRi:zB prog yVp:=fA (rs:=.c .bool) f186 ⟨[],[],[],false⟩ (fun d=>d.1) (e1 Sc) zF
def yBr:zH:=⟨[(0,.c (.dat false zJ)),(1,.c (.lit (.fn 186 [1001000]))),(7,.c .i),(8,.c .i)],[.robox kF],[]⟩
def yH8:zH:=⟨[],[],[]⟩
def qY8:zH:=⟨[(4,.c .i)],[],[]⟩
def yIh (f:Sx)(d:yBr.den):=(jW (f d.1.1.1 d.1.2.2.1.1 d.1.2.2.2.1.1) d.2.1)
def Sy:qC:=⟨[yBr],[(.exit 0,yH8),(.ret,qY8)],(Unit⊕Int),fun k d=>yIh (Eo k k) d,fun b x _ K=>match x with|.inl x=>K (.exit 0) (zP b yH8 ((),()))|.inr x=>K .ret (zP b qY8 (((x,()),()),()))⟩
def yDg:qB:=⟨[],[(2,Sy)],[],false⟩
theorem vGu:zZ prog 1000 0 19 (zV (zX f113) 0) Sy:=lp (A:=yDg) Sy (fun d=>match d with|.inl d=>.inl ()|.inr d=>.inr d.1.1.1) yIh Eo zj (e1 qRi) zF
def vGj:=zK 113 [.c (.dat false zJ),.fn 186 [fR]] (.c .i) (fun k d=>(nZ (Og k) d)) (fun x=>(x,()))
theorem yMl:zB prog vGj:=fA (rs:=.c .i) f113 yDg (fun d=>d.1) (e1 qRi) (loops1 vGu)
def yS5:=zK 95 [.c (.dat false zJ),.fn 186 [fR]] (.c .bool) (fun k d=>(nZ (Io k) d)) (fun x=>(x,()))
theorem qUz:zB prog yS5:=fA (rs:=.c .bool) f95 ⟨[],[],[],false⟩ (fun d=>d.1) (e1 yMl) zF
def vAm:=zK 78 [.agg nX] (.c .bool) (fun k d=>N3 k d.1 d.2.1 d.2.2.1) (fun x=>(x,()))
theorem yH1:zB prog vAm:=fA (rs:=.c .bool) f78 ⟨[],[],[],false⟩ (fun d=>d.1) (e1 qYs) zF
def yKa:zH:=⟨[(0,.c (.dat false qZ)),(1,.c (.lit (.fn 78 []))),(7,.c .i),(8,.c .i)],[],[]⟩
def yEp:zH:=⟨[],[],[]⟩
def qW9:zH:=⟨[(4,.c .i)],[],[]⟩
def yC3 (f:Sz)(d:yKa.den):=f d.1.1.1 d.1.2.2.1.1 d.1.2.2.2.1.1
def SA:qC:=⟨[yKa],[(.exit 0,yEp),(.ret,qW9)],(Unit⊕Int),fun k d=>yC3 (D7 k k) d,fun b x _ K=>match x with|.inl x=>K (.exit 0) (zP b yEp ((),()))|.inr x=>K .ret (zP b qW9 (((x,()),()),()))⟩
def yLa:qB:=⟨[],[(2,SA)],[],false⟩
theorem yMv:zZ prog 1000 0 19 (zV (zX f119) 0) SA:=lp (A:=yLa) SA (fun d=>match d with|.inl d=>.inl ()|.inr d=>.inr d.1.1.1) yC3 D7 yx (e1 yH1) zF
def yLp:=zK 119 [.c (.dat false qZ),.c (.fn 78)] (.c .i) (fun k d=>N4 k d.1) (fun x=>(x,()))
theorem yMk:zB prog yLp:=fA (rs:=.c .i) f119 yLa (fun d=>d.1) (e1 yH1) (loops1 yMv)
def yNm:=zK 80 [.c (.dat false qZ),.c (.fn 78)] (.c .bool) (fun k d=>H9 k d.1) (fun x=>(x,()))
theorem vG6:zB prog yNm:=fA (rs:=.c .bool) f80 ⟨[],[],[],false⟩ (fun d=>d.1) (e1 yMk) zF
def yXq:=zK 82 [.c .i] (.c .bool) (fun k d=>NZ k d.1) (fun x=>(x,()))
theorem yRw:zB prog yXq:=fA (rs:=.c .bool) f82 ⟨[],[],[],false⟩ (fun d=>d.1) e0 zF
def vFx:=zK 120 [.c .i,.ptr [.fn 82]] (.c .bool) (fun k d=>N5 k d.1) (fun x=>(x,()))
theorem qY3:zB prog vFx:=fA (rs:=.c .bool) f120 ⟨[],[],[],false⟩ (fun d=>d.1) (e1 yRw) zF
def qXn:zH:=⟨[(0,.c (.dat false .i)),(1,.c (.lit (.fn 120 [1001000]))),(7,.c .i),(8,.c .i)],[.robox [.lit (.fn 82 [])]],[]⟩
def qZq:zH:=⟨[],[],[]⟩
def yFn:zH:=⟨[(4,.c .i)],[],[]⟩
def yAt (f:SB)(d:qXn.den):=f d.1.1.1 d.1.2.2.1.1 d.1.2.2.2.1.1
def SC:qC:=⟨[qXn],[(.exit 0,qZq),(.ret,yFn)],(Unit⊕Int),fun k d=>yAt (D8 k k) d,fun b x _ K=>match x with|.inl x=>K (.exit 0) (zP b qZq ((),()))|.inr x=>K .ret (zP b yFn (((x,()),()),()))⟩
def yG0:qB:=⟨[],[(2,SC)],[],false⟩
theorem yLm:zZ prog 1000 0 19 (zV (zX f121) 0) SC:=lp (A:=yG0) SC (fun d=>match d with|.inl d=>.inl ()|.inr d=>.inr d.1.1.1) yAt D8 yy (e1 qY3) zF
def yM0:=zK 121 [.c (.dat false .i),.fn 120 [[.fn 82]]] (.c .i) (fun k d=>N6 k d.1) (fun x=>(x,()))
theorem vFk:zB prog yM0:=fA (rs:=.c .i) f121 yG0 (fun d=>d.1) (e1 qY3) (loops1 yLm)
def yOy:=zK 86 [.c (.dat false .i),.fn 120 [[.fn 82]]] (.c .bool) (fun k d=>Ia k d.1) (fun x=>(x,()))
theorem vH3:zB prog yOy:=fA (rs:=.c .bool) f86 ⟨[],[],[],false⟩ (fun d=>d.1) (e1 vFk) zF
def vAx:=zK 83 [.c (.dat false .i),.c .i,.c (.fn 82)] (.c .bool) (fun k d=>Ea k d.1 d.2.1) (fun x=>(x,()))
theorem SD:zB prog vAx:=fA (rs:=.c .bool) f83 ⟨[],[],[],false⟩ (fun d=>d.1) (e1 vH3) zF
def qPo:zH:=⟨[(1,.c .i),(2,.c (.lit (.fn 82 []))),(13,.c (.dat false (.sl .i))),(14,.c .i),(15,.c .i)],[],[]⟩
def yKo:zH:=⟨[],[],[]⟩
def qR3:zH:=⟨[(6,.c .bool)],[],[]⟩
def yBl (f:SE)(d:qPo.den):=f d.1.1.1 d.1.2.2.1.1 d.1.2.2.2.1.1 d.1.2.2.2.2.1.1
def SF:qC:=⟨[qPo],[(.exit 0,yKo),(.ret,qR3)],(Unit⊕Bool),fun k d=>yBl (Eb k k) d,fun b x _ K=>match x with|.inl x=>K (.exit 0) (zP b yKo ((),()))|.inr x=>K .ret (zP b qR3 (((x,()),()),()))⟩
def qRn:qB:=⟨[],[(4,SF)],[],false⟩
theorem yQg:zZ prog 1000 0 25 (zV (zX f81) 0) SF:=lp (A:=qRn) SF (fun d=>match d with|.inl d=>.inl ()|.inr d=>.inr d.1.1.1) yBl Eb y7 (e1 SD) zF
def vH9:=zK 81 [.c (.dat false (.sl .i)),.c .i,.c (.fn 82)] (.c .bool) (fun k d=>Ie k d.1 d.2.1) (fun x=>(x,()))
theorem ySm:zB prog vH9:=fA (rs:=.c .bool) f81 qRn (fun d=>d.1) (e1 SD) (loops1 yQg)
def yUy:=zK 84 [.c .i] (.c .bool) (fun k d=>H5 k d.1) (fun x=>(x,()))
theorem vC8:zB prog yUy:=fA (rs:=.c .bool) f84 ⟨[],[],[],false⟩ (fun d=>d.1) e0 zF
def vCw:=zK 120 [.c .i,.ptr [.fn 84]] (.c .bool) (fun k d=>N7 k d.1) (fun x=>(x,()))
theorem qV3:zB prog vCw:=fA (rs:=.c .bool) f120 ⟨[],[],[],false⟩ (fun d=>d.1) (e1 vC8) zF
def yCq:zH:=⟨[(0,.c (.dat false .i)),(1,.c (.lit (.fn 120 [1001000]))),(7,.c .i),(8,.c .i)],[.robox [.lit (.fn 84 [])]],[]⟩
def qUw:zH:=⟨[],[],[]⟩
def yFz:zH:=⟨[(4,.c .i)],[],[]⟩
def qZm (f:SG)(d:yCq.den):=f d.1.1.1 d.1.2.2.1.1 d.1.2.2.2.1.1
def SH:qC:=⟨[yCq],[(.exit 0,qUw),(.ret,yFz)],(Unit⊕Int),fun k d=>qZm (D9 k k) d,fun b x _ K=>match x with|.inl x=>K (.exit 0) (zP b qUw ((),()))|.inr x=>K .ret (zP b yFz (((x,()),()),()))⟩
def yEt:qB:=⟨[],[(2,SH)],[],false⟩
theorem yUv:zZ prog 1000 0 19 (zV (zX f121) 0) SH:=lp (A:=yEt) SH (fun d=>match d with|.inl d=>.inl ()|.inr d=>.inr d.1.1.1) qZm D9 yz (e1 qV3) zF
def yYg:=zK 121 [.c (.dat false .i),.fn 120 [[.fn 84]]] (.c .i) (fun k d=>N8 k d.1) (fun x=>(x,()))
theorem vDk:zB prog yYg:=fA (rs:=.c .i) f121 yEt (fun d=>d.1) (e1 qV3) (loops1 yUv)
def vFv:=zK 86 [.c (.dat false .i),.fn 120 [[.fn 84]]] (.c .bool) (fun k d=>Ib k d.1) (fun x=>(x,()))
theorem vG2:zB prog vFv:=fA (rs:=.c .bool) f86 ⟨[],[],[],false⟩ (fun d=>d.1) (e1 vDk) zF
def yTt:=zK 83 [.c (.dat false .i),.c .i,.c (.fn 84)] (.c .bool) (fun k d=>Ic k d.1 d.2.1) (fun x=>(x,()))
theorem yBj:zB prog yTt:=fA (rs:=.c .bool) f83 ⟨[],[],[],false⟩ (fun d=>d.1) (e1 vG2) zF
def qP5:zH:=⟨[(1,.c .i),(2,.c (.lit (.fn 84 []))),(13,.c (.dat false (.sl .i))),(14,.c .i),(15,.c .i)],[],[]⟩
def yIz:zH:=⟨[],[],[]⟩
def yAi:zH:=⟨[(6,.c .bool)],[],[]⟩
def qU4 (f:SI)(d:qP5.den):=f d.1.1.1 d.1.2.2.1.1 d.1.2.2.2.1.1 d.1.2.2.2.2.1.1
def SJ:qC:=⟨[qP5],[(.exit 0,yIz),(.ret,yAi)],(Unit⊕Bool),fun k d=>qU4 (Ec k k) d,fun b x _ K=>match x with|.inl x=>K (.exit 0) (zP b yIz ((),()))|.inr x=>K .ret (zP b yAi (((x,()),()),()))⟩
def qQ2:qB:=⟨[],[(4,SJ)],[],false⟩
theorem yXb:zZ prog 1000 0 25 (zV (zX f81) 0) SJ:=lp (A:=qQ2) SJ (fun d=>match d with|.inl d=>.inl ()|.inr d=>.inr d.1.1.1) qU4 Ec y8 (e1 yBj) zF
def yQz:=zK 81 [.c (.dat false (.sl .i)),.c .i,.c (.fn 84)] (.c .bool) (fun k d=>Ig k d.1 d.2.1) (fun x=>(x,()))
theorem yYb:zB prog yQz:=fA (rs:=.c .bool) f81 qQ2 (fun d=>d.1) (e1 yBj) (loops1 yXb)
def yH3:zH:=⟨[(0,.c (.dat false (.sl .i))),(3,.c .i),(7,.c (.dat false (.sl .i))),(8,.c .i),(9,.c .i),(14,.c (.dat false .i)),(15,.c .i),(16,.c .i)],[],[]⟩
def yF3:zH:=⟨[(0,.c (.dat false (.sl .i))),(7,.c (.dat false (.sl .i))),(8,.c .i),(9,.c .i)],[],[]⟩
def yIl:zH:=⟨[(2,.c .bool)],[],[]⟩
def qWk (f:SK)(d:yH3.den):=f d.1.1.1 d.1.2.1.1 d.1.2.2.1.1 d.1.2.2.2.1.1 d.1.2.2.2.2.1.1 d.1.2.2.2.2.2.1.1 d.1.2.2.2.2.2.2.1.1 d.1.2.2.2.2.2.2.2.1.1
def SM:qC:=⟨[yH3],[(.exit 2,yF3),(.ret,yIl)],SN,fun k d=>qWk (y9 k k) d,fun b x _ K=>match x with|.inl x=>K (.exit 2) (zP b yF3 (((x.1,()),(x.2.1,()),(x.2.2.1,()),(x.2.2.2,()),()),()))|.inr x=>K .ret (zP b yIl (((x,()),()),()))⟩
def qXu:zH:=⟨[(0,.c (.dat false (.sl .i))),(7,.c (.dat false (.sl .i))),(8,.c .i),(9,.c .i)],[],[]⟩
def yBn:zH:=⟨[],[],[]⟩
def qQr:zH:=⟨[(2,.c .bool)],[],[]⟩
def qY4 (f:SO)(d:qXu.den):=f d.1.1.1 d.1.2.1.1 d.1.2.2.1.1 d.1.2.2.2.1.1
def SP:qC:=⟨[qXu],[(.exit 0,yBn),(.ret,qQr)],(Unit⊕Bool),fun k d=>qY4 (Ed k k) d,fun b x _ K=>match x with|.inl x=>K (.exit 0) (zP b yBn ((),()))|.inr x=>K .ret (zP b qQr (((x,()),()),()))⟩
def SQ:qB:=⟨[],[(5,SM),(2,SP)],[],false⟩
theorem yQq:zZ prog 1000 0 33 (zV (zV (zX f85) 0) 0) SM:=lp (A:=SQ) SM (fun d=>match d with|.inl d=>.inl (d.1.1.1,d.1.2.1.1,d.1.2.2.1.1,d.1.2.2.2.1.1)|.inr d=>.inr d.1.1.1) qWk y9 za e0 zF
theorem yV6:zZ prog 1000 0 33 (zV (zX f85) 0) SP:=lp (A:=SQ) SP (fun d=>match d with|.inl d=>.inl ()|.inr d=>.inr d.1.1.1) qY4 Ed zb e0 (loops1 yQq)
def yO1:=zK 85 [.c (.dat false (.sl .i))] (.c .bool) (fun k d=>Ih k d.1) (fun x=>(x,()))
theorem vIc:zB prog yO1:=fA (rs:=.c .bool) f85 SQ (fun d=>d.1) e0 (loops1 yV6)
def vF5:=zK 50 [.agg fR] (.c .bool) (fun k d=>(jW (uB k) d)) (fun x=>(x,()))
theorem Kr:zB prog vF5:=fA (rs:=.c .bool) f50 ⟨[],[],[],false⟩ (fun d=>d.1) (e5 vG6 ySm SD yYb vIc) zF
def qQc:zH:=⟨[(2,.c (.lit (.ptr 1001000 0))),(4,.c (.lit (.ptr 1001001 0))),(7,.c (.lit (.ptr 1001002 0))),(24,.c (.dat false zJ)),(25,.c .i),(26,.c .i)],[.box true eQ,.box true Ks,.box true Kt,.arr true qZ,.mat,.arr true .i,.mat],[]⟩
def yBs:zH:=⟨[(2,.c (.lit (.ptr 1001000 0))),(4,.c (.lit (.ptr 1001001 0))),(7,.c (.lit (.ptr 1001002 0)))],[.box true eQ,.box true Ks,.box true Kt,.arr true qZ,.mat,.arr true .i,.mat],[]⟩
def qVd (f:SR)(d:qQc.den):=(jW (f d.1.2.2.2.1.1 d.1.2.2.2.2.1.1 d.1.2.2.2.2.2.1.1) d.2.1) d.2.2.2.2.1 d.2.2.2.2.2.1 d.2.2.2.2.2.2.1 d.2.2.2.2.2.2.2.1
def SS:qC:=⟨[qQc],[(.exit 0,yBs)],SU,fun k d=>qVd (zm k k) d,fun b x _ K=>K (.exit 0) (zP b yBs (((),(),(),()),((jV x ()),(),(),x.2.2.2.2.1,x.2.2.2.2.2.1,x.2.2.2.2.2.2.1,x.2.2.2.2.2.2.2,())))⟩
def yFh:qB:=⟨[],[(6,SS)],[],false⟩
theorem vD2:zZ prog 1000 0 104 (zV (zX f169) 0) SS:=lp (A:=yFh) SS (fun d=>(jV d.2.1 (d.2.2.2.2.1,d.2.2.2.2.2.1,d.2.2.2.2.2.2.1,d.2.2.2.2.2.2.2.1))) qVd zm zn (e4 qUz lH Km Kr) zF
def yRx:=zK 169 [.agg sR,.c (.dat false zJ)] (.tup [(true,j3),(false,qM)]) (fun k d=>(nZ (mg k) d)) (fun x=>(eN x ()))
theorem v8:zB prog yRx:=fA (rs:=.tup [(true,j3),(false,qM)]) f169 yFh (fun d=>(wD d)) (e4 qUz lH Km Kr) (loops1 vD2)
def yD9:zH:=⟨[(3,.c (.lit (.ptr 1001000 0))),(6,.c (.lit (.ptr 1001001 0))),(7,.c (.lit (.ptr 1001002 0))),(15,.c (.lit (.osl 1001003 none))),(16,.c .i),(17,.c .i)],[.box true eQ,.box true iN,.box true Ks,.arr true zJ],[]⟩
def yAa:zH:=⟨[(3,.c (.lit (.ptr 1001000 0))),(6,.c (.lit (.ptr 1001001 0))),(7,.c (.lit (.ptr 1001002 0)))],[.box true eQ,.box true iN,.box true Ks],[]⟩
def qUv:zH:=⟨[(6,.c (.lit (.ptr 1001000 0))),(7,.c (.lit (.ptr 1001001 0))),(8,.c .bool)],[.box true iN,.box true eQ],[]⟩
def yJ8 (f:SW)(d:yD9.den):=(sQ (jW (f d.1.2.2.2.2.1.1 d.1.2.2.2.2.2.1.1) d.2.1) d.2.2.1) d.2.2.2.2.1
def SX:qC:=⟨[yD9],[(.exit 0,yAa),(.ret,qUv)],SY,fun k d=>yJ8 (E0 k k) d,fun b x _ K=>match x with|.inl x=>K (.exit 0) (zP b yAa (((),(),(),()),((jV x ()),(SZ x ()),(),())))|.inr x=>K .ret (zP b qUv (((),(),(x.1,()),()),((yN5 x ()),(vFi x ()),())))⟩
def qR1:qB:=⟨[],[(2,SX)],[],false⟩
theorem vCn:zZ prog 1000 0 40 (zV (zX f179) 0) SX:=lp (A:=qR1) SX (fun d=>match d with|.inl d=>.inl (jV d.2.1 (dI d.2.2.1))|.inr d=>.inr (d.1.2.2.1.1,(B8 d.2.1 (eT d.2.2.1)))) yJ8 E0 AV (e3 F8 Ga v8) zF
def yOe:=zK 179 [.agg sR,.c (.dat true zJ),.c .i] (.tup [(true,lG),(true,j3),(false,[.bool])]) (fun k d=>(nY (I6 k) d)) (fun x=>(F6 x ()))
theorem qZt:zB prog yOe:=fA (rs:=.tup [(true,lG),(true,j3),(false,[.bool])]) f179 qR1 (fun d=>(F7 d)) (e3 F8 Ga v8) (loops1 vCn)
def yDv:zH:=⟨[(2,.c .i),(6,.c (.lit (.ptr 1001000 0))),(7,.c (.dat true zJ)),(8,.c (.lit (.osl 1001001 none)))],[.box true eQ,.arr true zJ],[(8,none,zJ,false)]⟩
def qUj:zH:=⟨[(6,.c (.lit (.ptr 1001000 0))),(7,.c (.dat true zJ)),(8,.c (.lit (.osl 1001001 none)))],[.box true eQ,.arr true zJ],[]⟩
def yGd (f:S0)(d:yDv.den):=(jW (f d.1.1.1 d.1.2.2.1.1) d.2.1) d.2.2.1
def S1:qC:=⟨[yDv],[(.ret,qUj)],S2,fun k d=>yGd (E1 k k) d,fun b x _ K=>K .ret (zP b qUj (((),(x.1,()),(),()),((lI x ()),x.2.2.2.2.2,())))⟩
def yCk:qB:=⟨[],[(2,S1)],[],false⟩
theorem vBl:zZ prog 1000 0 40 (zV (zX f164) 0) S1:=lp (A:=yCk) S1 (fun d=>(d.1.2.1.1,(jV d.2.1 d.2.2.1))) yGd E1 AW (e2 qZt mB) zF
def yTc:=zK 164 [.agg sR,.c (.dat true zJ),.c .i] (.tup [(true,j3),(false,[.fro zJ]),(false,[.own zJ])]) (fun k d=>(nY (I8 k) d)) (fun x=>(sS x ()))
theorem yAs:zB prog yTc:=fA (rs:=.tup [(true,j3),(false,[.fro zJ]),(false,[.own zJ])]) f164 yCk (fun d=>(v9 d)) (e2 qZt mB) (loops1 vBl)
def qRc:zH:=⟨[(3,.c (.lit (.ptr 1001000 0))),(6,.c (.lit (.ptr 1001001 0))),(8,.c (.lit (.osl 1001002 none))),(10,.c (.lit (.ptr 1001003 0))),(18,.c (.lit (.osl 1001002 none))),(19,.c .i),(20,.c .i),(24,.c (.lit (.osl 1001002 none))),(25,.c .i),(26,.c .i)],[.box true eQ,.box true Ku,.arr true zJ,.box true iN],[]⟩
def qXj:zH:=⟨[(3,.c (.lit (.ptr 1001000 0))),(6,.c (.lit (.ptr 1001001 0))),(8,.c (.lit (.osl 1001002 none))),(18,.c (.lit (.osl 1001002 none))),(19,.c .i),(20,.c .i)],[.box true eQ,.box true Ku,.arr true zJ],[]⟩
def yB9:zH:=⟨[(6,.c (.lit (.ptr 1001000 0))),(7,.c .bool)],[.box true qTh],[]⟩
def yIs (f:S3)(d:qRc.den):=(sQ ((F4 (jW (f d.1.2.2.2.2.2.1.1 d.1.2.2.2.2.2.2.1.1 d.1.2.2.2.2.2.2.2.2.1.1 d.1.2.2.2.2.2.2.2.2.2.1.1) d.2.1) d.2.2.1) d.2.2.2.1) d.2.2.2.2.1)
def S4:qC:=⟨[qRc],[(.exit 2,qXj),(.ret,yB9)],S5,fun k d=>yIs (E4 k k) d,fun b x _ K=>match x with|.inl x=>K (.exit 2) (zP b qXj (((),(),(),(),(x.1,()),(x.2.1,()),()),((Q9 x ()),(ySc x ()),x.2.2.2.2.2.2.2.2.2.2.2.2.2.2.2.2.2.2.2.2,())))|.inr x=>K .ret (zP b yB9 (((),(x.1,()),()),((S6 x ()),())))⟩
def yGf:zH:=⟨[(3,.c (.lit (.ptr 1001000 0))),(6,.c (.lit (.ptr 1001001 0))),(8,.c (.lit (.osl 1001002 none))),(18,.c (.lit (.osl 1001002 none))),(19,.c .i),(20,.c .i)],[.box true eQ,.box true Ku,.arr true zJ],[]⟩
def yK2:zH:=⟨[(6,.c (.lit (.ptr 1001000 0)))],[.box true Ku],[]⟩
def qQo:zH:=⟨[(6,.c (.lit (.ptr 1001000 0))),(7,.c .bool)],[.box true qTh],[]⟩
def yGl (f:S7)(d:yGf.den):=(F4 (jW (f d.1.2.2.2.2.1.1 d.1.2.2.2.2.2.1.1) d.2.1) d.2.2.1) d.2.2.2.1
def S8:qC:=⟨[yGf],[(.exit 0,yK2),(.ret,qQo)],S9,fun k d=>yGl (E5 k k) d,fun b x _ K=>match x with|.inl x=>K (.exit 0) (zP b yK2 (((),()),((qXp x ()),())))|.inr x=>K .ret (zP b qQo (((),(x.1,()),()),((S6 x ()),())))⟩
def Ta:qB:=⟨[],[(6,S4),(3,S8)],[],false⟩
theorem yMh:zZ prog 1000 0 74 (zV (zV (zX f180) 0) 0) S4:=lp (A:=Ta) S4 (fun d=>match d with|.inl d=>.inl (d.1.2.2.2.2.1.1,d.1.2.2.2.2.2.1.1,(jV d.2.1 (Tb d.2.2.1 d.2.2.2.1)))|.inr d=>.inr (d.1.2.1.1,(jR d.2.1))) yIs E4 AY (e3 F8 Ga v8) zF
theorem yN1:zZ prog 1000 0 74 (zV (zX f180) 0) S8:=lp (A:=Ta) S8 (fun d=>match d with|.inl d=>.inl (yBu d.2.1)|.inr d=>.inr (d.1.2.1.1,(jR d.2.1))) yGl E5 AZ (e3 F8 Ga v8) (loops1 yMh)
def vEw:=zK 180 [.agg sR,.c (.dat true zJ),.c .i] (.tup [(true,qT9),(false,[.bool])]) (fun k d=>(nY (Ja k) d)) (fun x=>(vBv x ()))
theorem Tc:zB prog vEw:=fA (rs:=.tup [(true,qT9),(false,[.bool])]) f180 Ta (fun d=>(yPx d)) (e3 F8 Ga v8) (loops1 yN1)
def qZ9:zH:=⟨[(2,.c .i),(6,.c (.lit (.ptr 1001000 0))),(7,.c (.dat true zJ)),(8,.c (.lit (.osl 1001001 none))),(33,.c (.lit (.osl 1001002 none))),(34,.c .i),(35,.c .i)],[.box true eQ,.arr true zJ,.arr true zJ],[(8,none,zJ,false)]⟩
def yGt:zH:=⟨[(2,.c .i),(6,.c (.lit (.ptr 1001000 0))),(7,.c (.dat true zJ)),(8,.c (.lit (.osl 1001001 none)))],[.box true eQ,.arr true zJ],[]⟩
def yFa (f:Td)(d:qZ9.den):=(jW (f d.1.1.1 d.1.2.2.1.1 d.1.2.2.2.2.2.1.1 d.1.2.2.2.2.2.2.1.1) d.2.1) d.2.2.1 d.2.2.2.1
def Te:qC:=⟨[qZ9],[(.exit 2,yGt)],Tf,fun k d=>yFa (sm k k) d,fun b x _ K=>K (.exit 2) (zP b yGt (((x.1,()),(),(x.2.1,()),(),()),((Q9 x ()),x.2.2.2.2.2.2,())))⟩
def qVl:zH:=⟨[(2,.c .i),(6,.c (.lit (.ptr 1001000 0))),(7,.c (.dat true zJ)),(8,.c (.lit (.osl 1001001 none)))],[.box true eQ,.arr true zJ],[(8,none,zJ,false)]⟩
def yEe:zH:=⟨[(6,.c (.lit (.ptr 1001000 0))),(7,.c (.dat true zJ)),(8,.c (.lit (.osl 1001001 none)))],[.box true eQ,.arr true zJ],[]⟩
def qS2 (f:Tg)(d:qVl.den):=(jW (f d.1.1.1 d.1.2.2.1.1) d.2.1) d.2.2.1
def Th:qC:=⟨[qVl],[(.ret,yEe)],Ti,fun k d=>qS2 (E6 k k) d,fun b x _ K=>K .ret (zP b yEe (((),(x.1,()),(),()),((lI x ()),x.2.2.2.2.2,())))⟩
def Tj:qB:=⟨[],[(7,Te),(2,Th)],[],false⟩
theorem yOm:zZ prog 1000 0 52 (zV (zV (zX f165) 0) 0) Te:=lp (A:=Tj) Te (fun d=>(d.1.1.1,d.1.2.2.1.1,(jV d.2.1 d.2.2.1))) yFa sm sn (e2 Tc mB) zF
theorem yP4:zZ prog 1000 0 52 (zV (zX f165) 0) Th:=lp (A:=Tj) Th (fun d=>(d.1.2.1.1,(jV d.2.1 d.2.2.1))) qS2 E6 A0 (e2 Tc mB) (loops1 yOm)
def ySe:=zK 165 [.agg sR,.c (.dat true zJ),.c .i] (.tup [(true,j3),(false,[.fro zJ]),(false,[.own zJ])]) (fun k d=>(nY (Jb k) d)) (fun x=>(sS x ()))
theorem yC6:zB prog ySe:=fA (rs:=.tup [(true,j3),(false,[.fro zJ]),(false,[.own zJ])]) f165 Tj (fun d=>(v9 d)) (e2 Tc mB) (loops1 yP4)
def yC4:zH:=⟨[(2,.c .i),(6,.c (.lit (.ptr 1001000 0))),(7,.c (.dat true zJ)),(8,.c (.lit (.osl 1001001 none)))],[.box true eQ,.arr true zJ],[(8,none,zJ,false)]⟩
def yFg:zH:=⟨[(6,.c (.lit (.ptr 1001000 0))),(7,.c (.dat true zJ)),(8,.c (.lit (.osl 1001001 none)))],[.box true eQ,.arr true zJ],[]⟩
def yGq (f:Tl)(d:yC4.den):=(jW (f d.1.1.1 d.1.2.2.1.1) d.2.1) d.2.2.1
def Tm:qC:=⟨[yC4],[(.ret,yFg)],Tn,fun k d=>yGq (Fc k k) d,fun b x _ K=>K .ret (zP b yFg (((),(x.1,()),(),()),((lI x ()),x.2.2.2.2.2,())))⟩
def yE8:qB:=⟨[],[(2,Tm)],[],false⟩
theorem vHr:zZ prog 1000 0 40 (zV (zX f145) 0) Tm:=lp (A:=yE8) Tm (fun d=>(d.1.2.1.1,(jV d.2.1 d.2.2.1))) yGq Fc Jg (e2 yAs yC6) zF
def yYf:=zK 145 [.agg sR,.c (.dat true zJ),.c .i] (.tup [(true,j3),(false,[.fro zJ]),(false,[.own zJ])]) (fun k d=>(nY (Fe k) d)) (fun x=>(sS x ()))
theorem vB8:zB prog yYf:=fA (rs:=.tup [(true,j3),(false,[.fro zJ]),(false,[.own zJ])]) f145 yE8 (fun d=>(v9 d)) (e2 yAs yC6) (loops1 vHr)
def vFl:=rN 182 false .i (.own .i) Pm
theorem vBz:zB prog vFl:=fC f182 ⟨[],[],[],false⟩ e0 zF
def vEq:=yV 183 [.agg wC,.ptr true [.own .i]] (.c .bool) [nT] 0 (fun k d=>(mA (Po k) d)) (fun x=>(x.1,x.2,()))
theorem yFq:zB prog vEq:=fX (rs:=.c .bool) (os:=[nT]) (ns:=0) f183 ⟨[],[],[],false⟩ 2 (fun d=>(d.1,d.2.1)) e0 zF
def qVr:zH:=⟨[(1,.c (.lit (.fn 183 [1001000]))),(5,.c (.lit (.osl 1001002 none))),(8,.c (.dat false zJ)),(9,.c .i),(10,.c .i)],[.box true [.lit (.osl 1001001 none)],.arr true .i,.arr true zJ],[(5,none,zJ,false)]⟩
def yFx:zH:=⟨[(1,.c (.lit (.fn 183 [1001000]))),(5,.c (.lit (.osl 1001002 none)))],[.box true [.lit (.osl 1001001 none)],.arr true .i,.arr true zJ],[]⟩
def qPz (f:To)(d:qVr.den):=f d.1.2.2.1.1 d.1.2.2.2.1.1 d.1.2.2.2.2.1.1 d.2.2.1 d.2.2.2.1
def Tp:qC:=⟨[qVr],[(.exit 0,yFx)],Tq,fun k d=>qPz (A5 k k) d,fun b x _ K=>K (.exit 0) (zP b yFx (((),(),()),((),x.1,x.2,())))⟩
def qRr:qB:=⟨[],[(3,Tp)],[],false⟩
theorem yLz:zZ prog 1000 2 23 (zV (zX f126) 0) Tp:=lp (A:=qRr) Tp (fun d=>(d.2.2.1,d.2.2.2.1)) qPz A5 A6 (e1 yFq) zF
def yXe:=yV 126 [.c (.p (.dat false zJ)),.fn 183 [(true,[.own .i])]] (.c (.own zJ)) [nT] 0 (fun k d=>Pn k d.1 d.2.1) (fun x=>(x.1,x.2,()))
theorem yYv:zB prog yXe:=fX (rs:=.c (.own zJ)) (os:=[nT]) (ns:=0) f126 qRr 2 (fun d=>(d.1,d.2.1)) (e1 yFq) (loops1 yLz)
def vDv:=zK 167 [.c (.dat false zJ),.c (.dat false .i)] (.c (.own zJ)) (fun k d=>A4 k d.1 d.2.1) (fun x=>(x,()))
theorem B9:zB prog vDv:=fA (rs:=.c (.own zJ)) f167 ⟨[],[],[],false⟩ (fun d=>d.1) (e2 vBz yYv) zF
def qV7:zH:=⟨[(3,.c (.lit (.ptr 1001000 0))),(6,.c (.lit (.osl 1001001 none))),(7,.c .i),(8,.c (.lit (.osl 1001002 none))),(18,.c .i),(19,.c .i)],[.box true kF,.arr true .i,.arr true zJ],[(6,none,.i,false)]⟩
def qVz:zH:=⟨[(3,.c (.lit (.ptr 1001000 0))),(6,.c (.lit (.osl 1001001 none))),(7,.c .i),(8,.c (.lit (.osl 1001002 none)))],[.box true kF,.arr true .i,.arr true zJ],[]⟩
def qTf (f:Ts)(d:qV7.den):=(jW (f d.1.2.2.1.1 d.1.2.2.2.2.1.1 d.1.2.2.2.2.2.1.1) d.2.1) d.2.2.1 d.2.2.2.1
def Kv:qC:=⟨[qV7],[(.exit 0,qVz)],Tt,fun k d=>qTf (uS k k) d,fun b x _ K=>K (.exit 0) (zP b qVz (((),(),(x.1,()),(),()),((lI x ()),x.2.2.2.2.2.1,x.2.2.2.2.2.2,())))⟩
def qRs:zH:=⟨[(3,.c (.lit (.ptr 1001000 0))),(6,.c (.lit (.osl 1001001 none))),(7,.c .i),(8,.c (.lit (.osl 1001002 none))),(42,.c (.lit (.osl 1001003 none))),(43,.c .i),(44,.c .i)],[.box true kF,.arr true .i,.arr true zJ,.arr true .i],[]⟩
def yA3:zH:=⟨[(3,.c (.lit (.ptr 1001000 0))),(6,.c (.lit (.osl 1001001 none))),(7,.c .i),(8,.c (.lit (.osl 1001002 none)))],[.box true kF,.arr true .i,.arr true zJ],[]⟩
def yJy (f:Tu)(d:qRs.den):=(jW (f d.1.2.2.1.1 d.1.2.2.2.2.2.1.1 d.1.2.2.2.2.2.2.1.1) d.2.1) d.2.2.1 d.2.2.2.1 d.2.2.2.2.1
def Tv:qC:=⟨[qRs],[(.exit 4,yA3)],Tw,fun k d=>yJy (A9 k k) d,fun b x _ K=>K (.exit 4) (zP b yA3 (((),(),(x.1,()),(),()),((lI x ()),x.2.2.2.2.2.1,x.2.2.2.2.2.2,())))⟩
def qRq:zH:=⟨[(3,.c (.lit (.ptr 1001000 0))),(6,.c (.lit (.osl 1001001 none))),(7,.c .i),(8,.c (.lit (.osl 1001002 none)))],[.box true kF,.arr true .i,.arr true zJ],[]⟩
def qWq:zH:=⟨[(6,.c (.lit (.osl 1001000 none))),(7,.c .i)],[.arr true .i],[]⟩
def qSl (f:Tx)(d:qRq.den):=(jW (f d.1.2.2.1.1) d.2.1) d.2.2.1 d.2.2.2.1
def Kw:qC:=⟨[qRq],[(.ret,qWq)],(Int×AC),fun k d=>qSl (Fa k k) d,fun b x _ K=>K .ret (zP b qWq (((),(x.1,()),()),(x.2,())))⟩
def Kx:qB:=⟨[],[(3,Kv),(12,Tv),(7,Kw)],[],false⟩
theorem yQ7:zZ prog 1000 0 55 (zV (zX f166) 0) Kv:=lp (A:=Kx) Kv (fun d=>(d.1.2.2.1.1,(jV d.2.1 (d.2.2.1,d.2.2.2.1)))) qTf uS A8 (e4 v7 F2 B9 F9) zF
theorem vEl:zZ prog 1000 0 55 (zV (zV (zX f166) 1) 0) Tv:=lp (A:=Kx) Tv (fun d=>(d.1.2.2.1.1,(jV d.2.1 (d.2.2.1,d.2.2.2.1)))) yJy A9 Ba (e4 v7 F2 B9 F9) zF
theorem yN9:zZ prog 1000 0 55 (zV (zX f166) 1) Kw:=lp (A:=Kx) Kw (fun d=>(d.1.2.1.1,d.2.1)) qSl Fa Bb (e4 v7 F2 B9 F9) (loops1 vEl)
def vDi:=zK 166 [.agg fR,.c (.dat false zJ),.c .i] (.tup [(false,nT),(false,qM)]) (fun k d=>(nY (Je k) d)) (fun x=>(x.1,x.2,()))
theorem yDz:zB prog vDi:=fA (rs:=.tup [(false,nT),(false,qM)]) f166 Kx (fun d=>(d.1,d.2.1)) (e4 v7 F2 B9 F9) (rD (n:=2) (by kernel_rfl) fun i hi=>match i,hi with|0,_=>⟨Kv,by kernel_rfl,yQ7⟩|1,_=>⟨Kw,by kernel_rfl,yN9⟩|i+2,hi=>absurd hi (by omega))
def qR7:zH:=⟨[(6,.c (.lit (.ptr 1001000 0))),(7,.c (.dat true zJ)),(11,.c (.lit (.osl 1001001 none))),(38,.c (.lit (.osl 1001001 none))),(39,.c .i),(40,.c .i)],[.box true eQ,.arr true zJ],[]⟩
def qZ2:zH:=⟨[(6,.c (.lit (.ptr 1001000 0))),(7,.c (.dat true zJ)),(11,.c (.lit (.osl 1001001 none)))],[.box true eQ,.arr true zJ],[]⟩
def qWz (f:Tz)(d:qR7.den):=(jW (f d.1.2.1.1 d.1.2.2.2.2.1.1 d.1.2.2.2.2.2.1.1) d.2.1) d.2.2.1
def TA:qC:=⟨[qR7],[(.exit 0,qZ2)],TB,fun k d=>qWz (uT k k) d,fun b x _ K=>K (.exit 0) (zP b qZ2 (((),(x.1,()),(),()),((lI x ()),x.2.2.2.2.2,())))⟩
def qZw:qB:=⟨[],[(8,TA)],[],false⟩
theorem yPv:zZ prog 1000 0 56 (zV (zX f146) 0) TA:=lp (A:=qZw) TA (fun d=>(d.1.2.1.1,(jV d.2.1 d.2.2.1))) qWz uT Bc (e5 yDz v7 B9 v8 mB) zF
def vGa:=zK 146 [.agg sR,.c (.dat true zJ),.c .i] (.tup [(true,j3),(false,[.fro zJ]),(false,[.own zJ])]) (fun k d=>(nY (Bd k) d)) (fun x=>(sS x ()))
theorem yW7:zB prog vGa:=fA (rs:=.tup [(true,j3),(false,[.fro zJ]),(false,[.own zJ])]) f146 qZw (fun d=>(v9 d)) (e5 yDz v7 B9 v8 mB) (loops1 yPv)
def yS6:=zK 111 [.agg sR,.c (.dat true zJ),.c .i,.c .bool] (.tup [(true,j3),(false,[.fro zJ]),(false,[.own zJ])]) (fun k d=>(sQ (uU k) d)) (fun x=>(sS x ()))
theorem yTm:zB prog yS6:=fA (rs:=.tup [(true,j3),(false,[.fro zJ]),(false,[.own zJ])]) f111 ⟨[],[],[],false⟩ (fun d=>(v9 d)) (e2 vB8 yW7) zF
def qXz:zH:=⟨[(3,.c (.lit (.osl 1001000 none))),(5,.c (.lit (.ptr 1001001 0))),(8,.c (.dat false zJ)),(9,.c .i),(10,.c .i),(18,.c (.lit (.osl 1001002 none))),(19,.c .i),(20,.c .i)],[.arr true yR,.box true iN,.arr true .i],[(3,none,yR,false)]⟩
def qYq:zH:=⟨[(3,.c (.lit (.osl 1001000 none))),(8,.c (.dat false zJ)),(9,.c .i),(10,.c .i)],[.arr true yR],[]⟩
def yGo (f:TC)(d:qXz.den):=(sQ (f d.1.2.2.1.1 d.1.2.2.2.1.1 d.1.2.2.2.2.1.1 d.1.2.2.2.2.2.2.1.1 d.1.2.2.2.2.2.2.2.1.1 d.2.1) d.2.2.1) d.2.2.2.1
def TD:qC:=⟨[qXz],[(.exit 2,qYq)],TE,fun k d=>yGo (sr k k) d,fun b x _ K=>K (.exit 2) (zP b qYq (((),(x.1,()),(x.2.1,()),(x.2.2.1,()),()),(x.2.2.2,())))⟩
def qX6:zH:=⟨[(3,.c (.lit (.osl 1001000 none))),(8,.c (.dat false zJ)),(9,.c .i),(10,.c .i)],[.arr true yR],[(3,none,yR,false)]⟩
def qSo:zH:=⟨[(3,.c (.lit (.osl 1001000 none)))],[.arr true yR],[]⟩
def qVk (f:TF)(d:qX6.den):=f d.1.2.1.1 d.1.2.2.1.1 d.1.2.2.2.1.1 d.2.1
def TG:qC:=⟨[qX6],[(.exit 0,qSo)],TH,fun k d=>qVk (Fg k k) d,fun b x _ K=>K (.exit 0) (zP b qSo (((),()),(x,())))⟩
def TI:qB:=⟨[],[(6,TD),(3,TG)],[],false⟩
theorem vEf:zZ prog 1000 0 41 (zV (zV (zX f112) 0) 0) TD:=lp (A:=TI) TD (fun d=>(d.1.2.1.1,d.1.2.2.1.1,d.1.2.2.2.1.1,d.2.1)) yGo sr ss (e1 sO) zF
theorem vFt:zZ prog 1000 0 41 (zV (zX f112) 0) TG:=lp (A:=TI) TG (fun d=>d.2.1) qVk Fg Be (e1 sO) (loops1 vEf)
def vIf:=zK 112 [.c (.dat false zJ)] (.c (.own yR)) (fun k d=>Jj k d.1) (fun x=>(x,()))
theorem yLu:zB prog vIf:=fA (rs:=.c (.own yR)) f112 TI (fun d=>d.1) (e1 sO) (loops1 vFt)
def vCy:=zK 61 [.agg F0,.c .bool] (.tup [(true,nV),(false,[.own yR])]) (fun k d=>(Ky (pD k) d)) (fun x=>(F6 x ()))
theorem TJ:zB prog vCy:=fA (rs:=.tup [(true,nV),(false,[.own yR])]) f61 ⟨[],[],[],false⟩ (fun d=>(F7 d)) (e2 yTm yLu) zF
def qY6:zH:=⟨[(2,.c (.lit (.ptr 1001000 0))),(3,.c (.lit (.ptr 1001001 0))),(4,.c (.lit (.ptr 1001002 0))),(6,.c (.lit (.osl 1001003 none))),(7,.c (.lit (.osl 1001004 none))),(27,.c (.dat true zJ)),(28,.c .i),(29,.c .i)],[.box true sJ,.box true jz,.box true jy,.arr true yR,.arr true zJ],[(6,none,yR,false),(7,none,zJ,false)]⟩
def yBq:zH:=⟨[(2,.c (.lit (.ptr 1001000 0))),(3,.c (.lit (.ptr 1001001 0))),(4,.c (.lit (.ptr 1001002 0))),(6,.c (.lit (.osl 1001003 none))),(7,.c (.lit (.osl 1001004 none)))],[.box true sJ,.box true jz,.box true jy,.arr true yR,.arr true zJ],[]⟩
def qVi (f:TK)(d:qY6.den):=(pN (nZ (f d.1.2.2.2.2.2.1.1 d.1.2.2.2.2.2.2.1.1 d.1.2.2.2.2.2.2.2.1.1) d.2.1) d.2.2.1) d.2.2.2.1.1 d.2.2.2.1.2.1 d.2.2.2.1.2.2.1 d.2.2.2.2.1 d.2.2.2.2.2.1
def TL:qC:=⟨[qY6],[(.exit 0,yBq)],TM,fun k d=>qVi (Bk k k) d,fun b x _ K=>K (.exit 0) (zP b yBq (((),(),(),(),(),()),((sU x ()),(vE2 x ()),(x.2.2.2.2.2.2.2.2.2.2.2.2.2.2.2.2.1,x.2.2.2.2.2.2.2.2.2.2.2.2.2.2.2.2.2.1,x.2.2.2.2.2.2.2.2.2.2.2.2.2.2.2.2.2.2.1,()),x.2.2.2.2.2.2.2.2.2.2.2.2.2.2.2.2.2.2.2.1,x.2.2.2.2.2.2.2.2.2.2.2.2.2.2.2.2.2.2.2.2,())))⟩
def qQ3:qB:=⟨[],[(9,TL)],[],false⟩
theorem vHn:zZ prog 1000 0 66 (zV (zX f60) 0) TL:=lp (A:=qQ3) TL (fun d=>(sU d.2.1 (sP d.2.2.1 (d.2.2.2.1.1,d.2.2.2.1.2.1,d.2.2.2.1.2.2.1,d.2.2.2.2.1,d.2.2.2.2.2.1)))) qVi Bk Bl (e6 Kn qYt yKj sO yIx TJ) zF
def yMs:=zK 60 [.agg lE,.agg F0] (.tup [(true,nV),(false,[.own yR])]) (fun k d=>(yJn (uZ k) d)) (fun x=>(F6 x ()))
theorem yM4:zB prog yMs:=fA (rs:=.tup [(true,nV),(false,[.own yR])]) f60 qQ3 (fun d=>(F7 d)) (e6 Kn qYt yKj sO yIx TJ) (loops1 vHn)
def vHp:=yV 101 [.ptr true sK,.agg [.i,.i,.i,.i,.i,.i]] (.c .i) [wA] 0 (fun k d=>qQd k (gV d) (qT6 d)) (fun x=>(x.1,(wW x.2 ())))
theorem ySb:zB prog vHp:=fX (rs:=.c .i) (os:=[wA]) (ns:=0) f101 n0 1 (fun d=>(d.1,(fQ d))) (e4 eW yEk qYc Ki) zF
def yZg:=yV 102 [.ptr true sK,.agg wC] (.c .i) [wA] 0 (fun k d=>Kz k (gV d) (B4 d)) (fun x=>(x.1,(wW x.2 ())))
theorem yU7:zB prog yZg:=fX (rs:=.c .i) (os:=[wA]) (ns:=0) f102 n0 1 (fun d=>(d.1,(fQ d))) (e8 qP2 mB qQw eW Ra yG2 qTo qZr) zF
def yWm:=yV 103 [.ptr true sK,.agg wC] (.c .i) [wA] 0 (fun k d=>KA k (gV d) (B4 d)) (fun x=>(x.1,(wW x.2 ())))
theorem yLj:zB prog yWm:=fX (rs:=.c .i) (os:=[wA]) (ns:=0) f103 n0 1 (fun d=>(d.1,(fQ d))) (e3 lH qV9 eW) zF
def yNn:=yV 104 [.ptr true sK,.c (.p .i),.c (.p .i)] (.c .i) [wA] 0 (fun k d=>yCu k (gV d) d.2.2.2.2.2.2.2.2.2.2.2.2.2.2.2.2.2.2.1 d.2.2.2.2.2.2.2.2.2.2.2.2.2.2.2.2.2.2.2.1) (fun x=>(x.1,(wW x.2 ())))
theorem vBp:zB prog yNn:=fX (rs:=.c .i) (os:=[wA]) (ns:=0) f104 n0 1 (fun d=>(d.1,(fQ d))) (e6 B5 eW yJ0 B6 sN lH) zF
def yT3:=yV 105 [.ptr true sK,.c (.p .i),.c (.p .i),.c (.p .i)] (.c .i) [wA] 0 (fun k d=>Bv k (gV d) d.2.2.2.2.2.2.2.2.2.2.2.2.2.2.2.2.2.2.1 d.2.2.2.2.2.2.2.2.2.2.2.2.2.2.2.2.2.2.2.1 d.2.2.2.2.2.2.2.2.2.2.2.2.2.2.2.2.2.2.2.2.1) (fun x=>(x.1,(wW x.2 ())))
theorem yWj:zB prog yT3:=fX (rs:=.c .i) (os:=[wA]) (ns:=0) f105 n0 1 (fun d=>(d.1,(fQ d))) (e5 eW yFk yI1 yD1 lH) zF
def yAc:zH:=⟨[(0,.c (.lit (.ptr 1001000 0))),(7,.c (.lit (.osl 1001001 none))),(8,.c (.lit (.ptr 1001002 0))),(40,.c (.dat true (.sl .i))),(41,.c .i),(42,.c .i)],[.box true TN,.arr true .i,.box true Kt,.arr true qZ,.mat,.arr true .i,.mat],[]⟩
def qT2:zH:=⟨[(0,.c (.lit (.ptr 1001000 0))),(7,.c (.lit (.osl 1001001 none))),(8,.c (.lit (.ptr 1001002 0)))],[.box true TN,.arr true .i,.box true Kt,.arr true qZ,.mat,.arr true .i,.mat],[]⟩
def yD8:zH:=⟨[(0,.c (.lit (.ptr 1001000 0))),(6,.c .i)],[.box true TN],[]⟩
def yKh (f:TO)(d:yAc.den):=f d.1.2.2.2.1.1 d.1.2.2.2.2.1.1 d.1.2.2.2.2.2.1.1 (gV d.2.1) d.2.2.1 d.2.2.2.2.1 d.2.2.2.2.2.1 d.2.2.2.2.2.2.1 d.2.2.2.2.2.2.2.1
def TP:qC:=⟨[yAc],[(.exit 0,qT2),(.ret,yD8)],TQ,fun k d=>yKh (pH k k) d,fun b x _ K=>match x with|.inl x=>K (.exit 0) (zP b qT2 (((),(),(),()),((yX x.1 ()),x.2.1,(),x.2.2.1,x.2.2.2.1,x.2.2.2.2.1,x.2.2.2.2.2,())))|.inr x=>K .ret (zP b yD8 (((),(x.1,()),()),((yX x.2 ()),())))⟩
def qW0:qB:=⟨[],[(6,TP)],[],true⟩
theorem yVo:zZ prog 1000 1 81 (zV (zX f106) 0) TP:=lp (A:=qW0) TP (fun d=>match d with|.inl d=>.inl ((gV d.2.1),d.2.2.1,d.2.2.2.2.1,d.2.2.2.2.2.1,d.2.2.2.2.2.2.1,d.2.2.2.2.2.2.2.1)|.inr d=>.inr (d.1.2.1.1,(gV d.2.1))) yKh pH BA (e5 B5 eW B6 lH sN) zF
def yRp:=yV 106 [.ptr true sK,.c (.p .i),.c (.p .i)] (.c .i) [wA] 0 (fun k d=>Jz k (gV d) d.2.2.2.2.2.2.2.2.2.2.2.2.2.2.2.2.2.2.1 d.2.2.2.2.2.2.2.2.2.2.2.2.2.2.2.2.2.2.2.1) (fun x=>(x.1,(wW x.2 ())))
theorem yXh:zB prog yRp:=fX (rs:=.c .i) (os:=[wA]) (ns:=0) f106 qW0 1 (fun d=>(d.1,(fQ d))) (e5 B5 eW B6 lH sN) (loops1 yVo)
def yM2:=yV 59 [.ptr true sK,.agg wC] (.c .i) [wA] 0 (fun k d=>JC k (gV d) (B4 d)) (fun x=>(x.1,(wW x.2 ())))
theorem yQp:zB prog yM2:=fX (rs:=.c .i) (os:=[wA]) (ns:=0) f59 n0 1 (fun d=>(d.1,(fQ d))) (e6 ySb yU7 yLj vBp yWj yXh) zF
def yQ1:=zK 21 [.agg qOp,.agg F0,.agg Q5] (.tup [(true,nV),(false,[.own yR]),(false,qM)]) (fun k d=>fk k (wD d) (nR d) (qP3 d)) (fun x=>(eO x.1 (x.2.1,x.2.2,())))
theorem Gc:zB prog yQ1:=fA (rs:=.tup [(true,nV),(false,[.own yR]),(false,qM)]) f21 n0 (fun d=>((vK d),d.2.2.2.2.2.2.2.2.2.2.2.1,d.2.2.2.2.2.2.2.2.2.2.2.2.1)) (e9 vA1 vE3 qQw ySf yM4 TJ sL qRe yQp) zF
def vAr:=yV 22 [.chn [TR,j0],.c (.p (.dat false (.int .u8)))] (.c .i) [Ca,vX] 0 (fun k d=>pJ k (KB d) (KC d) d.2.2.2.2.2.2.2.2.2.2.2.2.2.2.2.1) (fun x=>(x.1,(),(eV x.2.1 (fP x.2.2 ()))))
theorem KD:zB prog vAr:=fX (rs:=.c .i) (os:=[Ca,vX]) (ns:=0) f22 n0 0 (fun d=>(d.1,(TS d),(TT d))) (e1 qRf) zF
def vGw:=zK 87 [.c .i] (.c .bool) (fun k d=>PJ k d.1) (fun x=>(x,()))
theorem qSq:zB prog vGw:=fA (rs:=.c .bool) f87 n0 (fun d=>d.1) (e1 eW) zF
def yEd:zH:=⟨[(0,.c (.dat false .i)),(1,.c (.lit (.fn 87 []))),(7,.c .i),(8,.c .i)],[],[]⟩
def yAl:zH:=⟨[],[],[]⟩
def qQm:zH:=⟨[(4,.c .i)],[],[]⟩
def qVv (f:TU)(d:yEd.den):=f d.1.1.1 d.1.2.2.1.1 d.1.2.2.2.1.1
def TV:qC:=⟨[yEd],[(.exit 0,yAl),(.ret,qQm)],(Unit⊕Int),fun k d=>qVv (vl k k) d,fun b x _ K=>match x with|.inl x=>K (.exit 0) (zP b yAl ((),()))|.inr x=>K .ret (zP b qQm (((x,()),()),()))⟩
def yDk:qB:=⟨[],[(2,TV)],[],false⟩
theorem yWp:zZ prog 1000 0 19 (zV (zX f121) 0) TV:=lp (A:=yDk) TV (fun d=>match d with|.inl d=>.inl ()|.inr d=>.inr d.1.1.1) qVv vl BF (e1 qSq) zF
def yYq:=zK 121 [.c (.dat false .i),.c (.fn 87)] (.c .i) (fun k d=>PK k d.1) (fun x=>(x,()))
theorem yLk:zB prog yYq:=fA (rs:=.c .i) f121 yDk (fun d=>d.1) (e1 qSq) (loops1 yWp)
def yRo:=zK 86 [.c (.dat false .i),.c (.fn 87)] (.c .bool) (fun k d=>FG k d.1) (fun x=>(x,()))
theorem qYw:zB prog yRo:=fA (rs:=.c .bool) f86 ⟨[],[],[],false⟩ (fun d=>d.1) (e1 yLk) zF
def yOr:=zK 89 [.c .i] (.c .bool) (fun k d=>PM k d.1) (fun x=>(x,()))
theorem yHq:zB prog yOr:=fA (rs:=.c .bool) f89 n0 (fun d=>d.1) e0 zF
def yJs:zH:=⟨[(0,.c (.dat false .i)),(1,.c (.lit (.fn 89 []))),(7,.c .i),(8,.c .i)],[],[]⟩
def yDs:zH:=⟨[],[],[]⟩
def qTy:zH:=⟨[(4,.c .i)],[],[]⟩
def yBk (f:TW)(d:yJs.den):=f d.1.1.1 d.1.2.2.1.1 d.1.2.2.2.1.1
def TX:qC:=⟨[yJs],[(.exit 0,yDs),(.ret,qTy)],(Unit⊕Int),fun k d=>yBk (vm k k) d,fun b x _ K=>match x with|.inl x=>K (.exit 0) (zP b yDs ((),()))|.inr x=>K .ret (zP b qTy (((x,()),()),()))⟩
def qZ3:qB:=⟨[],[(2,TX)],[],false⟩
theorem yWk:zZ prog 1000 0 19 (zV (zX f121) 0) TX:=lp (A:=qZ3) TX (fun d=>match d with|.inl d=>.inl ()|.inr d=>.inr d.1.1.1) yBk vm BG (e1 yHq) zF
def yY7:=zK 121 [.c (.dat false .i),.c (.fn 89)] (.c .i) (fun k d=>PN k d.1) (fun x=>(x,()))
theorem vH2:zB prog yY7:=fA (rs:=.c .i) f121 qZ3 (fun d=>d.1) (e1 yHq) (loops1 yWk)
def vG0:=zK 86 [.c (.dat false .i),.c (.fn 89)] (.c .bool) (fun k d=>JJ k d.1) (fun x=>(x,()))
theorem qZ7:zB prog vG0:=fA (rs:=.c .bool) f86 ⟨[],[],[],false⟩ (fun d=>d.1) (e1 vH2) zF
def yEu:zH:=⟨[(2,.c (.lit (.ptr 1001000 0))),(3,.c (.lit (.ptr 1001001 0))),(28,.c (.dat false (.sl .i))),(29,.c .i),(30,.c .i)],[.box true sJ,.box true KE],[]⟩
def qXc:zH:=⟨[],[],[]⟩
def qWr:zH:=⟨[(4,.c .bool)],[],[]⟩
def yBb (f:TY)(d:yEu.den):=f d.1.2.2.1.1 d.1.2.2.2.1.1 d.1.2.2.2.2.1.1 (wD d.2.1) (vK d.2.2.1)
def TZ:qC:=⟨[yEu],[(.exit 0,qXc),(.ret,qWr)],(Unit⊕Bool),fun k d=>yBb (sD k k) d,fun b x _ K=>match x with|.inl x=>K (.exit 0) (zP b qXc ((),()))|.inr x=>K .ret (zP b qWr (((x,()),()),()))⟩
def yHs:qB:=⟨[],[(6,TZ)],[],true⟩
theorem vBo:zZ prog 1000 0 66 (zV (zX f51) 0) TZ:=lp (A:=yHs) TZ (fun d=>match d with|.inl d=>.inl ()|.inr d=>.inr d.1.1.1) yBb sD BH (e3 qYw sN qZ7) zF
def yPf:=zK 51 [.agg lE,.agg nW] (.c .bool) (fun k d=>FH k (wD d) (nR d)) (fun x=>(x,()))
theorem yJg:zB prog yPf:=fA (rs:=.c .bool) f51 yHs (fun d=>d.1) (e3 qYw sN qZ7) (loops1 vBo)
def qQl:zH:=⟨[(0,.c (.dat false zJ)),(1,.c (.lit (.fn 125 []))),(5,.c .i)],[],[]⟩
def yBy:zH:=⟨[],[],[]⟩
def qT5:zH:=⟨[(4,.c .bool)],[],[]⟩
def qXh (f:T0)(d:qQl.den):=f d.1.1.1 d.1.2.2.1.1
def T1:qC:=⟨[qQl],[(.exit 0,yBy),(.ret,qT5)],(Unit⊕Bool),fun k d=>qXh (FB k k) d,fun b x _ K=>match x with|.inl x=>K (.exit 0) (zP b yBy ((),()))|.inr x=>K .ret (zP b qT5 (((x,()),()),()))⟩
def yD2:qB:=⟨[],[(2,T1)],[],true⟩
theorem yOk:zZ prog 1000 0 25 (zV (zX f124) 0) T1:=lp (A:=yD2) T1 (fun d=>match d with|.inl d=>.inl ()|.inr d=>.inr d.1.1.1) qXh FB JG (e1 B3) zF
def vAh:=zK 124 [.c (.dat false zJ),.c (.fn 125)] (.c .bool) (fun k d=>JF k d.1) (fun x=>(x,()))
theorem yCm:zB prog vAh:=fA (rs:=.c .bool) f124 yD2 (fun d=>d.1) (e1 B3) (loops1 yOk)
def yCl:zH:=⟨[(0,.c (.dat false zJ)),(5,.c (.dat false zJ)),(6,.c .i),(7,.c .i)],[],[]⟩
def yJ3:zH:=⟨[(0,.c (.dat false zJ))],[],[]⟩
def yId:zH:=⟨[(2,.c .bool)],[],[]⟩
def qX0 (f:T2)(d:yCl.den):=f d.1.1.1 d.1.2.1.1 d.1.2.2.1.1 d.1.2.2.2.1.1
def T3:qC:=⟨[yCl],[(.exit 0,yJ3),(.ret,yId)],T4,fun k d=>qX0 (vj k k) d,fun b x _ K=>match x with|.inl x=>K (.exit 0) (zP b yJ3 (((x,()),()),()))|.inr x=>K .ret (zP b yId (((x,()),()),()))⟩
def qQ7:qB:=⟨[],[(2,T3)],[],false⟩
theorem vAb:zZ prog 1000 0 26 (zV (zX f93) 0) T3:=lp (A:=qQ7) T3 (fun d=>match d with|.inl d=>.inl d.1.1.1|.inr d=>.inr d.1.1.1) qX0 vj BC (e2 sL yCm) zF
def vH8:=zK 93 [.c (.dat false zJ)] (.c .bool) (fun k d=>FA k d.1) (fun x=>(x,()))
theorem vCc:zB prog vH8:=fA (rs:=.c .bool) f93 qQ7 (fun d=>d.1) (e2 sL yCm) (loops1 vAb)
def yK1:zH:=⟨[(0,.c (.dat false .i)),(3,.c .i),(6,.c (.dat false .i)),(7,.c .i),(8,.c .i)],[],[]⟩
def qVa:zH:=⟨[(0,.c (.dat false .i))],[],[]⟩
def yEo:zH:=⟨[(2,.c .bool)],[],[]⟩
def yHi (f:T5)(d:yK1.den):=f d.1.1.1 d.1.2.1.1 d.1.2.2.1.1 d.1.2.2.2.1.1 d.1.2.2.2.2.1.1
def T6:qC:=⟨[yK1],[(.exit 0,qVa),(.ret,yEo)],(AC⊕Bool),fun k d=>yHi (FD k k) d,fun b x _ K=>match x with|.inl x=>K (.exit 0) (zP b qVa (((x,()),()),()))|.inr x=>K .ret (zP b yEo (((x,()),()),()))⟩
def yI8:qB:=⟨[],[(3,T6)],[],true⟩
theorem yT2:zZ prog 1000 0 20 (zV (zX f94) 0) T6:=lp (A:=yI8) T6 (fun d=>match d with|.inl d=>.inl d.1.1.1|.inr d=>.inr d.1.1.1) yHi FD BD e0 zF
def yVy:=zK 94 [.c (.dat false .i)] (.c .bool) (fun k d=>FC k d.1) (fun x=>(x,()))
theorem vC9:zB prog yVy:=fA (rs:=.c .bool) f94 yI8 (fun d=>d.1) e0 (loops1 yT2)
def yNd:=zK 92 [.c (.dat false .i),.c .i] (.c .bool) (fun k d=>IY k d.1 d.2.1) (fun x=>(x,()))
theorem yUr:zB prog yNd:=fA (rs:=.c .bool) f92 n0 (fun d=>d.1) (e1 yJa) zF
def yYr:=zK 90 [.agg wC,.ptr nW] (.c .bool) (fun k d=>JI k (dI d) (yY6 d)) (fun x=>(x,()))
theorem yA2:zB prog yYr:=fA (rs:=.c .bool) f90 n0 (fun d=>d.1) (e3 Sc eW yUr) zF
def yHf:zH:=⟨[(0,.c (.dat false zJ)),(1,.c (.lit (.fn 90 [1001000]))),(7,.c .i),(8,.c .i)],[.robox KE],[]⟩
def yB3:zH:=⟨[],[],[]⟩
def qSr:zH:=⟨[(4,.c .i)],[],[]⟩
def qRg (f:T7)(d:yHf.den):=(pN (f d.1.1.1 d.1.2.2.1.1 d.1.2.2.2.1.1) d.2.1)
def T8:qC:=⟨[yHf],[(.exit 0,yB3),(.ret,qSr)],(Unit⊕Int),fun k d=>qRg (vk k k) d,fun b x _ K=>match x with|.inl x=>K (.exit 0) (zP b yB3 ((),()))|.inr x=>K .ret (zP b qSr (((x,()),()),()))⟩
def qSy:qB:=⟨[],[(2,T8)],[],false⟩
theorem yW9:zZ prog 1000 0 19 (zV (zX f113) 0) T8:=lp (A:=qSy) T8 (fun d=>match d with|.inl d=>.inl ()|.inr d=>.inr d.1.1.1) qRg vk BE (e1 yA2) zF
def yU1:=zK 113 [.c (.dat false zJ),.fn 90 [nW]] (.c .i) (fun k d=>(Ky (PI k) d)) (fun x=>(x,()))
theorem yPe:zB prog yU1:=fA (rs:=.c .i) f113 qSy (fun d=>d.1) (e1 yA2) (loops1 yW9)
def yM9:=zK 95 [.c (.dat false zJ),.fn 90 [nW]] (.c .bool) (fun k d=>(Ky (JH k) d)) (fun x=>(x,()))
theorem vCj:zB prog yM9:=fA (rs:=.c .bool) f95 ⟨[],[],[],false⟩ (fun d=>d.1) (e1 yPe) zF
def yYt:=zK 52 [.agg nW] (.c .bool) (fun k d=>FE k (vK d)) (fun x=>(x,()))
theorem qS3:zB prog yYt:=fA (rs:=.c .bool) f52 n0 (fun d=>d.1) (e3 vCc vC9 vCj) zF
def qUd:zH:=⟨[(2,.c (.lit (.ptr 1001000 0))),(3,.c (.lit (.ptr 1001001 0))),(5,.c (.lit (.osl 1001002 none))),(44,.c (.dat false qZ)),(45,.c .i),(46,.c .i)],[.box true sJ,.box true KE,.arr true .i],[(5,none,.i,false)]⟩
def qXe:zH:=⟨[(2,.c (.lit (.ptr 1001000 0))),(3,.c (.lit (.ptr 1001001 0))),(5,.c (.lit (.osl 1001002 none)))],[.box true sJ,.box true KE,.arr true .i],[]⟩
def yKd (f:T9)(d:qUd.den):=f d.1.2.2.2.1.1 d.1.2.2.2.2.1.1 d.1.2.2.2.2.2.1.1 (wD d.2.1) (vK d.2.2.1) d.2.2.2.1
def Ua:qC:=⟨[qUd],[(.exit 0,qXe)],Ub,fun k d=>yKd (BJ k k) d,fun b x _ K=>K (.exit 0) (zP b qXe (((),(),(),()),((eN x.1 ()),(eO x.2.1 ()),x.2.2,())))⟩
def yAd:qB:=⟨[],[(5,Ua)],[],true⟩
theorem vBy:zZ prog 1000 0 92 (zV (zX f19) 0) Ua:=lp (A:=yAd) Ua (fun d=>((wD d.2.1),(vK d.2.2.1),d.2.2.2.1)) yKd BJ BK (e6 eW Kr yJg qS3 Kl Kn) zF
def yP2:=zK 19 [.agg lE,.agg nW] (.c .bool) (fun k d=>BI k (wD d) (nR d)) (fun x=>(x,()))
theorem KF:zB prog yP2:=fA (rs:=.c .bool) f19 yAd (fun d=>d.1) (e6 eW Kr yJg qS3 Kl Kn) (loops1 vBy)
def qTg:zH:=⟨[(1,.c (.lit (.ptr 1001000 0))),(2,.c .i),(3,.c (.lit (.ptr 1001003 0))),(12,.c .bool),(13,.c (.lit (.ptr 1001004 0))),(17,.c (.lit (.ptr 1001005 0))),(72,.c (.dat true (.sl (.int .u8)))),(73,.c .i),(74,.c .i)],[.box true qQn,.arr true (.int .u8),.arr true (.int .u8),.box true KG,.box true [.lit (.ptr 1001000 0),.i,.i,.i,.bool],.box true jz],[(17,some 1,.bool,true),(17,some 2,.bool,true),(17,some 3,.bool,true),(17,some 4,.bool,true),(17,some 5,.bool,true),(17,some 6,.bool,true),(17,some 7,.bool,true),(17,some 8,.bool,true)]⟩
def qX3:zH:=⟨[(1,.c (.lit (.ptr 1001000 0))),(2,.c .i),(3,.c (.lit (.ptr 1001003 0))),(12,.c .bool),(13,.c (.lit (.ptr 1001004 0))),(17,.c (.lit (.ptr 1001005 0)))],[.box true qQn,.arr true (.int .u8),.arr true (.int .u8),.box true KG,.box true [.lit (.ptr 1001000 0),.i,.i,.i,.bool],.box true jz],[]⟩
def yCa (f:Uc)(d:qTg.den):=f d.1.2.1.1 d.1.2.2.2.1.1 d.1.2.2.2.2.2.2.1.1 d.1.2.2.2.2.2.2.2.1.1 d.1.2.2.2.2.2.2.2.2.1.1 (pM d.2.1) d.2.2.1 d.2.2.2.1 (wD d.2.2.2.2.1) (eT d.2.2.2.2.2.1) (vK d.2.2.2.2.2.2.1)
def Ud:qC:=⟨[qTg],[(.exit 0,qX3)],Ue,fun k d=>yCa (vv k k) d,fun b x _ K=>K (.exit 0) (zP b qX3 (((),(x.1,()),(),(x.2.1,()),(),(),()),((F1 x.2.2.1 ()),x.2.2.2.1,x.2.2.2.2.1,(eN x.2.2.2.2.2.1 ()),(eV x.2.2.2.2.2.2.1 ()),(eO x.2.2.2.2.2.2.2 ()),())))⟩
def yGg:qB:=⟨[],[(11,Ud)],[],true⟩
theorem yR0:zZ prog 1000 2 112 (zV (zX f6) 0) Ud:=lp (A:=yGg) Ud (fun d=>(d.1.2.1.1,d.1.2.2.2.1.1,(pM d.2.1),d.2.2.1,d.2.2.2.1,(wD d.2.2.2.2.1),(eT d.2.2.2.2.2.1),(vK d.2.2.2.2.2.2.1))) yCa vv BS (JW JX Qo J3 pL yKg Kb Kf Gc KD KF) zF
def qGi:=HM 6 [.agg qOp,.ptr true j0,.c (.p .i)] (.tup [(false,[.link 1]),(false,qM)]) [vX,yEr,J8] 2 (.tup [(false,[.nilp]),(false,qM)]) [vX] 0 (fun k d=>jG k (wD d) (KC d) d.2.2.2.2.2.2.2.2.2.2.2.2.2.2.2.1) (fun x=>((),x.1,(fP x.2.1 ((),(wW x.2.2.1 ((),(eV x.2.2.2 ()))))))) (fun x=>((),x.1,(fP x.2 ())))
theorem yAo:zB prog qGi:=fN (rs:=.tup [(false,[.link 1]),(false,qM)]) (os:=[vX,yEr,J8]) (ns:=2) (rs2:=.tup [(false,[.nilp]),(false,qM)]) (os2:=[vX]) (ns2:=0) f6 yGg 2 (fun d=>(d.2.1,(yA1 d),(vEx d),(yRb d))) (fun d=>(d.2.1,(yA1 d))) (JW JX Qo J3 pL yKg Kb Kf Gc KD KF) (loops1 yR0)
def qCb:=yV 8 [.chn [KH,KI,j0]] (.agg nV) [sV,sW,vX] 0 (fun k d=>sI k (fQ d) (KJ d) (KK d)) (fun x=>(eO x.1 ((),(wW x.2.1 ((),(eV x.2.2.1 (fP x.2.2.2 ())))))))
theorem qZ0:zB prog qCb:=fX (rs:=.agg nV) (os:=[sV,sW,vX]) (ns:=0) f8 n0 0 (fun d=>((vK d),(vDj d),(yVu d),(yOu d))) e0 zF
def yOn:=zK 31 [.c .i] (.c .i) (fun k d=>DT k d.1) (fun x=>(x,()))
theorem Uf:zB prog yOn:=fA (rs:=.c .i) f31 n0 (fun d=>d.1) e0 zF
def qVo:zH:=⟨[(1,.c (.lit (.ptr 1001000 0))),(3,.c .i),(4,.c .i)],[.box true iN],[]⟩
def qXm:zH:=⟨[(3,.c .i)],[],[]⟩
def qVs:zH:=⟨[(2,.c .bool)],[],[]⟩
def qQz (f:Ug)(d:qVo.den):=f d.1.2.1.1 d.1.2.2.1.1 (dI d.2.1)
def Uh:qC:=⟨[qVo],[(.exit 0,qXm),(.ret,qVs)],(Int⊕Bool),fun k d=>qQz (Fm k k) d,fun b x _ K=>match x with|.inl x=>K (.exit 0) (zP b qXm (((x,()),()),()))|.inr x=>K .ret (zP b qVs (((x,()),()),()))⟩
def yC2:qB:=⟨[],[(3,Uh)],[],true⟩
theorem vBc:zZ prog 1000 0 21 (zV (zX f29) 0) Uh:=lp (A:=yC2) Uh (fun d=>match d with|.inl d=>.inl d.1.1.1|.inr d=>.inr d.1.1.1) qQz Fm yH9 (e1 Uf) zF
def yPd:=zK 29 [.agg wC] (.c .bool) (fun k d=>Ju k (dI d)) (fun x=>(x,()))
theorem yXx:zB prog yPd:=fA (rs:=.c .bool) f29 yC2 (fun d=>d.1) (e1 Uf) (loops1 vBc)
def qUl:zH:=⟨[(0,.c (.dat false .i)),(3,.c (.lit (.osl 1001000 none))),(4,.c .i),(5,.c .i)],[.arr true (.int .u8)],[]⟩
def qU5:zH:=⟨[(0,.c (.dat false .i)),(3,.c (.lit (.osl 1001000 none))),(4,.c .i)],[.arr true (.int .u8)],[]⟩
def yJ6 (f:Ui)(d:qUl.den):=f d.1.1.1 d.1.2.2.1.1 d.1.2.2.2.1.1 d.2.1
def Uj:qC:=⟨[qUl],[(.exit 2,qU5)],Uk,fun k d=>yJ6 (Bt k k) d,fun b x _ K=>K (.exit 2) (zP b qU5 (((x.1,()),(),(x.2.1,()),()),(x.2.2,())))⟩
def qUm:zH:=⟨[(0,.c (.dat false .i)),(3,.c (.lit (.osl 1001000 none))),(4,.c .i)],[.arr true (.int .u8)],[]⟩
def yJr:zH:=⟨[(3,.c (.lit (.osl 1001000 none)))],[.arr true (.int .u8)],[]⟩
def yKx (f:Ul)(d:qUm.den):=f d.1.1.1 d.1.2.2.1.1 d.2.1
def Um:qC:=⟨[qUm],[(.exit 0,yJr)],AC,fun k d=>yKx (vg k k) d,fun b x _ K=>K (.exit 0) (zP b yJr (((),()),(x,())))⟩
def Un:qB:=⟨[],[(6,Uj),(3,Um)],[],true⟩
theorem yXw:zZ prog 1000 0 30 (zV (zV (zX f30) 0) 0) Uj:=lp (A:=Un) Uj (fun d=>(d.1.1.1,d.1.2.2.1.1,d.2.1)) yJ6 Bt Jw e0 zF
theorem vBf:zZ prog 1000 0 30 (zV (zX f30) 0) Um:=lp (A:=Un) Um (fun d=>d.2.1) yKx vg Bu e0 (loops1 yXw)
def yR8:=zK 30 [.c (.dat false .i)] (.c (.own (.int .u8))) (fun k d=>Jv k d.1) (fun x=>(x,()))
theorem vF4:zB prog yR8:=fA (rs:=.c (.own (.int .u8))) f30 Un (fun d=>d.1) e0 (loops1 vBf)
def qBr:=zK 10 [.agg wC] (.c (.own (.int .u8))) (fun k d=>vh k (dI d)) (fun x=>(x,()))
theorem yBa:zB prog qBr:=fA (rs:=.c (.own (.int .u8))) f10 ⟨[1],[],[],true⟩ (fun d=>d.1) (e3 yXx Uf vF4) zF
def qGd:=yV 12 [.chn [KH,KI,j0]] (.c .bool) [sV,sW,vX] 0 (fun k d=>mz k (fQ d) (KJ d) (KK d)) (fun x=>(x.1,(),(wW x.2.1 ((),(eV x.2.2.1 (fP x.2.2.2 ()))))))
theorem Uo:zB prog qGd:=fX (rs:=.c .bool) (os:=[sV,sW,vX]) (ns:=0) f12 n0 0 (fun d=>(d.1,(Uq d),(Ur d),(Us d))) e0 zF
def vCa:=zK 25 [.c .i,.c .i] (.c (.own yR)) (fun k d=>Gd k d.1 d.2.1) (fun x=>(x,()))
theorem yF8:zB prog vCa:=fA (rs:=.c (.own yR)) f25 n0 (fun d=>d.1) e0 zF
def yW0:=zK 65 [.agg wC] (.c (.own (.int .u8))) (fun k d=>Pv k (dI d)) (fun x=>(x,()))
theorem vH5:zB prog yW0:=fA (rs:=.c (.own (.int .u8))) f65 ⟨[1],[],[],true⟩ (fun d=>d.1) (e3 yFd Kc J4) zF
def vCb:=zK 27 [.agg Q5] (.c (.own (.int .u8))) (fun k d=>Js k (pM d)) (fun x=>(x,()))
theorem vDm:zB prog vCb:=fA (rs:=.c (.own (.int .u8))) f27 n0 (fun d=>d.1) (e2 vH5 J4) zF
def yRk:=yV 64 [.chn [TR,j0],.c (.p (.dat false (.int .u8)))] (.c .i) [Ca,vX] 0 (fun k d=>FP k (KB d) (KC d) d.2.2.2.2.2.2.2.2.2.2.2.2.2.2.2.1) (fun x=>(x.1,(),(eV x.2.1 (fP x.2.2 ()))))
theorem yT5:zB prog yRk:=fX (rs:=.c .i) (os:=[Ca,vX]) (ns:=0) f64 n0 0 (fun d=>(d.1,(TS d),(TT d))) (e3 qW8 yG1 qYp) zF
def yS2:=yV 26 [.chn [KH,KI,j0],.c (.p (.dat false (.int .u8)))] (.c .i) [sV,sW,vX] 0 (fun k d=>JP k (fQ d) (KJ d) (KK d) d.2.2.2.2.2.2.2.2.2.2.2.2.2.2.2.2.2.2.2.2.2.2.2.2.2.2.2.2.2.2.2.2.2.2.1) (fun x=>(x.1,(),(wW x.2.1 ((),(eV x.2.2.1 (fP x.2.2.2 ()))))))
theorem yNy:zB prog yS2:=fX (rs:=.c .i) (os:=[sV,sW,vX]) (ns:=0) f26 n0 0 (fun d=>(d.1,(Uq d),(Ur d),(Us d))) (e3 yT5 pL KD) zF
def vCf:=yV 28 [.chn [TR,j0]] (.c .i) [Ca,vX] 0 (fun k d=>JQ k (KB d) (KC d)) (fun x=>(x.1,(),(eV x.2.1 (fP x.2.2 ()))))
theorem vA3:zB prog vCf:=fX (rs:=.c .i) (os:=[Ca,vX]) (ns:=0) f28 n0 0 (fun d=>(d.1,(TS d),(TT d))) e0 zF
def qOd:=yV 9 [.chn [KH,KI,j0],.c (.p .i),.c (.p (.dat false (.int .u8)))] (.c (.own yR)) [sV,sW,vX] 0 (fun k d=>BV k (fQ d) (KJ d) (KK d) d.2.2.2.2.2.2.2.2.2.2.2.2.2.2.2.2.2.2.2.2.2.2.2.2.2.2.2.2.2.2.2.2.2.2.1 d.2.2.2.2.2.2.2.2.2.2.2.2.2.2.2.2.2.2.2.2.2.2.2.2.2.2.2.2.2.2.2.2.2.2.2.1) (fun x=>(x.1,(),(wW x.2.1 ((),(eV x.2.2.1 (fP x.2.2.2 ()))))))
theorem yKt:zB prog qOd:=fX (rs:=.c (.own yR)) (os:=[sV,sW,vX]) (ns:=0) f9 n0 0 (fun d=>(d.1,(Uq d),(Ur d),(Us d))) (e9 Uo Q2 yF8 Gc vDm yNy vA3 pL KD) zF
def qPv:zH:=⟨[(0,.c (.dat false .i)),(1,.c (.dat false .i)),(5,.c .i)],[],[]⟩
def yGs:zH:=⟨[],[],[]⟩
def qYo:zH:=⟨[(4,.c .bool)],[],[]⟩
def yEn (f:Ut)(d:qPv.den):=f d.1.1.1 d.1.2.1.1 d.1.2.2.1.1
def Uu:qC:=⟨[qPv],[(.exit 0,yGs),(.ret,qYo)],(Unit⊕Bool),fun k d=>yEn (Ek k k) d,fun b x _ K=>match x with|.inl x=>K (.exit 0) (zP b yGs ((),()))|.inr x=>K .ret (zP b qYo (((x,()),()),()))⟩
def qTm:qB:=⟨[],[(4,Uu)],[],false⟩
theorem vB9:zZ prog 1000 0 26 (zV (zX f33) 0) Uu:=lp (A:=qTm) Uu (fun d=>match d with|.inl d=>.inl ()|.inr d=>.inr d.1.1.1) yEn Ek zd e0 zF
def Uv:=zK 33 [.c (.dat false .i),.c (.dat false .i)] (.c .bool) (fun k d=>pn k d.1 d.2.1) (fun x=>(x,()))
theorem KL:zB prog Uv:=fA (rs:=.c .bool) f33 qTm (fun d=>d.1) e0 (loops1 vB9)
def yGb:zH:=⟨[(0,.c (.dat false (.sl .i))),(1,.c (.dat false (.sl .i))),(5,.c .i)],[],[]⟩
def qY7:zH:=⟨[],[],[]⟩
def qUy:zH:=⟨[(4,.c .bool)],[],[]⟩
def qU1 (f:Uw)(d:yGb.den):=f d.1.1.1 d.1.2.1.1 d.1.2.2.1.1
def Ux:qC:=⟨[yGb],[(.exit 0,qY7),(.ret,qUy)],(Unit⊕Bool),fun k d=>qU1 (El k k) d,fun b x _ K=>match x with|.inl x=>K (.exit 0) (zP b qY7 ((),()))|.inr x=>K .ret (zP b qUy (((x,()),()),()))⟩
def qZk:qB:=⟨[],[(4,Ux)],[],false⟩
theorem vCm:zZ prog 1000 0 27 (zV (zX f34) 0) Ux:=lp (A:=qZk) Ux (fun d=>match d with|.inl d=>.inl ()|.inr d=>.inr d.1.1.1) qU1 El ze (e1 KL) zF
def Uy:=zK 34 [.c (.dat false (.sl .i)),.c (.dat false (.sl .i))] (.c .bool) (fun k d=>uC k d.1 d.2.1) (fun x=>(x,()))
theorem yF1:zB prog Uy:=fA (rs:=.c .bool) f34 qZk (fun d=>d.1) (e1 KL) (loops1 vCm)
def yKr:zH:=⟨[(2,.c (.lit (.ptr 1001000 0))),(3,.c (.lit (.ptr 1001001 0))),(5,.c .i)],[.box true kF,.box true kF],[]⟩
def yHl:zH:=⟨[],[],[]⟩
def yDq:zH:=⟨[(4,.c .bool)],[],[]⟩
def yCc (f:Uz)(d:yKr.den):=(jW (jW (f d.1.2.2.1.1) d.2.1) d.2.2.1)
def UA:qC:=⟨[yKr],[(.exit 0,yHl),(.ret,yDq)],(Unit⊕Bool),fun k d=>yCc (En k k) d,fun b x _ K=>match x with|.inl x=>K (.exit 0) (zP b yHl ((),()))|.inr x=>K .ret (zP b yDq (((x,()),()),()))⟩
def yXf:Env:=⟨prog,fun t=>[86].any (Nat.beq t),dD [Uy,Uv]⟩
theorem yAz:jE yXf:=NK (l:=[Uy,Uv]) (eqT:=fun t=>[86].any (Nat.beq t)) (Wl (fun t h=>Ya (p:=fun t=>prog.keyTypeAt 8 t&& !prog.eqGuardType prog.depth t) (l:=[86]) (List.forall_mem_cons.2 ⟨by kernel_rfl,List.forall_mem_nil _⟩) t h)) fm ⟨yF1,KL,trivial⟩
def yGi:qB:=⟨[],[(4,UA)],[],false⟩
theorem vD4:zZ prog 1000 0 55 (zV (zX f32) 0) UA:=lp (A:=yGi) UA (fun d=>match d with|.inl d=>.inl ()|.inr d=>.inr d.1.1.1) yCc En zg yAz zF
def vHa:=zK 32 [.agg fR,.agg fR] (.c .bool) (fun k d=>(mA (Em k) d)) (fun x=>(x,()))
theorem yV3:zB prog vHa:=fA (rs:=.c .bool) f32 yGi (fun d=>d.1) yAz (loops1 vD4)
def yDe:zH:=⟨[(0,.c (.dat false zJ)),(1,.c (.dat false zJ)),(5,.c .i)],[],[]⟩
def qQu:zH:=⟨[],[],[]⟩
def qUn:zH:=⟨[(4,.c .bool)],[],[]⟩
def qS9 (f:UB)(d:yDe.den):=f d.1.1.1 d.1.2.1.1 d.1.2.2.1.1
def UC:qC:=⟨[yDe],[(.exit 0,qQu),(.ret,qUn)],(Unit⊕Bool),fun k d=>qS9 (FK k k) d,fun b x _ K=>match x with|.inl x=>K (.exit 0) (zP b qQu ((),()))|.inr x=>K .ret (zP b qUn (((x,()),()),()))⟩
def vHc:Env:=⟨prog,fun t=>[109].any (Nat.beq t),dD []⟩
theorem yFv:jE vHc:=NK (l:=[]) (eqT:=fun t=>[109].any (Nat.beq t)) (Wl (fun t h=>Ya (p:=fun t=>prog.keyTypeAt 8 t&& !prog.eqGuardType prog.depth t) (l:=[109]) (List.forall_mem_cons.2 ⟨by kernel_rfl,List.forall_mem_nil _⟩) t h)) fm trivial
def yCp:qB:=⟨[],[(4,UC)],[],false⟩
theorem ySo:zZ prog 1000 0 26 (zV (zX f35) 0) UC:=lp (A:=yCp) UC (fun d=>match d with|.inl d=>.inl ()|.inr d=>.inr d.1.1.1) qS9 FK BL yFv zF
def yNx:=zK 35 [.c (.dat false zJ),.c (.dat false zJ)] (.c .bool) (fun k d=>FJ k d.1 d.2.1) (fun x=>(x,()))
theorem yYm:zB prog yNx:=fA (rs:=.c .bool) f35 yCp (fun d=>d.1) yFv (loops1 ySo)
def qCs:=zK 11 [.agg nW,.agg nW] (.c .bool) (fun k d=>FL k (vK d) (yPb d)) (fun x=>(x,()))
theorem yVf:zB prog qCs:=fA (rs:=.c .bool) f11 n0 (fun d=>d.1) (e4 yV3 KL yF1 yYm) zF
def qPn:zH:=⟨[(1,.c (.dat false .i)),(4,.c (.lit (.ptr 1001000 0))),(5,.c (.lit (.ptr 1001001 0))),(6,.c .i)],[.box true iN,.box true iN],[]⟩
def yBe:zH:=⟨[(4,.c (.lit (.ptr 1001000 0))),(5,.c (.lit (.ptr 1001001 0)))],[.box true iN,.box true iN],[]⟩
def yLg (f:UD)(d:qPn.den):=(sQ (sQ (f d.1.1.1 d.1.2.2.2.1.1) d.2.1) d.2.2.1)
def UE:qC:=⟨[qPn],[(.exit 0,yBe)],UF,fun k d=>yLg (KM k k) d,fun b x _ K=>K (.exit 0) (zP b yBe (((),(),()),((B8 x ()),(yUo x ()),())))⟩
def qYg:qB:=⟨[],[(3,UE)],[],false⟩
theorem yMb:zZ prog 1000 0 27 (zV (zX f23) 0) UE:=lp (A:=qYg) UE (fun d=>(B8 d.2.1 (dI d.2.2.1))) yLg KM yGc e0 zF
def yR6:=zK 23 [.c .i,.c (.dat false .i)] (.agg lG) (fun k d=>KN k d.1 d.2.1) (fun x=>(kE x ()))
theorem vEe:zB prog yR6:=fA (rs:=.agg lG) f23 qYg (fun d=>(dI d)) e0 (loops1 yMb)
def vBd:=zK 8 [.c (.nilp)] (.agg J2) (fun k d=>KO k) (fun x=>(eO x ()))
theorem yVt:zB prog vBd:=fA (rs:=.agg J2) f8 n0 (fun d=>(vK d)) e0 zF
def yPu:=zK 12 [.c (.nilp)] (.c .bool) (fun k d=>wa k) (fun x=>(x,()))
theorem yA9:zB prog yPu:=fA (rs:=.c .bool) f12 n0 (fun d=>d.1) e0 zF
def yR3:=zK 9 [.c (.nilp),.c .i,.c (.dat false (.int .u8))] (.c (.own yR)) (fun k d=>UG k d.2.1 d.2.2.1) (fun x=>(x,()))
theorem vCl:zB prog yR3:=fA (rs:=.c (.own yR)) f9 n0 (fun d=>d.1) (e3 yA9 Q2 yF8) zF
def vFo:=zK 69 [.c (.nilp),.c .i] (.c (.own (.int .u8))) (fun k d=>yF7 k d.2.1) (fun x=>(x,()))
theorem yLl:zB prog vFo:=fA (rs:=.c (.own (.int .u8))) f69 n0 (fun d=>d.1) e0 zF
def vGt:=zK 39 [.c (.nilp),.c .i] (.tup [(false,qM),(false,lF),(false,nU)]) (fun k d=>KP k d.2.1) (fun x=>(x.1,x.2.1,x.2.2,()))
theorem vBe:zB prog vGt:=fA (rs:=.tup [(false,qM),(false,lF),(false,nU)]) f39 n0 (fun d=>(d.1,d.2.1,d.2.2.1)) (e3 yLl qX4 FY) zF
def yNg:=zK 14 [.c (.nilp)] (.tup [(false,qM),(false,qM),(false,lF),(false,nU),(false,[.bool])]) (fun k d=>qZh k) (fun x=>(eN x ()))
theorem yDi:zB prog yNg:=fA (rs:=.tup [(false,qM),(false,qM),(false,lF),(false,nU),(false,[.bool])]) f14 ⟨[],[],[(2,3)],true⟩ (fun d=>(d.1,d.2.1,d.2.2.1,d.2.2.2.1,d.2.2.2.2.1)) (e1 vBe) (Dn (n:=1) (by kernel_rfl) fun i hi=>match i,hi with|0,_=>.inr ⟨by kernel_rfl,zF⟩|i+1,hi=>absurd hi (by omega))
def yTk:=yV 15 [.c (.p (.nilp)),.c (.p (.dat false (.int .u8)))] (.tup [(false,[.nilp]),(false,[.own (.int .u8)]),(false,[.own (.sl (.int .u8))]),(false,qM)]) [] 0 (fun k d=>yK5 k d.2.1) (fun x=>((),x.1,x.2.1,x.2.2,()))
theorem qPq:zB prog yTk:=fX (rs:=.tup [(false,[.nilp]),(false,[.own (.int .u8)]),(false,[.own (.sl (.int .u8))]),(false,qM)]) (os:=[]) (ns:=0) f15 n0 0 (fun d=>(d.2.1,d.2.2.1,d.2.2.2.1)) e0 zF
def yQe:=zK 22 [.c (.nilp),.c (.dat false (.int .u8))] (.c .i) (fun k d=>KQ k d.2.1) (fun x=>(x,()))
theorem qTr:zB prog yQe:=fA (rs:=.c .i) f22 n0 (fun d=>d.1) e0 zF
def yEy:zH:=⟨[(2,.c .i),(3,.c (.lit (.ptr 1001000 0))),(12,.c .bool),(13,.c (.lit .nilp)),(17,.c (.lit (.ptr 1001001 0))),(72,.c (.lit (.osl 1001002 none))),(73,.c .i),(74,.c .i)],[.box true KG,.box true jz,.arr true (.sl (.int .u8))],[(17,some 1,.bool,true),(17,some 2,.bool,true),(17,some 3,.bool,true),(17,some 4,.bool,true),(17,some 5,.bool,true),(17,some 6,.bool,true),(17,some 7,.bool,true),(17,some 8,.bool,true)]⟩
def qTj:zH:=⟨[(2,.c .i),(3,.c (.lit (.ptr 1001000 0))),(12,.c .bool),(13,.c (.lit .nilp)),(17,.c (.lit (.ptr 1001001 0)))],[.box true KG,.box true jz],[]⟩
def yI2 (f:UH)(d:yEy.den):=f d.1.1.1 d.1.2.2.1.1 d.1.2.2.2.2.2.2.1.1 d.1.2.2.2.2.2.2.2.1.1 (wD d.2.1) (vK d.2.2.1) d.2.2.2.1
def UI:qC:=⟨[yEy],[(.exit 0,qTj)],UJ,fun k d=>yI2 (Ge k k) d,fun b x _ K=>K (.exit 0) (zP b qTj (((x.1,()),(),(x.2.1,()),(),(),()),((eN x.2.2.1 ()),(eO x.2.2.2 ()),())))⟩
def yKn:qB:=⟨[],[(11,UI)],[],true⟩
theorem vCe:zZ prog 1000 0 112 (zV (zX f6) 0) UI:=lp (A:=yKn) UI (fun d=>(d.1.1.1,d.1.2.2.1.1,(wD d.2.1),(vK d.2.2.1))) yI2 Ge yAy (JW JX yDi J3 pL qPq Kb Kf Gc qTr KF) zF
def qJ6:=yV 6 [.agg qOp,.c (.p (.nilp)),.c (.p .i)] (.tup [(false,[.nilp]),(false,qM)]) [] 0 (fun k d=>Gf k (wD d) d.2.2.2.2.2.2.1) (fun x=>((),x,()))
theorem qVw:zB prog qJ6:=fX (rs:=.tup [(false,[.nilp]),(false,qM)]) (os:=[]) (ns:=0) f6 yKn 0 (fun d=>d.2.1) (JW JX yDi J3 pL qPq Kb Kf Gc qTr KF) (loops1 vCe)
def qOm:=zK 7 [] (.c .bool) (fun k d=>vy k) (fun x=>(x,()))
theorem yW8:zB prog qOm:=fA (rs:=.c .bool) f7 n0 (fun d=>d.1) (e12 F1q F0q yAo vEe yBa yKt qZ0 Uo yVt vCl yA9 qVw) zF
def yBf:zH:=⟨[(1,.c (.dat false yR)),(5,.c (.lit (.ptr 1001000 0))),(6,.c (.lit (.ptr 1001002 0))),(7,.c (.lit (.ptr 1001005 0))),(9,.c .i)],[.box true [.i,.lit (.osl 1001001 none),.i,.i,.i],.arr false jA,.box true yHh,.arr true (.int .u8),.arr true (.int .u8),.box true qWi,.box true [.lit (.ptr 1001002 0),.i,.i,.i,.bool]],[]⟩
def yJ5:zH:=⟨[(5,.c (.lit (.ptr 1001000 0))),(6,.c (.lit (.ptr 1001002 0))),(7,.c (.lit (.ptr 1001005 0)))],[.box true [.i,.lit (.osl 1001001 none),.i,.i,.i],.arr false jA,.box true yHh,.arr true (.int .u8),.arr true (.int .u8),.box true qWi,.box true [.lit (.ptr 1001002 0),.i,.i,.i,.bool]],[]⟩
def yIg:zH:=⟨[(4,.c .bool)],[],[]⟩
def yJw (f:UK)(d:yBf.den):=f d.1.1.1 d.1.2.2.2.2.1.1 (eT d.2.1) d.2.2.1 (pM d.2.2.2.1) d.2.2.2.2.1 d.2.2.2.2.2.1 (jR d.2.2.2.2.2.2.1) (eT d.2.2.2.2.2.2.2.1)
def UL:qC:=⟨[yBf],[(.exit 0,yJ5),(.ret,yIg)],UM,fun k d=>yJw (BX k k) d,fun b x _ K=>match x with|.inl x=>K (.exit 0) (zP b yJ5 (((),(),(),()),((eV x.1 ()),x.2.1,(F1 x.2.2.1 ()),x.2.2.2.1,x.2.2.2.2.1,(wW x.2.2.2.2.2.1 ()),(eV x.2.2.2.2.2.2 ()),())))|.inr x=>K .ret (zP b yIg (((x,()),()),()))⟩
def yKv:Env:=⟨prog,fun _=>false,dD [R0q,R1q,qGi,qCb,qBr,qOd,qCs,qGd,qOm,qJ6]⟩
theorem Qa:jE yKv:=kY fm ⟨F0q,F1q,yAo,qZ0,yBa,yKt,yVf,Uo,yW8,qVw,trivial⟩
def yHe:qB:=⟨[],[(9,UL)],[],true⟩
theorem yYw:zZ prog 1000 0 113 (zV (zX f3) 0) UL:=lp (A:=yHe) UL (fun d=>match d with|.inl d=>.inl ((eT d.2.1),d.2.2.1,(pM d.2.2.2.1),d.2.2.2.2.1,d.2.2.2.2.2.1,(jR d.2.2.2.2.2.2.1),(eT d.2.2.2.2.2.2.2.1))|.inr d=>.inr d.1.1.1) yJw BX BY Qa zF
def P9:List AS:=[.c .i,.c (.dat false yR)]
theorem yXt:NL yKv yHe 0 f3 P9 (.c .bool) (fun d=>d.1) (fun k d=>JV k d.1 d.2.1):=by intro k d;kernel_rfl
end
end Go.Ab.Gi
