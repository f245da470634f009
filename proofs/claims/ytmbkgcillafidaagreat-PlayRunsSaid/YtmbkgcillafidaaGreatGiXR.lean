/- part 100 -/
import Derived.Test.YtmbkgcillafidaaGreatGiXRa
set_option linter.unusedVariables false
set_option maxRecDepth 100000
set_option maxHeartbeats 4000000
namespace Go.Ab.Gi
open Go.RowKit Go.Lib Go.Proofs Go.Proofs.Tryz
noncomputable section
def vDe:zE:=sp [sP 0 0,sO 7 1,sP 8 2,sI 9] [oB qUh,oA .i,oB tE,oA qT,.mat,oA .i,.mat]
def yL2:zE:=sp [sP 0 0,sO 7 1,sP 8 2] [oB qUh,oA .i,oB tE,oA qT,.mat,oA .i,.mat]
def vHy:zE:=sp [sP 0 0,sI 6] [oB qUh]
def vM8 (f:qUi)(d:vDe.den):=f (wd d) (jW d.2.1) (li d) (rg d) (be d) (ce d) (If d)
def qZp:zU:=⟨[vDe],[(.exit 0,yL2),(.ret,vHy)],yB9,fun k d=>vM8 (vu k k) d,fun b x _ K=>match x with|.inl x=>K (.exit 0) (zM b yL2 (((),(),(),()),((jK x.1 ()),x.2.1,(),li x,Ng x,rg x,pp x,())))|.inr x=>K .ret (zM b vHy (((),(x.1,()),()),((jK x.2 ()),())))⟩
def vG5:=aga 6 qZp
theorem acA:zT prog 1000 1 93 (md f196 0) qZp:=lp (A:=vG5) qZp (fun d=>match d with|.inl d=>.inl ((jW d.2.1),li d,rg d,be d,ce d,If d)|.inr d=>.inr (pi d,(jW d.2.1))) vM8 vu HL (e3 qX5 AF Dr) zF
theorem acC:Pa (yF 196 [.ptr true Ds,.c (.p .i),.c (.p .i)] (.c .i) [Dt] 0 (fun k d=>R1 k (yL d (Fd d)) (Rd d) d.2.2.2.2.2.2.2.2.2.2.2.2.2.2.2.2.2.2.2.2.1) (fun x=>(x.1,(AG x.2 ()))) (fun d=>(d.1,(Du d)))):=fX f196 vG5 1 (e3 qX5 AF Dr) (loops1 acA)
theorem vVt:Pa (yF 112 [.ptr true Ds,.agg vN] (.c .i) [Dt] 0 (fun k d=>zu k (yL d (Fd d)) (acE d)) (fun x=>(x.1,(AG x.2 ()))) (fun d=>(d.1,(Du d)))):=fX f112 n0 1 (e6 acF acG acH acI vOa acC) zF
theorem qNa:Pa (zH 58 [.agg AH,.agg AI,.agg AJ] (.tup [(true,AK),(false,[.own qK]),(false,yH)]) (fun k d=>H7 k (yC d) (iJ d) (yG7 d)) (fun x=>(vD x.1 (x.2.1,x.2.2,()))) (fun d=>((qO d),Pi d,Fn d))):=fA f58 n0 (e7 vP2 AL wk acK vVt NU I4) zF
theorem SK:Pa (yF 59 [.chn [NV,oJ],.c (.p (.dat false (.int .u8)))] (.c .i) [NW,lP] 0 (fun k d=>pG k (AM d) (Dv d) (lm d)) (fun x=>(x.1,(),(vZ x.2.1 (wL x.2.2 ())))) (fun d=>(d.1,(NX d),(NY d)))):=fX f59 n0 0 (e1 yJ5) zF
def yLf:zE:=sp [sP 2 0,sP 3 1,sI 5] [oB iL,oB lQ]
def yNh:zE:=sp [sP 2 0,sP 3 1] [oB iL,oB lQ]
def yR5 (f:qTg)(d:yLf.den):=f (Id d) (yC d.2.1) (qO (li d))
def SM:zU:=⟨[yLf],[(.exit 0,yNh),(.ret,vDt)],yA5,fun k d=>yR5 (Av k k) d,fun b x _ K=>match x with|.inl x=>K (.exit 0) (zM b yNh (((),(),()),((vI x.1 ()),(vD x.2 ()),())))|.inr x=>K .ret (zM b vDt (((x,()),()),()))⟩
def vMx:zE:=sp [sP 2 0,sP 3 1,sI 6,sI 7] [oB iL,oB lQ]
def vBk:zE:=sp [sP 2 0,sP 3 1,sI 6] [oB iL,oB lQ]
def yXb (f:yDv)(d:vMx.den):=f (Id d) (wd d) (yC d.2.1) (qO (li d))
def qRk:zU:=⟨[vMx],[(.exit 4,vBk),(.ret,vDt)],qR8,fun k d=>yXb (CZ k k) d,fun b x _ K=>match x with|.inl x=>K (.exit 4) (zM b vBk (((),(),(x.1,()),()),((vI x.2.1 ()),(vD x.2.2 ()),())))|.inr x=>K .ret (zM b vDt (((x,()),()),()))⟩
def yM9 (f:qWb)(d:vBk.den):=f (Id d) (yC d.2.1) (qO (li d))
def SN:=aha 2 vBk yNc vDt Unit Bool yM9 Aw (fun x=>((),())) fun x=>(((x,()),()),())
def SO:zV:=⟨[],[(4,SM),(14,qRk),(9,SN)],[],true⟩
theorem acL:lc 122 (md f105 0) SM:=lp (A:=SO) SM (fun d=>match d with|.inl d=>.inl ((yC d.2.1),(qO (li d)))|.inr d=>.inr (kj d)) yR5 Av Ii (e1 Dr) zF
theorem vRq:lc 122 (zR (md f105 1) 0) qRk:=lp (A:=SO) qRk (fun d=>match d with|.inl d=>.inl (Id d,(yC d.2.1),(qO (li d)))|.inr d=>.inr (kj d)) yXb CZ Ij (e1 Dr) zF
theorem acM:lc 122 (md f105 1) SN:=lp (A:=SO) SN (fun d=>match d with|.inl d=>.inl ()|.inr d=>.inr (kj d)) yM9 Aw Ik (e1 Dr) (loops1 vRq)
theorem vDm:Pa (jP 105 [.agg ie,.agg nI] .bool (fun k d=>Nn k (yC d) (iJ d))):=fA f105 SO (e1 Dr) (mq (n:=2) (by kernel_rfl) fun i hi=>match i,hi with|0,_=>⟨SM,by kernel_rfl,acL⟩|1,_=>⟨SN,by kernel_rfl,acM⟩|i+2,hi=>absurd hi (by omega))
def yQ1:zE:=sp [(0,.c (.dat false zG)),sI 3] []
def yZb (f:qTl)(d:yQ1.den):=f (kj d) (pi d)
def qR4:zU:=⟨[yQ1],[(.exit 0,yIj),(.ret,yLj)],yAc,fun k d=>yZb (zx k k) d,fun b x _ K=>match x with|.inl x=>K (.exit 0) (zM b yIj (((x,()),()),()))|.inr x=>K .ret (zM b yLj (((x,()),()),()))⟩
def vJr:=aia 2 qR4
theorem acO:lc 39 (md f179 0) qR4:=lp (A:=vJr) qR4 (fun d=>match d with|.inl d=>.inl (kj d)|.inr d=>.inr (kj d)) yZb zx Ie (e2 I4 I5) zF
theorem vBt:Pa (jP 179 [.c (.dat false zG)] .bool (mD Nk)):=fA f179 vJr (e2 I4 I5) (loops1 acO)
def vJd:zE:=sp [(0,.c (.dat false .i)),sI 3] []
def vB2 (f:qM6)(d:vJd.den):=f (kj d) (pi d)
def qPw:=aha 0 vJd yJz yLj AC Bool vB2 CY (fun x=>(((x,()),()),())) fun x=>(((x,()),()),())
def vJf:=aga 2 qPw
theorem vP3:lc 34 (md f180 0) qPw:=lp (A:=vJf) qPw (fun d=>match d with|.inl d=>.inl (kj d)|.inr d=>.inr (kj d)) vB2 CY Ig e0 zF
theorem yUw:Pa (jP 180 [.c (.dat false .i)] .bool (mD Nl)):=fA f180 vJf e0 (loops1 vP3)
def vAt:zE:=sp [sP 1 0,sI 3] [oB lQ]
def ySq (f:qWa)(d:vAt.den):=f (pi d) (qO d.2.1)
def yG4:=aha 0 vAt yNc yLj Unit Bool ySq zz (fun x=>((),())) fun x=>(((x,()),()),())
def yRh:=aga 4 yG4
theorem vQ7:lc 57 (md f106 0) yG4:=lp (A:=yRh) yG4 (fun d=>match d with|.inl d=>.inl ()|.inr d=>.inr (kj d)) ySq zz Ih (e4 vBt yUw SP SQ) zF
theorem yLb:Pa (jP 106 [.agg nI] .bool (fun k d=>Nm k (qO d))):=fA f106 yRh (e4 vBt yUw SP SQ) (loops1 vQ7)
theorem yU7:Pa (zH 183 [.agg [.i,.i],.c .i] (.agg [.i,.i]) (wG Sk) (fun x=>(x.1,x.2,())) (fun d=>(d.1,d.2.1))):=fA f183 ja e0 zF
def vGt:zE:=sp [(0,.c (.dat false .i)),sP 4 0,sI 5] [oB [.i,.i]]
def yXe:zE:=sp [sP 4 0] [oB [.i,.i]]
def vEy (f:qXq)(d:vGt.den):=f (kj d) (Id d) (wr d) (ip d)
def qXf:=aea 0 vGt yXe vW vEy Nj fun x=>(((),()),((x.1,x.2,()),()))
def vL1:=aia 3 qXf
theorem acQ:lc 32 (md f107 0) qXf:=lp (A:=vL1) qXf (fun d=>(wr d,ip d)) vEy Nj Ic (e1 yU7) zF
theorem yZv:Pa (MC 107 [.c (.dat false .i)] .i .bool (mD Ni)):=fA f107 vL1 (e1 yU7) (loops1 acQ)
def yUp:zE:=⟨[sP 2 0,sP 3 1,sO 5 2,sI 6],[oB iL,oB lQ,oA .i],[(5,none,.i,false)]⟩
def yW9 (f:qVe)(d:yUp.den):=f (wd d) (yC d.2.1) (qO (li d)) (Ng d)
def qRr:=aea 0 yUp yZz qOj yW9 C3 fun x=>(((),(),(),()),((vI x.1 ()),(vD x.2.1 ()),x.2.2,()))
def yQx:=aga 5 qRr
theorem acS:lc 102 (md f56 0) qRr:=lp (A:=yQx) qRr (fun d=>((yC d.2.1),(qO (li d)),Ng d)) yW9 C3 Io (e4 NZ vDm yLb yZv) zF
theorem yJm:Pa (jP 56 [.agg ie,.agg nI] .bool (fun k d=>Im k (yC d) (iJ d))):=fA f56 yQx (e4 NZ vDm yLb yZv) (loops1 acS)
def vCw:zE:=⟨[sP 1 0,sI 2,sP 3 3,(12,.c .bool),sP 13 4,(15,.c (.dat true (.sl (.int .u8)))),sP 17 5,sI 19],[oB yI4,oA (.int .u8),oA (.int .u8),oB pI,oB SR,oB gO],[(17,some 1,.bool,true),(17,some 2,.bool,true),(17,some 3,.bool,true),(17,some 4,.bool,true),(17,some 5,.bool,true),(17,some 6,.bool,true),(17,some 7,.bool,true),(17,some 8,.bool,true)]⟩
def vJs:zE:=sp [sP 1 0,sI 2,sP 3 3,(12,.c .bool),sP 13 4,sP 17 5] [oB yI4,oA (.int .u8),oA (.int .u8),oB pI,oB SR,oB gO]
def vAe (f:qNb)(d:vCw.den):=f (pi d) (wd d) (Nh d) (dl d) (ig d.2.1) (li d) (Ng d) (yC (rg d)) (vH (be d)) (qO (ce d))
def qXm:=aea 0 vCw vJs yGb vAe tC fun x=>(((),(x.1,()),(),(x.2.1,()),(),(),()),((wm (li x) ()),Ng x,rg x,(vI (be x) ()),(vZ (ce x) ()),(vD x.2.2.2.2.2.2.2 ()),()))
def vGn:=aga 11 qXm
theorem vQ1:zT prog 1000 2 108 (md f22 0) qXm:=lp (A:=vGn) qXm (fun d=>(pi d,wd d,(ig d.2.1),li d,Ng d,(yC (rg d)),(vH (be d)),(qO (ce d)))) vAe tC IS (I6 vEv qPv qQz Dw yLn vGo vH4 qNa SK yJm) zF
theorem vIe:Pa (uG 22 [.agg AH,.ptr true oJ,.c (.p .i)] (.tup [(false,[.link 1]),(false,yH)]) [lP,[.i,.fro wK,.i,.i,.i,.link 2,.i,.fro qT,.fro (.sl .i),.fro .i,.fro (.sl .i),.fro .i,.fro (.sl .i),.fro zG,.fro .i,.i,.bool,.i,.bool],SS] 2 (.tup [(false,[.nilp]),(false,yH)]) [lP] 0 (fun k d=>rD k (yC d) (Dv d) (lm d)) (fun x=>((),x.1,(wL x.2.1 (fL (li x) ((),(qPr (li x) ((),(vZ x.2.2.2 ())))))))) (fun x=>((),x.1,(wL x.2 ()))) (fun d=>(d.2.1,(SU d),(qPk d (acU d)),(yJe d))) (fun d=>(d.2.1,(SU d)))):=fN f22 vGn 2 (I6 vEv qPv qQz Dw yLn vGo vH4 qNa SK yJm) (loops1 vQ1)
theorem acV:Pa (jP 60 [.c .i,.c .i] (.own qK) (P9 NG)):=fA f60 n0 (e1 wk) zF
theorem acX:Pa (uG 199 [.agg vN] (.c (.nil)) [] 0 (.c (.own (.int .u8))) [] 0 (fun k d=>qWd k (vV d)) (fun x=>((),())) (fun x=>(x,())) (fun d=>()) (fun d=>d.1)):=fN f199 ⟨[1],[],[],true⟩ 0 (e3 yW7 N0 SW) zF
theorem vYr:Pa (uG 115 [.agg AJ] (.c (.nil)) [] 0 (.c (.own (.int .u8))) [] 0 (fun k d=>NC k (ig d)) (fun x=>((),())) (fun x=>(x,())) (fun d=>()) (fun d=>d.1)):=fN f115 n0 0 (e2 acX SW) zF
theorem vUn:Pa (yF 116 [.chn [NV,oJ],.c (.p (.dat false (.int .u8)))] (.c .i) [NW,lP] 0 (fun k d=>zb k (AM d) (Dv d) (lm d)) (fun x=>(x.1,(),(vZ x.2.1 (wL x.2.2 ())))) (fun d=>(d.1,(NX d),(NY d)))):=fX f116 n0 0 (e3 yMw vCu vGa) zF
theorem ac1:Pa (yF 61 [.chn [yIu,I7,oJ],.agg AJ] (.c .i) [yVl,I8,lP] 0 (fun k d=>SE k (fL d (yRw d)) (I9 d) (Ja d) (ac0 d)) (fun x=>(x.1,(fL x.2.1 ((),(qPr x.2.1 ((),(vZ (li x) (wL x.2.2.2 ())))))))) (fun d=>(d.1,(vJt d (yTo d)),(N1 d),(N2 d)))):=fX f61 n0 0 (e4 vYr vUn Dw SK) zF
theorem yVk:Pa (yF 23 [.chn [yIu,I7,oJ],.c (.p .i),.c (.p (.dat false (.int .u8)))] (.c (.own qK)) [yVl,I8,lP] 0 (fun k d=>NF k (fL d (yRw d)) (I9 d) (Ja d) d.2.2.2.2.2.2.2.2.2.2.2.2.2.2.2.2.2.2.2.2.2.2.2.2.2.2.2.2.2.2.2.2.2.2.1 d.2.2.2.2.2.2.2.2.2.2.2.2.2.2.2.2.2.2.2.2.2.2.2.2.2.2.2.2.2.2.2.2.2.2.2.1) (fun x=>(x.1,(fL x.2.1 ((),(qPr x.2.1 ((),(vZ (li x) (wL x.2.2.2 ())))))))) (fun d=>(d.1,(vJt d (yTo d)),(N1 d),(N2 d)))):=fX f23 n0 0 (e6 SX acV qNa ac1 Dw SK) zF
def yRc:zE:=sp [(0,.c (.dat false qK)),sI 3] []
def ySa (f:qWr)(d:yRc.den):=f (kj d) (pi d)
def qTm:=aha 0 yRc yNc yLj Unit Bool ySa NM (fun x=>((),())) fun x=>(((x,()),()),())
def vFa:=aga 2 qTm
theorem ac2:lc 17 (md f24 0) qTm:=lp (A:=vFa) qTm (fun d=>match d with|.inl d=>.inl ()|.inr d=>.inr (kj d)) ySa NM IW e0 zF
theorem vE8:Pa (jP 24 [.c (.dat false qK)] .bool (mD SF)):=fA f24 vFa e0 (loops1 ac2)
theorem yOd:Pa (yF 26 [.ptr true oJ,.agg [.i,.i]] (.tup []) [lP] 0 (fun k d=>Dp k (wB d) (ci d,Pi d)) (fun x=>(wL x ())) (fun d=>(wB d))):=fX f26 n0 1 e0 zF
theorem yOv:Pa (yF 27 [.ptr true oJ] (.tup []) [lP] 0 (fun k d=>AB k (wB d)) (fun x=>(wL x ())) (fun d=>(wB d))):=fX f27 n0 1 e0 zF
def yTa:zE:=⟨[sI 2,(3,.c (.dat false tF)),sP 4 0,sP 8 1,sP 9 2,sP 10 5,sP 11 8,sI 13],[oB pI,oB AN,oB vC6,oA (.sl qK),oA qK,oB yHc,oA (.int .u8),oA (.int .u8),oB [.i,.dat true wK,.i,.i,.i,.lit (.ptr 1001009 0),.i,.dat true qT,.dat true (.sl .i),.dat true .i,.dat true (.sl .i),.dat true .i,.dat true (.sl .i),.dat true zG,.dat true .i,.i,.bool,.i,.bool],oB [.lit (.ptr 1001005 0),.i,.i,.i,.bool]],[(9,some 0,(.sl qK),false),(9,some 1,qK,false)]⟩
def vL8:zE:=⟨[sI 2,(3,.c (.dat false tF)),sP 4 0,sP 8 1,sP 9 2,sP 10 5,(11,.c (.lit .nilp)),sI 13],[oB pI,oB AN,oB vC6,oA (.sl qK),oA qK,oB yHc,oA (.int .u8),oA (.int .u8)],[(9,some 0,(.sl qK),false),(9,some 1,qK,false)]⟩
def yMi:zE:=sp [sP 8 0,sP 9 1,(11,.c (.lit .nilp))] [oB AN,oB yGl,oA (.sl qK),oA qK]
def yOq:zE:=sp [sP 8 0,sP 9 1,sP 11 4] [oB AN,oB yGl,oA (.sl qK),oA qK,oB [.i,.dat true wK,.i,.i,.i,.lit (.ptr 1001005 0),.i,.dat true qT,.dat true (.sl .i),.dat true .i,.dat true (.sl .i),.dat true .i,.dat true (.sl .i),.dat true zG,.dat true .i,.i,.bool,.i,.bool],oB [.lit (.ptr 1001006 0),.i,.i,.i,.bool],oB [.lit (.osl 1001007 none),.lit (.osl 1001008 none),.i,.i,.i,.i,.i,.i,.bool,.bool],oA (.int .u8),oA (.int .u8)]
def yIv (f:yAe)(d:pP [yTa,vL8]):Option SY:=match d with|.inl d=>f (.inl (kj d,pi d,dl d,(yC d.2.1),(vH (li d)),(vH (Ng d)),rg d,be d,(ig (ce d)),If d,ii d,(jW (wl d)),(vH (ci d))))|.inr d=>f (.inr (kj d,pi d,dl d,(yC d.2.1),(vH (li d)),(vH (Ng d)),rg d,be d,(ig (ce d)),If d,ii d))
def yC6:zU:=⟨[yTa,vL8],[(.exit 0,yMi),(.exit 0,yOq)],SY,fun k d=>yIv (rG k k) d,fun b x _ K=>match x with|.inl x=>K (.exit 0) (zM b yMi (((),(),(),()),((vZ x.1 ()),(vZ x.2.1 ()),li x,x.2.2.2,())))|.inr x=>K (.exit 0) (zM b yOq (((),(),(),()),((vZ x.1 ()),(vZ x.2.1 ()),li x,Ng x,(jK (rg x) ()),(vZ (be x) ()),(wm (ce x) ()),If x,x.2.2.2.2.2.2.2.2,())))⟩
def vB4:=aga 9 yC6
theorem vP0:lc 128 (md f7 0) yC6:=lp (A:=vB4) yC6 (fun d=>match d with|.inl d=>.inl ((vH d.2.1),(vH (li d)),Ng d,rg d)|.inr d=>.inr ((vH d.2.1),(vH (li d)),Ng d,rg d,(jW (be d)),(vH (ce d)),(ig (If d)),ii d,wl d)) yIv rG mK (e7 vI8 vIe yVk vE8 SX yOd yOv) zF (hs:=by intro k rec d;rcases d with d|d<;>kernel_rfl) (h0:=by intro k d;rcases d with d|d<;>rfl)
def qVr:=(zH 7 [.agg AH,.c .i,.c .i,.c (.dat false tF)] (.agg yN2) (fun k d=>SG k (yC d) (be d) (ce d) (If d)) (fun x=>(N3 x ())) (fun d=>(SZ d)))
theorem ac4:Pa qVr:=fA f7 vB4 (e7 vI8 vIe yVk vE8 SX yOd yOv) (loops1 vP0)
def yXw:zE:=sp [(0,.c (.dat false qK)),(1,.c (.dat false qK)),sI 5] []
def yQh (f:qWm)(d:yXw.den):=f (kj d) (pi d) (Id d)
def yDr:=aha 0 yXw yNc vDt Unit Bool yQh NP (fun x=>((),())) fun x=>(((x,()),()),())
def ac5:Env:=⟨prog,fun t=>[70].any (Nat.beq t),eP []⟩
theorem yWh:jH ac5:=ET (l:=[]) (eqT:=fun t=>[70].any (Nat.beq t)) (JN (fun t h=>Kp (p:=fun t=>prog.keyTypeAt 8 t&& !prog.eqGuardType prog.depth t) (l:=[70]) (List.forall_mem_cons.2 ⟨by kernel_rfl,List.forall_mem_nil _⟩) t h)) gh trivial
def yVj:=aga 4 yDr
theorem ac6:lc 26 (md f8 0) yDr:=lp (A:=yVj) yDr (fun d=>match d with|.inl d=>.inl ()|.inr d=>.inr (kj d)) yQh NP IZ yWh zF
def qP2:=(jP 8 [.c (.dat false qK),.c (.dat false qK)] .bool (P9 SH))
theorem ac7:Pa qP2:=fA f8 yVj yWh (loops1 ac6)
def yJo:zE:=sp [(0,.c (.dat false .i)),(1,.c (.dat false .i)),sI 5] []
def yYo (f:qWo)(d:yJo.den):=f (kj d) (pi d) (Id d)
def yC9:=aha 0 yJo yNc vDt Unit Bool yYo Lg (fun x=>((),())) fun x=>(((x,()),()),())
def yN5:=aia 4 yC9
theorem ac8:lc 26 (md f29 0) yC9:=lp (A:=yN5) yC9 (fun d=>match d with|.inl d=>.inl ()|.inr d=>.inr (kj d)) yYo Lg Fu e0 zF
def yAi:=(jP 29 [.c (.dat false .i),.c (.dat false .i)] .bool (P9 uL))
theorem S0:Pa yAi:=fA f29 yN5 e0 (loops1 ac8)
def vMu:zE:=sp [(0,.c (.dat false (.sl .i))),(1,.c (.dat false (.sl .i))),sI 5] []
def yR3 (f:yCq)(d:vMu.den):=f (kj d) (pi d) (Id d)
def qS6:=aha 0 vMu yNc vDt Unit Bool yR3 Lh (fun x=>((),())) fun x=>(((x,()),()),())
def yKq:=aia 4 qS6
theorem ac9:lc 27 (md f30 0) qS6:=lp (A:=yKq) qS6 (fun d=>match d with|.inl d=>.inl ()|.inr d=>.inr (kj d)) yR3 Lh Fv (e1 S0) zF
def yDx:=(jP 30 [.c (.dat false (.sl .i)),.c (.dat false (.sl .i))] .bool (P9 B8))
theorem vBz:Pa yDx:=fA f30 yKq (e1 S0) (loops1 ac9)
def yRq:zE:=sp [sP 2 0,sP 3 1,sI 5] [oB jU,oB jU]
def vGv (f:yDh)(d:yRq.den):=(vJ (vJ (f (Id d)) d.2.1) (li d))
def qUt:=aha 0 yRq yNc vDt Unit Bool vGv Lj (fun x=>((),())) fun x=>(((x,()),()),())
def ada:Env:=⟨prog,fun t=>[141].any (Nat.beq t),eP [yDx,yAi]⟩
theorem yLk:jH ada:=ET (l:=[yDx,yAi]) (eqT:=fun t=>[141].any (Nat.beq t)) (JN (fun t h=>Kp (p:=fun t=>prog.keyTypeAt 8 t&& !prog.eqGuardType prog.depth t) (l:=[141]) (List.forall_mem_cons.2 ⟨by kernel_rfl,List.forall_mem_nil _⟩) t h)) gh ⟨vBz,S0,trivial⟩
def yH2:=aia 4 qUt
theorem adb:lc 55 (md f28 0) qUt:=lp (A:=yH2) qUt (fun d=>match d with|.inl d=>.inl ()|.inr d=>.inr (kj d)) vGv Lj Fw yLk zF
theorem adf:Pa (jP 28 [.agg jZ,.agg jZ] .bool (fun k d=>(mL (Li k) d))):=fA f28 yH2 yLk (loops1 adb)
def vAh:zE:=sp [(0,.c (.dat false zG)),(1,.c (.dat false zG)),sI 5] []
def yQf (f:qU1)(d:vAh.den):=f (kj d) (pi d) (Id d)
def qVf:=aha 0 vAh yNc vDt Unit Bool yQf Nc (fun x=>((),())) fun x=>(((x,()),()),())
def vY2:Env:=⟨prog,fun t=>[143].any (Nat.beq t),eP []⟩
theorem yMu:jH vY2:=ET (l:=[]) (eqT:=fun t=>[143].any (Nat.beq t)) (JN (fun t h=>Kp (p:=fun t=>prog.keyTypeAt 8 t&& !prog.eqGuardType prog.depth t) (l:=[143]) (List.forall_mem_cons.2 ⟨by kernel_rfl,List.forall_mem_nil _⟩) t h)) gh trivial
def vC9:=aia 4 qVf
theorem vPj:lc 26 (md f31 0) qVf:=lp (A:=vC9) qVf (fun d=>match d with|.inl d=>.inl ()|.inr d=>.inr (kj d)) yQf Nc H9 yMu zF
theorem adg:Pa (jP 31 [.c (.dat false zG),.c (.dat false zG)] .bool (P9 Nb)):=fA f31 vC9 yMu (loops1 vPj)
def qOd:=(jP 9 [.agg nI,.agg nI] .bool (fun k d=>v9 k (qO d) (adh d)))
theorem vIq:Pa qOd:=fA f9 n0 (e4 adf S0 vBz adg) zF
def yZ0 (f:qWm)(d:yXw.den):=f (kj d) (pi d) (Id d)
def yF5:=aha 0 yXw yNc vDt Unit Bool yZ0 Mt (fun x=>((),())) fun x=>(((x,()),()),())
def vX7:Env:=⟨prog,fun t=>[88].any (Nat.beq t),eP []⟩
theorem yXx:jH vX7:=ET (l:=[]) (eqT:=fun t=>[88].any (Nat.beq t)) (JN (fun t h=>Kp (p:=fun t=>prog.keyTypeAt 8 t&& !prog.eqGuardType prog.depth t) (l:=[88]) (List.forall_mem_cons.2 ⟨by kernel_rfl,List.forall_mem_nil _⟩) t h)) gh trivial
def yO2:=aia 4 yF5
theorem vZ9:lc 26 (md f10 0) yF5:=lp (A:=yO2) yF5 (fun d=>match d with|.inl d=>.inl ()|.inr d=>.inr (kj d)) yZ0 Mt G3 yXx zF
def yD2:=(jP 10 [.c (.dat false qK),.c (.dat false qK)] .bool (P9 Ms))
theorem vRo:Pa yD2:=fA f10 yO2 yXx (loops1 vZ9)
def qRm:=(jP 11 [] .bool (fun k d=>qPo k))
theorem vYa:Pa qRm:=fA f11 n0 (e4 F1q yRl qQz vIq) zF
def yKp:zE:=sp [sP 10 0,sP 11 3,sI 12] [oB [.lit (.osl 1001001 none),.lit (.osl 1001002 none),.i,.dat true qT,.dat true (.sl .i),.dat true .i,.dat true (.sl .i),.dat true .i,.dat true (.sl .i),.dat true zG,.dat true .i,.i,.bool,.bool],oA (.sl qK),oA qK,oB [.lit (.osl 1001004 none),.lit (.osl 1001005 none),.i,.dat true qT,.dat true (.sl .i),.dat true .i,.dat true (.sl .i),.dat true .i,.dat true (.sl .i),.dat true zG,.dat true .i,.i,.bool,.bool],oA (.sl qK),oA qK]
def yLh:zE:=sp [(8,.c .bool)] []
def yLx (f:qP4)(d:yKp.den):=f (Id d) (AO d.2.1) (li d) (Ng d) (AO (rg d)) (be d) (ce d)
def qXg:=aha 0 yKp yNc yLh Unit Bool yLx NQ (fun x=>((),())) fun x=>(((x,()),()),())
def vIg:Env:=⟨prog,fun _=>false,eP [R0q,R1q,yEc,qVr,qP2,qOd,yD2,qRm]⟩
theorem qN6:jH vIg:=oh gh ⟨F0q,F1q,yRl,ac4,ac7,vIq,vRo,vYa,trivial⟩
def vGw:=aga 8 qXg
theorem vRc:lc 77 (md f3 0) qXg:=lp (A:=vGw) qXg (fun d=>match d with|.inl d=>.inl ()|.inr d=>.inr (kj d)) yLx NQ I3 qN6 zF
def qWj:List AS:=[.c .i,.c .i,.c .i,.c (.dat false tF)]
theorem acz:Yy vIg vGw 0 f3 qWj (.c .bool) (fun d=>d.1) (fun k d=>SJ k d.1 d.2.1 (li d) (Ng d)):=by intro k d;kernel_rfl
end
end Go.Ab.Gi
