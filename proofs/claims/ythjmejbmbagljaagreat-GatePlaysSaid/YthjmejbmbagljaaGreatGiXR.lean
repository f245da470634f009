/- part 99 -/
import Derived.Test.YthjmejbmbagljaaGreatGiXRa
set_option linter.unusedVariables false
set_option maxRecDepth 100000
set_option maxHeartbeats 4000000
namespace Go.Ab.Gi
open Go.RowKit Go.Lib Go.Proofs Go.Proofs.Tryz
noncomputable section
theorem abN:Yb (jR 46 [.agg Db] (.own (.int .u8)) (fun k d=>Sl k (kq d))):=fA f46 n0 (e2 abO Sv) zF
theorem abP:Yb (yB 107 [.chn [NN,lM],.c (.p (.dat false (.int .u8)))] (.c .i) [NO,jb] 0 (fun k d=>yu k (Au d) (Dc d) (ul d)) (fun x=>(x.1,(),(jI x.2.1 (wG x.2.2 ())))) (fun d=>(d.1,(NP d),(NQ d)))):=fX f107 n0 0 (e3 yKh vDa yGp) zF
theorem abQ:Yb (yB 45 [.chn [Sw,IY,lM],.c (.p (.dat false (.int .u8)))] (.c .i) [Sx,IZ,jb] 0 (fun k d=>So k (kt d) (I1 d) (I2 d) d.2.2.2.2.2.2.2.2.2.2.2.2.2.2.2.2.2.2.2.2.2.2.2.2.2.2.2.2.2.2.2.2.2.2.1) (fun x=>(x.1,(),(jT x.2.1 ((),(jI (pi x) (wG x.2.2.2 ())))))) (fun d=>(d.1,(qM7 d),(NR d),(NS d)))):=fX f45 n0 0 (e3 abP Dd Sy) zF
theorem abR:Yb (yB 47 [.chn [NN,lM]] (.c .i) [NO,jb] 0 (fun k d=>qOw k (Au d) (Dc d)) (fun x=>(x.1,(),(jI x.2.1 (wG x.2.2 ())))) (fun d=>(d.1,(NP d),(NQ d)))):=fX f47 n0 0 e0 zF
def yE1:=yB 12 [.chn [Sw,IY,lM],.c (.p .i),.c (.p (.dat false (.int .u8)))] (.c (.own yQ)) [Sx,IZ,jb] 0 (fun k d=>C7 k (kt d) (I1 d) (I2 d) d.2.2.2.2.2.2.2.2.2.2.2.2.2.2.2.2.2.2.2.2.2.2.2.2.2.2.2.2.2.2.2.2.2.2.1 d.2.2.2.2.2.2.2.2.2.2.2.2.2.2.2.2.2.2.2.2.2.2.2.2.2.2.2.2.2.2.2.2.2.2.2.1) (fun x=>(x.1,(),(jT x.2.1 ((),(jI (pi x) (wG x.2.2.2 ())))))) (fun d=>(d.1,(qM7 d),(NR d),(NS d)))
theorem yRi:Yb yE1:=fX f12 n0 0 (e9 qTs qTh yUm qWq abN abQ abR Dd Sy) zF
theorem vVa:Yb (jR 49 [.c .i,.c .i] (.own yQ) (aja NB)):=fA f49 n0 (e1 tw) zF
theorem yR0:Yb (uD 21 [.agg vM] (.c (.nil)) [] 0 (.c (.own (.int .u8))) [] 0 (fun k d=>Nz k (vS d)) (fun x=>((),())) (fun x=>(x,())) (fun d=>()) (fun d=>d.1)):=fN f21 ⟨[1],[],[],true⟩ 0 (e3 yZu NT Sz) zF
theorem abU:Yb (uD 110 [.agg Db] (.c (.nil)) [] 0 (.c (.own (.int .u8))) [] 0 (fun k d=>Ny k (kq d)) (fun x=>((),())) (fun x=>(x,())) (fun d=>()) (fun d=>d.1)):=fN f110 n0 0 (e2 yR0 Sz) zF
theorem abV:Yb (yB 111 [.chn [NN,oF],.c (.p (.dat false (.int .u8)))] (.c .i) [NO,lN] 0 (fun k d=>yt k (Au d) (Dc d) (ul d)) (fun x=>(x.1,(),(jI x.2.1 (wG x.2.2 ())))) (fun d=>(d.1,(NP d),(NQ d)))):=fX f111 n0 0 (e3 yJp ySt vHt) zF
theorem vT5:Yb (yB 50 [.chn [yH5,IY,oF],.agg Db] (.c .i) [yU3,IZ,lN] 0 (fun k d=>Sp k (fL d (vCi d)) (I1 d) (I2 d) (vQ0 d)) (fun x=>(x.1,(fL x.2.1 ((),(qUp x.2.1 ((),(jI (pi x) (wG x.2.2.2 ())))))))) (fun d=>(d.1,(yPi d (vA6 d)),(NR d),(NS d)))):=fX f50 n0 0 (e4 abU abV De SA) zF
def yBn:=yB 13 [.chn [yH5,IY,oF],.c (.p .i),.c (.p (.dat false (.int .u8)))] (.c (.own yQ)) [yU3,IZ,lN] 0 (fun k d=>NA k (fL d (vCi d)) (I1 d) (I2 d) d.2.2.2.2.2.2.2.2.2.2.2.2.2.2.2.2.2.2.2.2.2.2.2.2.2.2.2.2.2.2.2.2.2.2.1 d.2.2.2.2.2.2.2.2.2.2.2.2.2.2.2.2.2.2.2.2.2.2.2.2.2.2.2.2.2.2.2.2.2.2.2.1) (fun x=>(x.1,(fL x.2.1 ((),(qUp x.2.1 ((),(jI (pi x) (wG x.2.2.2 ())))))))) (fun d=>(d.1,(yPi d (vA6 d)),(NR d),(NS d)))
theorem abW:Yb yBn:=fX f13 n0 0 (e6 yI0 vVa qSe vT5 De SA) zF
def yXl:zE:=sp [(0,.c (.dat false yQ)),(1,.c (.dat false yQ)),sI 5] []
def yNv (f:yE7)(d:yXl.den):=f (dl d) (li d) (Fd d)
def yE8:=ama 0 yXl yGw vCo Unit Bool yNv Mq (fun x=>((),())) fun x=>(((x,()),()),())
def vOu:Env:=⟨prog,fun t=>[111].any (Nat.beq t),fe []⟩
theorem vGc:jJ vOu:=KI (l:=[]) (eqT:=fun t=>[111].any (Nat.beq t)) (O2 (fun t h=>Pu (p:=fun t=>prog.keyTypeAt 8 t&& !prog.eqGuardType prog.depth t) (l:=[111]) (List.forall_mem_cons.2 ⟨by kernel_rfl,List.forall_mem_nil _⟩) t h)) gJ trivial
def vAc:=ana 4 yE8
theorem vZ9:lc 26 (Nc f11 0) yE8:=lp (A:=vAc) yE8 (fun d=>match d with|.inl d=>.inl ()|.inr d=>.inr (dl d)) yNv Mq G4 vGc zF
def qTz:=(jR 11 [.c (.dat false yQ),.c (.dat false yQ)] .bool (aja G3))
theorem abX:Yb qTz:=fA f11 vAc vGc (loops1 vZ9)
def yB5:=yB 20 [.chn [Sw,IY,lM]] (.agg Av) [Sx,IZ,jb] 0 (fun k d=>pG k (kt d) (I1 d) (I2 d)) (fun x=>(vQ x.1 ((),(jT x.2.1 ((),(jI (pi x) (wG x.2.2.2 ()))))))) (fun d=>((qP d),(vQj d),(abY d),(abZ d)))
theorem yL2:Yb yB5:=fX f20 n0 0 e0 zF
def vEj:zE:=sp [(0,.c (.dat false .i)),(1,.c (.dat false .i)),sI 5] []
def vKa (f:yD2)(d:vEj.den):=f (dl d) (li d) (Fd d)
def qO4:=ama 0 vEj yGw vCo Unit Bool vKa Le (fun x=>((),())) fun x=>(((x,()),()),())
def yId:=ana 4 qO4
theorem ab0:lc 26 (Nc f52 0) qO4:=lp (A:=yId) qO4 (fun d=>match d with|.inl d=>.inl ()|.inr d=>.inr (dl d)) vKa Le Fu e0 zF
def qM6:=(jR 52 [.c (.dat false .i),.c (.dat false .i)] .bool (aja uI))
theorem SB:Yb qM6:=fA f52 yId e0 (loops1 ab0)
def vAq:zE:=sp [(0,.c (.dat false (.sl .i))),(1,.c (.dat false (.sl .i))),sI 5] []
def yS0 (f:qW7)(d:vAq.den):=f (dl d) (li d) (Fd d)
def yA2:=ama 0 vAq yGw vCo Unit Bool yS0 Lf (fun x=>((),())) fun x=>(((x,()),()),())
def vI4:=ana 4 yA2
theorem ab1:lc 27 (Nc f53 0) yA2:=lp (A:=vI4) yA2 (fun d=>match d with|.inl d=>.inl ()|.inr d=>.inr (dl d)) yS0 Lf Fv (e1 SB) zF
def qNr:=(jR 53 [.c (.dat false (.sl .i)),.c (.dat false (.sl .i))] .bool (aja BW))
theorem yIi:Yb qNr:=fA f53 vI4 (e1 SB) (loops1 ab1)
def vBp:zE:=sp [sP 2 0,sP 3 1,sI 5] [oB jQ,oB jQ]
def yM6 (f:yCr)(d:vBp.den):=(vI (vI (f (Fd d)) d.2.1) (pi d))
def qO7:=ama 0 vBp yGw vCo Unit Bool yM6 Lh (fun x=>((),())) fun x=>(((x,()),()),())
def ab2:Env:=⟨prog,fun t=>[80].any (Nat.beq t),fe [qNr,qM6]⟩
theorem yYy:jJ ab2:=KI (l:=[qNr,qM6]) (eqT:=fun t=>[80].any (Nat.beq t)) (O2 (fun t h=>Pu (p:=fun t=>prog.keyTypeAt 8 t&& !prog.eqGuardType prog.depth t) (l:=[80]) (List.forall_mem_cons.2 ⟨by kernel_rfl,List.forall_mem_nil _⟩) t h)) gJ ⟨yIi,SB,trivial⟩
def vHo:=ana 4 qO7
theorem vNh:lc 55 (Nc f51 0) qO7:=lp (A:=vHo) qO7 (fun d=>match d with|.inl d=>.inl ()|.inr d=>.inr (dl d)) yM6 Lh Fw yYy zF
theorem vNx:Yb (jR 51 [.agg jZ,.agg jZ] .bool (fun k d=>(mF (Lg k) d))):=fA f51 vHo yYy (loops1 vNh)
def yG6:zE:=sp [(0,.c (.dat false zH)),(1,.c (.dat false zH)),sI 5] []
def yH2 (f:yDe)(d:yG6.den):=f (dl d) (li d) (Fd d)
def qYc:=ama 0 yG6 yGw vCo Unit Bool yH2 M9 (fun x=>((),())) fun x=>(((x,()),()),())
def ab4:Env:=⟨prog,fun t=>[141].any (Nat.beq t),fe []⟩
theorem yHg:jJ ab4:=KI (l:=[]) (eqT:=fun t=>[141].any (Nat.beq t)) (O2 (fun t h=>Pu (p:=fun t=>prog.keyTypeAt 8 t&& !prog.eqGuardType prog.depth t) (l:=[141]) (List.forall_mem_cons.2 ⟨by kernel_rfl,List.forall_mem_nil _⟩) t h)) gJ trivial
def yTu:=ana 4 qYc
theorem vK0:lc 26 (Nc f54 0) qYc:=lp (A:=yTu) qYc (fun d=>match d with|.inl d=>.inl ()|.inr d=>.inr (dl d)) yH2 M9 Ia yHg zF
theorem ab6:Yb (jR 54 [.c (.dat false zH),.c (.dat false zH)] .bool (aja M8)):=fA f54 yTu yHg (loops1 vK0)
def qMn:=(jR 19 [.agg nD,.agg nD] .bool (fun k d=>rj k (qP d) (ab7 d)))
theorem vLy:Yb qMn:=fA f19 n0 (e4 vNx SB yIi ab6) zF
def qNh:=yB 14 [.ptr true lM,.agg [.i,.i]] (.tup []) [jb] 0 (fun k d=>NH k (vX d) (ci d,ii d)) (fun x=>(wG x ())) (fun d=>(vX d))
theorem vWu:Yb qNh:=fX f14 n0 1 e0 zF
def qWb:=yB 15 [.ptr true oF,.agg [.i,.i]] (.tup []) [lN] 0 (fun k d=>NI k (vX d) (ci d,ii d)) (fun x=>(wG x ())) (fun d=>(vX d))
theorem ab8:Yb qWb:=fX f15 n0 1 e0 zF
def yDv:=yB 16 [.ptr true lM] (.tup []) [jb] 0 (fun k d=>C8 k (vX d)) (fun x=>(wG x ())) (fun d=>(vX d))
theorem ab9:Yb yDv:=fX f16 ⟨[],[],[(2,3)],true⟩ 1 e0 (EF (n:=1) (by kernel_rfl) fun i hi=>match i,hi with|0,_=>.inr ⟨by kernel_rfl,zF⟩|i+1,hi=>absurd hi (by omega))
def yA1:=yB 17 [.ptr true oF] (.tup []) [lN] 0 (fun k d=>C9 k (vX d)) (fun x=>(wG x ())) (fun d=>(vX d))
theorem vTi:Yb yA1:=fX f17 n0 1 e0 zF
theorem aca:Yb (zJ 20 [.c (.nilp)] (.agg qWc) (fun k d=>NU k) (fun x=>(vQ x ())) (fun d=>(qP d))):=fA f20 n0 e0 zF
theorem yQf:Yb (jR 18 [.c (.nilp)] .bool (fun k d=>tx k)):=fA f18 n0 e0 zF
theorem vXr:Yb (jR 12 [.c (.nilp),.c .i,.c (.dat false (.int .u8))] (.own yQ) (fun k d=>qV8 k d.2.1 (pi d))):=fA f12 n0 (e3 yQf qTh yUm) zF
def qYf:=(jR 8 [] .bool (fun k d=>NK k))
theorem acd:Yb qYf:=fA f8 n0 (e11 F2q F1q vBf tw yR0 yRi yL2 qTs aca vXr yQf) zF
def yW5:zE:=sp [sI 2,(3,.c (.dat false (.pair .i (.pair .i I3)))),sP 9 0,sP 10 2,sP 11 5,sP 12 8,sP 14 10,sI 16] [oB [.i,.lit (.osl 1001001 none),.i,.i,.i],.arr false wE,oB yXk,oA (.int .u8),oA (.int .u8),oB yM5,oA (.int .u8),oA (.int .u8),oB [.lit (.ptr 1001009 0),.i,.dat true wE,.i,.i,.i,.i,.dat true qR,.dat true (.sl .i),.dat true .i,.dat true (.sl .i),.dat true .i,.dat true (.sl .i),.dat true zH,.dat true .i,.i,.bool,.i,.bool],oB [.lit (.ptr 1001002 0),.i,.i,.i,.bool],oB [.i,.dat true wE,.i,.i,.i,.lit (.ptr 1001011 0),.i,.dat true qR,.dat true (.sl .i),.dat true .i,.dat true (.sl .i),.dat true .i,.dat true (.sl .i),.dat true zH,.dat true .i,.i,.bool,.i,.bool],oB [.lit (.ptr 1001005 0),.i,.i,.i,.bool]]
def vEv:zE:=sp [sI 2,(3,.c (.dat false (.pair .i (.pair .i I3)))),sP 9 0,sP 10 2,sP 11 5,(12,.c (.lit .nilp)),(14,.c (.lit .nilp)),sI 16] [oB [.i,.lit (.osl 1001001 none),.i,.i,.i],.arr false wE,oB yXk,oA (.int .u8),oA (.int .u8),oB yM5,oA (.int .u8),oA (.int .u8)]
def yTc:zE:=sp [(8,.c .bool)] []
def yX8 (f:yAl)(d:rU [yW5,vEv]):Option (Unit⊕Bool):=match d with|.inl d=>f (.inl (dl d,li d,lm d,(jU d.2.1),pi d,(kq (rg d)),If d,Rd d,(kq (be d)),ce d,Pi d,(eW (un d)),(jU (ci d)),(eW (ii d)),(jU (pm d))))|.inr d=>f (.inr (dl d,li d,lm d,(jU d.2.1),pi d,(kq (rg d)),If d,Rd d,(kq (be d)),ce d,Pi d))
def qMq:zV:=⟨[yW5,vEv],[(.exit 0,yGw),(.ret,yTc)],(Unit⊕Bool),fun k d=>yX8 (rr k k) d,fun b x _ K=>match x with|.inl x=>K (.exit 0) (zM b yGw ((),()))|.inr x=>K .ret (zM b yTc (((x,()),()),()))⟩
def vCn:Env:=⟨prog,fun _=>false,fe [R0q,R1q,R2q,R3q,qS0,qRu,yE1,yBn,qTz,yAa,yB5,qMn,qNh,qWb,yDv,yA1,qYf]⟩
theorem qQm:jJ vCn:=nZ gJ ⟨F0q,F1q,F2q,F3q,vBf,vTt,yRi,abW,abX,qTs,yL2,vLy,vWu,ab8,ab9,vTi,acd,trivial⟩
def yGh:=ala 12 qMq
theorem abK:lc 155 (Nc f3 0) qMq:=lp (A:=yGh) qMq (fun d=>match d with|.inl d=>.inl ()|.inr d=>.inr (dl d)) yX8 rr Da qQm zF (hs:=by intro k rec d;rcases d with d|d<;>kernel_rfl) (h0:=by intro k d;rcases d with d|d<;>rfl)
def qRm:List AS:=[.c .i,.c .i,.c .i,.c (.dat false (.pair .i (.pair .i I3)))]
theorem abL:XS vCn yGh 0 f3 qRm (.c .bool) (fun d=>d.1) (fun k d=>Sr k d.1 d.2.1 (pi d) (rg d)):=by intro k d;kernel_rfl
end
end Go.Ab.Gi
