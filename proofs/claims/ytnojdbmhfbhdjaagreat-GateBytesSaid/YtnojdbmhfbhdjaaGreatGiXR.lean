/- part 103 -/
import Derived.Test.YtnojdbmhfbhdjaaGreatGiXRa
set_option linter.unusedVariables false
set_option maxRecDepth 100000
set_option maxHeartbeats 4000000
namespace Go.Ab.Gi
open Go.RowKit Go.Lib Go.Proofs Go.Proofs.Tryz
noncomputable section
theorem abu:gc (yB 50 [.chn [R5,IM,nu],.c (.p (.dat false (.int .u8)))] (.c .i) [R6,IN,lf] 0 (fun k d=>RZ k (ko d) (IP d) (IQ d) d.2.2.2.2.2.2.2.2.2.2.2.2.2.2.2.2.2.2.2.2.2.2.2.2.2.2.2.2.2.2.2.2.2.2.1) (fun x=>(x.1,(),(jR x.2.1 ((),(jI (Mj x) (wY x.2.2.2 ())))))) (fun d=>(d.1,(qMt d),(Nn d),(No d)))):=fX f50 n0 0 (e3 abv C5 R7) zF
theorem abw:gc (yB 52 [.chn [Np,nu]] (.c .i) [Nq,lf] 0 (fun k d=>qQc k (zz d) (C6 d)) (fun x=>(x.1,(),(jI x.2.1 (wY x.2.2 ())))) (fun d=>(d.1,(Nr d),(Ns d)))):=fX f52 n0 0 e0 zF
def qV0:=yB 15 [.chn [R5,IM,nu],.c (.p .i),.c (.p (.dat false (.int .u8)))] (.c (.own yE)) [R6,IN,lf] 0 (fun k d=>zu k (ko d) (IP d) (IQ d) d.2.2.2.2.2.2.2.2.2.2.2.2.2.2.2.2.2.2.2.2.2.2.2.2.2.2.2.2.2.2.2.2.2.2.1 d.2.2.2.2.2.2.2.2.2.2.2.2.2.2.2.2.2.2.2.2.2.2.2.2.2.2.2.2.2.2.2.2.2.2.2.1) (fun x=>(x.1,(),(jR x.2.1 ((),(jI (Mj x) (wY x.2.2.2 ())))))) (fun d=>(d.1,(qMt d),(Nn d),(No d)))
theorem vJs:gc qV0:=fX f15 n0 0 (e9 yZe yEs yX9 qZp abx abu abw C5 R7) zF
theorem vZa:gc (zI 54 [.c .i,.c .i] (.c (.own yE)) (fun k d=>Nh k d.1 d.2.1) (fun x=>(x,())) (fun d=>d.1)):=fA f54 n0 (e1 tu) zF
theorem abz:gc (BG 113 [.agg C7] (.c (.nil)) [] 0 (.c (.own (.int .u8))) [] 0 (fun k d=>Ng k (kp d)) (fun x=>((),())) (fun x=>(x,())) (fun d=>()) (fun d=>d.1)):=fN f113 n0 0 (e2 qR6 R8) zF
theorem abA:gc (yB 114 [.chn [Np,rj],.c (.p (.dat false (.int .u8)))] (.c .i) [Nq,nv] 0 (fun k d=>yp k (zz d) (C6 d) (lm d)) (fun x=>(x.1,(),(jI x.2.1 (wY x.2.2 ())))) (fun d=>(d.1,(Nr d),(Ns d)))):=fX f114 n0 0 (e3 vBm F9q qTt) zF
theorem vTm:gc (yB 55 [.chn [vI5,IM,rj],.agg C7] (.c .i) [yGa,IN,nv] 0 (fun k d=>R0 k (gg d (yY8 d)) (IP d) (IQ d) (vV4 d)) (fun x=>(x.1,(gg x.2.1 ((),(yAo x.2.1 ((),(jI (Mj x) (wY x.2.2.2 ())))))))) (fun d=>(d.1,(yF1 d (vGx d)),(Nn d),(No d)))):=fX f55 n0 0 (e4 abz abA C8 R9) zF
def qZa:=yB 16 [.chn [vI5,IM,rj],.c (.p .i),.c (.p (.dat false (.int .u8)))] (.c (.own yE)) [yGa,IN,nv] 0 (fun k d=>zv k (gg d (yY8 d)) (IP d) (IQ d) d.2.2.2.2.2.2.2.2.2.2.2.2.2.2.2.2.2.2.2.2.2.2.2.2.2.2.2.2.2.2.2.2.2.2.1 d.2.2.2.2.2.2.2.2.2.2.2.2.2.2.2.2.2.2.2.2.2.2.2.2.2.2.2.2.2.2.2.2.2.2.2.1) (fun x=>(x.1,(gg x.2.1 ((),(yAo x.2.1 ((),(jI (Mj x) (wY x.2.2.2 ())))))))) (fun d=>(d.1,(yF1 d (vGx d)),(Nn d),(No d)))
theorem vKd:gc qZa:=fX f16 n0 0 (e6 yYg vZa qLz vTm C8 R9) zF
def yGf:zE:=sp [(0,.c (.dat false yE)),(1,.c (.dat false yE)),sI 5] []
def vCa (f:qTz)(d:yGf.den):=f (wl d) (pi d) (Rd d)
def qU2:zT:=⟨[yGf],[(.exit 0,yZp),(.ret,vHg)],(Unit⊕Bool),fun k d=>vCa (L8 k k) d,fun b x _ K=>match x with|.inl x=>K (.exit 0) (zL b yZp ((),()))|.inr x=>K .ret (zL b vHg (((x,()),()),()))⟩
def abB:Env:=⟨prog,fun t=>[113].any (Nat.beq t),fj []⟩
theorem vA8:jJ abB:=Kt (l:=[]) (eqT:=fun t=>[113].any (Nat.beq t)) (OE (fun t h=>O6 (p:=fun t=>prog.keyTypeAt 8 t&& !prog.eqGuardType prog.depth t) (l:=[113]) (List.forall_mem_cons.2 ⟨by kernel_rfl,List.forall_mem_nil _⟩) t h)) gO trivial
def vEi:zU:=⟨[],[(4,qU2)],[],false⟩
theorem vR5:md 26 (wd f14 0) qU2:=lp (A:=vEi) qU2 (fun d=>match d with|.inl d=>.inl ()|.inr d=>.inr (wl d)) vCa L8 GS vA8 zF
def yAk:=zI 14 [.c (.dat false yE),.c (.dat false yE)] (.c .bool) (fun k d=>uQ k d.1 d.2.1) (fun x=>(x,())) (fun d=>d.1)
theorem vZ0:gc yAk:=fA f14 vEi vA8 (loops1 vR5)
def yDu:=yB 18 [.chn [R5,IM,nu]] (.agg Au) [R6,IN,lf] 0 (fun k d=>vw k (ko d) (IP d) (IQ d)) (fun x=>(vP x.1 ((),(jR x.2.1 ((),(jI (Mj x) (wY x.2.2.2 ()))))))) (fun d=>((qO d),(vX8 d),(abC d),(vL0 d)))
theorem yUl:gc yDu:=fX f18 n0 0 e0 zF
def yRs:zE:=sp [(0,.c (.dat false .i)),(1,.c (.dat false .i)),sI 5] []
def vJm (f:qNp)(d:yRs.den):=f (wl d) (pi d) (Rd d)
def qM8:zT:=⟨[yRs],[(.exit 0,yZp),(.ret,vHg)],(Unit⊕Bool),fun k d=>vJm (K0 k k) d,fun b x _ K=>match x with|.inl x=>K (.exit 0) (zL b yZp ((),()))|.inr x=>K .ret (zL b vHg (((x,()),()),()))⟩
def yGn:zU:=⟨[],[(4,qM8)],[],false⟩
theorem vX7:md 26 (wd f57 0) qM8:=lp (A:=yGn) qM8 (fun d=>match d with|.inl d=>.inl ()|.inr d=>.inr (wl d)) vJm K0 Fi e0 zF
def yB9:=zI 57 [.c (.dat false .i),.c (.dat false .i)] (.c .bool) (fun k d=>uB k d.1 d.2.1) (fun x=>(x,())) (fun d=>d.1)
theorem Sa:gc yB9:=fA f57 yGn e0 (loops1 vX7)
def vBa:zE:=sp [(0,.c (.dat false (.sl .i))),(1,.c (.dat false (.sl .i))),sI 5] []
def yR1 (f:qW2)(d:vBa.den):=f (wl d) (pi d) (Rd d)
def yBw:zT:=⟨[vBa],[(.exit 0,yZp),(.ret,vHg)],(Unit⊕Bool),fun k d=>yR1 (K1 k k) d,fun b x _ K=>match x with|.inl x=>K (.exit 0) (zL b yZp ((),()))|.inr x=>K .ret (zL b vHg (((x,()),()),()))⟩
def yYm:zU:=⟨[],[(4,yBw)],[],false⟩
theorem vLr:md 27 (wd f58 0) yBw:=lp (A:=yYm) yBw (fun d=>match d with|.inl d=>.inl ()|.inr d=>.inr (wl d)) yR1 K1 Fj (e1 Sa) zF
def qV4:=zI 58 [.c (.dat false (.sl .i)),.c (.dat false (.sl .i))] (.c .bool) (fun k d=>BR k d.1 d.2.1) (fun x=>(x,())) (fun d=>d.1)
theorem vEb:gc qV4:=fA f58 yYm (e1 Sa) (loops1 vLr)
def yZm:zE:=sp [sP 2 0,sP 3 1,sI 5] [oB jP,oB jP]
def yY2 (f:qY0)(d:yZm.den):=(vF (vF (f (Rd d)) d.2.1) (Mj d))
def yEm:zT:=⟨[yZm],[(.exit 0,yZp),(.ret,vHg)],(Unit⊕Bool),fun k d=>yY2 (K3 k k) d,fun b x _ K=>match x with|.inl x=>K (.exit 0) (zL b yZp ((),()))|.inr x=>K .ret (zL b vHg (((x,()),()),()))⟩
def vO2:Env:=⟨prog,fun t=>[130].any (Nat.beq t),fj [qV4,yB9]⟩
theorem yRl:jJ vO2:=Kt (l:=[qV4,yB9]) (eqT:=fun t=>[130].any (Nat.beq t)) (OE (fun t h=>O6 (p:=fun t=>prog.keyTypeAt 8 t&& !prog.eqGuardType prog.depth t) (l:=[130]) (List.forall_mem_cons.2 ⟨by kernel_rfl,List.forall_mem_nil _⟩) t h)) gO ⟨vEb,Sa,trivial⟩
def vIk:zU:=⟨[],[(4,yEm)],[],false⟩
theorem vMg:md 55 (wd f56 0) yEm:=lp (A:=vIk) yEm (fun d=>match d with|.inl d=>.inl ()|.inr d=>.inr (wl d)) yY2 K3 Fk yRl zF
theorem abE:gc (zI 56 [.agg jZ,.agg jZ] (.c .bool) (fun k d=>(mz (K2 k) d)) (fun x=>(x,())) (fun d=>d.1)):=fA f56 vIk yRl (loops1 vMg)
def vBx:zE:=sp [(0,.c (.dat false zG)),(1,.c (.dat false zG)),sI 5] []
def vAg (f:qQp)(d:vBx.den):=f (wl d) (pi d) (Rd d)
def qNq:zT:=⟨[vBx],[(.exit 0,yZp),(.ret,vHg)],(Unit⊕Bool),fun k d=>vAg (Nk k k) d,fun b x _ K=>match x with|.inl x=>K (.exit 0) (zL b yZp ((),()))|.inr x=>K .ret (zL b vHg (((x,()),()),()))⟩
def vMa:Env:=⟨prog,fun t=>[141].any (Nat.beq t),fj []⟩
theorem yIp:jJ vMa:=Kt (l:=[]) (eqT:=fun t=>[141].any (Nat.beq t)) (OE (fun t h=>O6 (p:=fun t=>prog.keyTypeAt 8 t&& !prog.eqGuardType prog.depth t) (l:=[141]) (List.forall_mem_cons.2 ⟨by kernel_rfl,List.forall_mem_nil _⟩) t h)) gO trivial
def yZs:zU:=⟨[],[(4,qNq)],[],false⟩
theorem abF:md 26 (wd f59 0) qNq:=lp (A:=yZs) qNq (fun d=>match d with|.inl d=>.inl ()|.inr d=>.inr (wl d)) vAg Nk IH yIp zF
theorem abG:gc (zI 59 [.c (.dat false zG),.c (.dat false zG)] (.c .bool) (fun k d=>Nj k d.1 d.2.1) (fun x=>(x,())) (fun d=>d.1)):=fA f59 yZs yIp (loops1 abF)
def yBk:=zI 17 [.agg nx,.agg nx] (.c .bool) (fun k d=>zy k (qO d) (abH d)) (fun x=>(x,())) (fun d=>d.1)
theorem vYt:gc yBk:=fA f17 n0 (e4 abE Sa vEb abG) zF
def qRf:=zI 18 [.c (.nilp)] (.agg qYw) (fun k d=>C9 k) (fun x=>(vP x ())) (fun d=>(qO d))
theorem yWg:gc qRf:=fA f18 n0 e0 zF
theorem yRi:gc (zI 47 [.c (.nilp)] (.c .bool) (fun k d=>tv k) (fun x=>(x,())) (fun d=>d.1)):=fA f47 n0 e0 zF
def qLv:=zI 15 [.c (.nilp),.c .i,.c (.dat false (.int .u8))] (.c (.own yE)) (fun k d=>Nt k d.2.1 (Mj d)) (fun x=>(x,())) (fun d=>d.1)
theorem yQx:gc qLv:=fA f15 n0 (e3 yRi yEs yX9) zF
def qP2:=zI 19 [] (.c .bool) (fun k d=>IL k) (fun x=>(x,())) (fun d=>d.1)
theorem abJ:gc qP2:=fA f19 n0 (e11 F1q F0q yOt tu qR6 vJs yUl yZe yWg yQx yRi) zF
def vB2:zE:=sp [(2,.c (.dat false yE)),sP 10 0,sP 12 5,sI 14] [oB yMe,oB yEa,oB yG1,oA (.int .u8),oA (.int .u8),oB [.i,.dat true wQ,.i,.i,.i,.lit (.ptr 1001006 0),.i,.dat true qQ,.dat true (.sl .i),.dat true .i,.dat true (.sl .i),.dat true .i,.dat true (.sl .i),.dat true zG,.dat true .i,.i,.bool,.i,.bool],oB [.lit (.ptr 1001007 0),.i,.i,.i,.bool],oB [.lit (.osl 1001008 none),.lit (.osl 1001009 none),.i,.i,.i,.i,.i,.i,.bool,.bool],oA (.int .u8),oA (.int .u8)]
def yM6:zE:=sp [(2,.c (.dat false yE)),sP 10 0,(12,.c (.lit .nilp)),sI 14] [oB yMe,oB yEa,oB yG1,oA (.int .u8),oA (.int .u8)]
def yJe:zE:=sp [(2,.c (.dat false yE)),(10,.c (.lit .nilp)),sP 12 0,sI 14] [oB [.i,.dat true wQ,.i,.i,.i,.lit (.ptr 1001001 0),.i,.dat true qQ,.dat true (.sl .i),.dat true .i,.dat true (.sl .i),.dat true .i,.dat true (.sl .i),.dat true zG,.dat true .i,.i,.bool,.i,.bool],oB yEa,oB [.lit (.osl 1001003 none),.lit (.osl 1001004 none),.i,.i,.i,.i,.i,.i,.bool,.bool],oA (.int .u8),oA (.int .u8)]
def vDm:zE:=sp [(2,.c (.dat false yE)),(10,.c (.lit .nilp)),(12,.c (.lit .nilp)),sI 14] []
def yOy (f:yE0)(d:rP [vB2,yM6,yJe,vDm]):Option (Unit⊕Bool):=match d with|.inl d=>f (.inl (wl d,Fd d,(jQ d.2.1),(jM (Mj d)),(kp (li d)),ii d,ge d,(jQ (If d)),(jM (rg d)),(kp (dl d)),Fn d,Pi d))|.inr (.inl d)=>f (.inr (.inl (wl d,Fd d,(jQ d.2.1),(jM (Mj d)),(kp (li d)),ii d,ge d)))|.inr (.inr (.inl d))=>f (.inr (.inr (.inl (wl d,Fd d,(jQ d.2.1),(jM (Mj d)),(kp (li d)),ii d,ge d))))|.inr (.inr (.inr d))=>f (.inr (.inr (.inr (wl d,Fd d))))
def qQq:zT:=⟨[vB2,yM6,yJe,vDm],[(.exit 0,yZp),(.ret,yV6)],(Unit⊕Bool),fun k d=>yOy (nr k k) d,fun b x _ K=>match x with|.inl x=>K (.exit 0) (zL b yZp ((),()))|.inr x=>K .ret (zL b yV6 (((x,()),()),()))⟩
def yX5:Env:=⟨prog,fun _=>false,fj [R0q,R1q,R2q,R6q,R7q,R9q,qXq,qVx,qWc,qQ8,qV0,qZa,yAk,yDu,yBk,qLv,qRf,qP2]⟩
theorem qN1:jJ yX5:=nV gO ⟨F0q,F1q,F2q,F6q,F7q,F9q,qTt,yOt,abK,qR6,vJs,vKd,vZ0,yUl,vYt,yQx,yWg,abJ,trivial⟩
def ySh:zU:=⟨[],[(16,qQq)],[],true⟩
theorem abr:md 115 (wd f3 0) qQq:=lp (A:=ySh) qQq (fun d=>match d with|.inl d=>.inl ()|.inr d=>.inr (wl d)) yOy nr IK qN1 zF (hs:=by intro k rec d;rcases d with d|d|d|d<;>kernel_rfl) (h0:=by intro k d;rcases d with d|d|d|d<;>rfl)
def yDa:List AS:=[.c (.dat false (.int .u8)),.c (.dat false (.int .u8)),.c (.dat false yE)]
theorem abt:Xv yX5 ySh 0 f3 yDa (.c .bool) (fun d=>d.1) (fun k d=>R3 k d.1 d.2.1 (Mj d)):=by intro k d;kernel_rfl
end
end Go.Ab.Gi
