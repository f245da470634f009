/- part 79 -/
import Derived.Test.YtbejmoaalcabdaaGreatGiXRa
set_option linter.unusedVariables false
set_option maxRecDepth 100000
set_option maxHeartbeats 4000000
namespace Go.Ab.Gi
open Go.RowKit Go.Lib Go.Proofs Go.Proofs.Tryz
noncomputable section
def Wu:=zJ 123 [.c (.dat true zH),.c .i] (.tup [(false,vL),(false,qF)]) (fun k d=>Jd k d.1 d.2.1) (fun x=>(x.1,x.2,()))
theorem vV7:zD prog Wu:=fA (rs:=.tup [(false,vL),(false,qF)]) f123 n0 (fun d=>(d.1,d.2.1)) (e3 lu Wv JS) zG
def vQ7:=zJ 125 [.c (.dat true zH),.c .i,.c .i] (.tup [(false,vL),(false,qF)]) (fun k d=>Jc k d.1 d.2.1 d.2.2.1) (fun x=>(x.1,x.2,()))
theorem vUg:zD prog vQ7:=fA (rs:=.tup [(false,vL),(false,qF)]) f125 n0 (fun d=>(d.1,d.2.1)) (e3 lu Wv JS) zG
def vIb:=yK 79 [.ptr true A3,.c (.p .i),.agg JT] (.c .i) [mj] 0 (fun k d=>Ax k (yD d d.2.2.2.2.2.2.2.2.2.2.2.2.2.2.2.2.2.2.1) d.2.2.2.2.2.2.2.2.2.2.2.2.2.2.2.2.2.2.2.1 (yKj d)) (fun x=>(x.1,(wx x.2 ())))
theorem Ww:zD prog vIb:=fX (rs:=.c .i) (os:=[mj]) (ns:=0) f79 n0 1 (fun d=>(d.1,(A4 d))) (e7 vXk lu rp Wx vV7 yO3 vUg) zG
def vZ7:=yK 80 [.ptr true A3,.c (.p .i),.agg JT] (.c .i) [mj] 0 (fun k d=>Ay k (yD d d.2.2.2.2.2.2.2.2.2.2.2.2.2.2.2.2.2.2.1) d.2.2.2.2.2.2.2.2.2.2.2.2.2.2.2.2.2.2.2.1 (yKj d)) (fun x=>(x.1,(wx x.2 ())))
theorem vEy:zD prog vZ7:=fX (rs:=.c .i) (os:=[mj]) (ns:=0) f80 n0 1 (fun d=>(d.1,(A4 d))) (e2 wy Wy) zG
def vMq:=zJ 127 [.c (.dat false .i),.c .i,.c .i] (.c (.own .i)) (fun k d=>tm k d.1 d.2.1 d.2.2.1) (fun x=>(x,()))
theorem Wz:zD prog vMq:=fA (rs:=.c (.own .i)) f127 n0 (fun d=>d.1) e0 zG
def vWc:=zJ 261 [.c .i] (.c (.own .i)) (fun k d=>Nm k d.1) (fun x=>(x,()))
theorem WA:zD prog vWc:=fA (rs:=.c (.own .i)) f261 n0 (fun d=>d.1) e0 zG
def yFk:zE:=⟨[(0,.c (.lit (.osl 1001000 none))),(3,.c .i)],[.arr true .i],[]⟩
def yNh:zE:=⟨[(0,.c (.lit (.osl 1001000 none)))],[.arr true .i],[]⟩
def yAy (f:Int→AC→Option AC)(d:yFk.den):=f d.1.2.1.1 d.2.1
def WB:zU:=⟨[yFk],[(.exit 0,yNh)],AC,fun k d=>yAy (WC k k) d,fun b x _ K=>K (.exit 0) (zN b yNh (((),()),(x,())))⟩
def yWo:zW:=⟨[],[(2,WB)],[],true⟩
theorem vL2:zT prog 1000 0 35 (zQ (zS f262) 0) WB:=lp (A:=yWo) WB (fun d=>d.2.1) yAy WC yQ7 e0 zG
def vEi:=yK 262 [.c (.own .i)] (.c (.own .i)) [] 0 (fun k d=>EH k d.1) (fun x=>(x,()))
theorem JU:zD prog vEi:=fX (rs:=.c (.own .i)) (os:=[]) (ns:=0) f262 yWo 0 (fun d=>d.1) e0 (qB vL2)
def ySj:zE:=⟨[(1,.c .i),(5,.c (.lit (.osl 1001000 none))),(6,.c (.lit (.osl 1001001 none))),(7,.c .i),(8,.c .i)],[.arr true .i,.arr true .i],[]⟩
def yMn:zE:=⟨[(1,.c .i),(5,.c (.lit (.osl 1001000 none))),(6,.c (.lit (.osl 1001001 none))),(7,.c .i)],[.arr true .i,.arr true .i],[]⟩
def yWk (f:WD)(d:ySj.den):=f d.1.1.1 d.1.2.2.2.1.1 d.1.2.2.2.2.1.1 d.2.1 d.2.2.1
def WE:zU:=⟨[ySj],[(.exit 2,yMn)],WG,fun k d=>yWk (WH k k) d,fun b x _ K=>K (.exit 2) (zN b yMn (((x.1,()),(),(),(x.2.1,()),()),(x.2.2.1,x.2.2.2,())))⟩
def yVp:zE:=⟨[(1,.c .i),(5,.c (.lit (.osl 1001000 none))),(6,.c (.lit (.osl 1001001 none))),(7,.c .i)],[.arr true .i,.arr true .i],[]⟩
def yO2:zE:=⟨[(6,.c (.lit (.osl 1001000 none)))],[.arr true .i],[]⟩
def yXe (f:WI)(d:yVp.den):=f d.1.1.1 d.1.2.2.2.1.1 d.2.1 d.2.2.1
def WJ:zU:=⟨[yVp],[(.exit 0,yO2)],AC,fun k d=>yXe (Nk k k) d,fun b x _ K=>K (.exit 0) (zN b yO2 (((),()),(x,())))⟩
def WK:zW:=⟨[],[(7,WE),(4,WJ)],[],true⟩
theorem vWf:zT prog 1000 0 47 (zQ (zQ (zS f225) 0) 0) WE:=lp (A:=WK) WE (fun d=>(d.1.1.1,d.1.2.2.2.1.1,d.2.1,d.2.2.1)) yWk WH yTf (e2 WA JU) zG
theorem vR1:zT prog 1000 0 47 (zQ (zS f225) 0) WJ:=lp (A:=WK) WJ (fun d=>d.2.1) yXe Nk yNf (e2 WA JU) (qB vWf)
def WL:=zJ 225 [.c .i,.c .i] (.c (.own .i)) (fun k d=>Nl k d.1 d.2.1) (fun x=>(x,()))
theorem vWk:zD prog WL:=fA (rs:=.c (.own .i)) f225 WK (fun d=>d.1) (e2 WA JU) (qB vR1)
def yEm:zE:=⟨[(0,.c (.lit (.osl 1001000 none))),(1,.c .i),(5,.c .i)],[.arr true .i],[]⟩
def vAm:zE:=⟨[(0,.c (.lit (.osl 1001000 none)))],[.arr true .i],[]⟩
def yV0 (f:Int→Int→AC→Option AC)(d:yEm.den):=f d.1.2.1.1 d.1.2.2.1.1 d.2.1
def WM:zU:=⟨[yEm],[(.exit 0,vAm)],AC,fun k d=>yV0 (Ni k k) d,fun b x _ K=>K (.exit 0) (zN b vAm (((),()),(x,())))⟩
def yFp:zW:=⟨[],[(2,WM)],[],true⟩
theorem vTa:zT prog 1000 0 23 (zQ (zS f226) 0) WM:=lp (A:=yFp) WM (fun d=>d.2.1) yV0 Ni yR5 (e1 JU) zG
def vUp:=yK 226 [.c (.own .i),.c (.p .i)] (.c (.own .i)) [] 0 (fun k d=>Nh k d.1 d.2.1) (fun x=>(x,()))
theorem vH3:zD prog vUp:=fX (rs:=.c (.own .i)) (os:=[]) (ns:=0) f226 yFp 0 (fun d=>d.1) (e1 JU) (qB vTa)
def yI4:zE:=⟨[(0,.c (.lit (.osl 1001000 none))),(1,.c .i),(6,.c .i),(7,.c .i)],[.arr true .i],[]⟩
def yHo:zE:=⟨[(0,.c (.lit (.osl 1001000 none)))],[.arr true .i],[]⟩
def yGv (f:WN)(d:yI4.den):=f d.1.2.1.1 d.1.2.2.1.1 d.1.2.2.2.1.1 d.2.1
def On:zU:=⟨[yI4],[(.exit 0,yHo)],AC,fun k d=>yGv (I6 k k) d,fun b x _ K=>K (.exit 0) (zN b yHo (((),()),(x,())))⟩
def yJc:zE:=⟨[(0,.c (.lit (.osl 1001000 none))),(9,.c .i)],[.arr true .i],[]⟩
def yYd:zE:=⟨[(0,.c (.lit (.osl 1001000 none)))],[.arr true .i],[]⟩
def yR1:zE:=⟨[(4,.c .i),(5,.c .bool)],[],[]⟩
def yMo (f:WO)(d:yJc.den):=f d.1.2.1.1 d.2.1
def Oo:zU:=⟨[yJc],[(.exit 2,yYd),(.ret,yR1)],(AC⊕jX),fun k d=>yMo (EI k k) d,fun b x _ K=>match x with|.inl x=>K (.exit 2) (zN b yYd (((),()),(x,())))|.inr x=>K .ret (zN b yR1 (((x.1,()),(x.2,()),()),()))⟩
def WQ:zW:=⟨[],[(3,On),(9,Oo)],[],true⟩
theorem vM7:zT prog 1000 0 66 (zQ (zS f227) 0) On:=lp (A:=WQ) On (fun d=>d.2.1) yGv I6 yC9 e0 zG
theorem vPh:zT prog 1000 0 66 (zQ (zS f227) 1) Oo:=lp (A:=WQ) Oo (fun d=>match d with|.inl d=>.inl d.2.1|.inr d=>.inr (d.1.1.1,d.1.2.1.1)) yMo EI vBq e0 zG
def vX8:=yK 227 [.c (.own .i),.c (.p .i)] (.tup [(false,qF),(false,[.bool])]) [] 0 (fun k d=>Nj k d.1 d.2.1) (fun x=>(x.1,x.2,()))
theorem vNh:zD prog vX8:=fX (rs:=.tup [(false,qF),(false,[.bool])]) (os:=[]) (ns:=0) f227 WQ 0 (fun d=>(d.1,d.2.1)) e0 (loopsOK_of (n:=2) (by kernel_rfl) fun i hi=>match i,hi with|0,_=>⟨On,by kernel_rfl,vM7⟩|1,_=>⟨Oo,by kernel_rfl,vPh⟩|i+2,hi=>absurd hi (by omega))
def vFv:=zJ 184 [.c .i,.c .i,.c .i] (.tup [(false,qF),(false,[.bool])]) (fun k d=>Ns k d.1 d.2.1 d.2.2.1) (fun x=>(x.1,x.2,()))
theorem yWy:zD prog vFv:=fA (rs:=.tup [(false,qF),(false,[.bool])]) f184 n0 (fun d=>(d.1,d.2.1)) (e3 vWk vH3 vNh) zG
def vYh:=zJ 185 [.c .i,.c .i] (.tup [(false,qF),(false,[.bool])]) (fun k d=>EK k d.1 d.2.1) (fun x=>(x.1,x.2,()))
theorem WR:zD prog vYh:=fA (rs:=.tup [(false,qF),(false,[.bool])]) f185 n0 (fun d=>(d.1,d.2.1)) e0 zG
def yVx:zE:=⟨[(0,.c (.dat false wE)),(1,.c (.dat false .i)),(2,.c (.dat false .i)),(8,.c .i),(9,.c .i)],[],[]⟩
def yF6:zE:=⟨[(8,.c .i)],[],[]⟩
def yHk:zE:=⟨[(6,.c .i),(7,.c .bool)],[],[]⟩
def yDt (f:WS)(d:yVx.den):=f d.1.1.1 d.1.2.1.1 d.1.2.2.1.1 d.1.2.2.2.1.1 d.1.2.2.2.2.1.1
def WT:zU:=⟨[yVx],[(.exit 0,yF6),(.ret,yHk)],(Int⊕jX),fun k d=>yDt (Jb k k) d,fun b x _ K=>match x with|.inl x=>K (.exit 0) (zN b yF6 (((x,()),()),()))|.inr x=>K .ret (zN b yHk (((x.1,()),(x.2,()),()),()))⟩
def yXt:zW:=⟨[],[(5,WT)],[],true⟩
theorem vEx:zT prog 1000 0 63 (zQ (zS f128) 0) WT:=lp (A:=yXt) WT (fun d=>match d with|.inl d=>.inl d.1.1.1|.inr d=>.inr (d.1.1.1,d.1.2.1.1)) yDt Jb EL (e2 yWy WR) zG
def vU6:=zJ 128 [.c (.dat false wE),.c (.dat false .i),.c (.dat false .i)] (.tup [(false,qF),(false,[.bool])]) (fun k d=>zw k d.1 d.2.1 d.2.2.1) (fun x=>(x.1,x.2,()))
theorem WU:zD prog vU6:=fA (rs:=.tup [(false,qF),(false,[.bool])]) f128 yXt (fun d=>(d.1,d.2.1)) (e2 yWy WR) (qB vEx)
def WV:=yK 81 [.ptr true A3,.c (.p .i),.c (.p .i)] (.c .i) [mj] 0 (fun k d=>NB k (yD d d.2.2.2.2.2.2.2.2.2.2.2.2.2.2.2.2.2.2.1) d.2.2.2.2.2.2.2.2.2.2.2.2.2.2.2.2.2.2.2.1 d.2.2.2.2.2.2.2.2.2.2.2.2.2.2.2.2.2.2.2.2.1) (fun x=>(x.1,(wx x.2 ())))
theorem vQm:zD prog WV:=fX (rs:=.c .i) (os:=[mj]) (ns:=0) f81 n0 1 (fun d=>(d.1,(A4 d))) (e3 Wz WU wy) zG
def vE6:=zJ 129 [.agg mU,.c .i] (.tup [(true,wz),(false,qF)]) (fun k d=>E3 k (d.1,d.2.1,d.2.2.1) d.2.2.2.1) (fun x=>(x.1.1,x.1.2.1,x.1.2.2,x.2,()))
theorem WW:zD prog vE6:=fA (rs:=.tup [(true,wz),(false,qF)]) f129 n0 (fun d=>((d.1,d.2.1,d.2.2.1),d.2.2.2.1)) (e2 WR Oq) zG
def vWx:=yK 82 [.ptr true A3,.c (.p .bool),.c (.p .i),.c (.p .i)] (.c .i) [mj] 0 (fun k d=>E4 k (yD d d.2.2.2.2.2.2.2.2.2.2.2.2.2.2.2.2.2.2.1) d.2.2.2.2.2.2.2.2.2.2.2.2.2.2.2.2.2.2.2.1 d.2.2.2.2.2.2.2.2.2.2.2.2.2.2.2.2.2.2.2.2.1 d.2.2.2.2.2.2.2.2.2.2.2.2.2.2.2.2.2.2.2.2.2.1) (fun x=>(x.1,(wx x.2 ())))
theorem vO3:zD prog vWx:=fX (rs:=.c .i) (os:=[mj]) (ns:=0) f82 n0 1 (fun d=>(d.1,(A4 d))) (e3 Wy wy WW) zG
def yPy:zE:=⟨[(0,.c (.lit (.ptr 1001000 0))),(7,.c (.lit (.osl 1001001 none))),(8,.c (.lit (.ptr 1001002 0))),(9,.c .i)],[.box true WX,.arr true .i,.box true rq,.arr true qY,.mat,.arr true .i,.mat],[]⟩
def yGr:zE:=⟨[(0,.c (.lit (.ptr 1001000 0))),(7,.c (.lit (.osl 1001001 none))),(8,.c (.lit (.ptr 1001002 0)))],[.box true WX,.arr true .i,.box true rq,.arr true qY,.mat,.arr true .i,.mat],[]⟩
def yPb:zE:=⟨[(0,.c (.lit (.ptr 1001000 0))),(6,.c .i)],[.box true WX],[]⟩
def yZ4 (f:WY)(d:yPy.den):=f d.1.2.2.2.1.1 (jQ d.2.1) d.2.2.1 d.2.2.2.2.1 d.2.2.2.2.2.1 d.2.2.2.2.2.2.1 d.2.2.2.2.2.2.2.1
def WZ:zU:=⟨[yPy],[(.exit 0,yGr),(.ret,yPb)],W0,fun k d=>yZ4 (tn k k) d,fun b x _ K=>match x with|.inl x=>K (.exit 0) (zN b yGr (((),(),(),()),((wY x.1 ()),x.2.1,(),x.2.2.1,x.2.2.2.1,x.2.2.2.2.1,x.2.2.2.2.2,())))|.inr x=>K .ret (zN b yPb (((),(x.1,()),()),((wY x.2 ()),())))⟩
def yD0:zW:=⟨[],[(6,WZ)],[],true⟩
theorem W1:zT prog 1000 1 93 (zQ (zS f83) 0) WZ:=lp (A:=yD0) WZ (fun d=>match d with|.inl d=>.inl ((jQ d.2.1),d.2.2.1,d.2.2.2.2.1,d.2.2.2.2.2.1,d.2.2.2.2.2.2.1,d.2.2.2.2.2.2.2.1)|.inr d=>.inr (d.1.2.1.1,(jQ d.2.1))) yZ4 tn E5 (e3 Wz wy WU) zG
def W2:=yK 83 [.ptr true A3,.c (.p .i),.c (.p .i)] (.c .i) [mj] 0 (fun k d=>NC k (yD d d.2.2.2.2.2.2.2.2.2.2.2.2.2.2.2.2.2.2.1) d.2.2.2.2.2.2.2.2.2.2.2.2.2.2.2.2.2.2.2.1 d.2.2.2.2.2.2.2.2.2.2.2.2.2.2.2.2.2.2.2.2.1) (fun x=>(x.1,(wx x.2 ())))
theorem vYe:zD prog W2:=fX (rs:=.c .i) (os:=[mj]) (ns:=0) f83 yD0 1 (fun d=>(d.1,(A4 d))) (e3 Wz wy WU) (qB W1)
def vG0:=yK 42 [.ptr true A3,.agg vE] (.c .i) [mj] 0 (fun k d=>wi k (yD d d.2.2.2.2.2.2.2.2.2.2.2.2.2.2.2.2.2.2.1) (vEa d)) (fun x=>(x.1,(wx x.2 ())))
theorem vI7:zD prog vG0:=fX (rs:=.c .i) (os:=[mj]) (ns:=0) f42 n0 1 (fun d=>(d.1,(A4 d))) (e6 vQ3 Ww vEy vQm vO3 vYe) zG
def qYs:=zJ 12 [.agg FO,.agg w4,.agg A5] (.tup [(true,kC),(false,[.own qN]),(false,qF)]) (fun k d=>Jy k (yG d) (rf d) (W3 d)) (fun x=>(wA x.1 (x.2.1,x.2.2,())))
theorem vFq:zD prog qYs:=fA (rs:=.tup [(true,kC),(false,[.own qN]),(false,qF)]) f12 n0 (fun d=>((qZ d),d.2.2.2.2.2.2.2.2.2.2.2.1,d.2.2.2.2.2.2.2.2.2.2.2.2.1)) (e7 vV6 w5 rp vSl vI7 JV Ot) zG
def yQf:zE:=⟨[(0,.c (.dat false qN)),(1,.c (.dat false qN)),(5,.c .i)],[],[]⟩
def yH0:zE:=⟨[],[],[]⟩
def yZ1:zE:=⟨[(4,.c .bool)],[],[]⟩
def yXl (f:W4)(d:yQf.den):=f d.1.1.1 d.1.2.1.1 d.1.2.2.1.1
def W5:zU:=⟨[yQf],[(.exit 0,yH0),(.ret,yZ1)],(Unit⊕Bool),fun k d=>yXl (IY k k) d,fun b x _ K=>match x with|.inl x=>K (.exit 0) (zN b yH0 ((),()))|.inr x=>K .ret (zN b yZ1 (((x,()),()),()))⟩
def W6:Env:=⟨prog,fun t=>[59].any (Nat.beq t),jV []⟩
theorem yC2:wZ W6:=Hu (l:=[]) (eqT:=fun t=>[59].any (Nat.beq t)) (KY (fun t h=>Lp (p:=fun t=>prog.keyTypeAt 8 t&& !prog.eqGuardType prog.depth t) (l:=[59]) (List.forall_mem_cons.2 ⟨by kernel_rfl,List.forall_mem_nil _⟩) t h)) fW trivial
def yZ9:zW:=⟨[],[(4,W5)],[],false⟩
theorem vOa:zT prog 1000 0 26 (zQ (zS f14) 0) W5:=lp (A:=yZ9) W5 (fun d=>match d with|.inl d=>.inl ()|.inr d=>.inr d.1.1.1) yXl IY Eu yC2 zG
def qLu:=zJ 14 [.c (.dat false qN),.c (.dat false qN)] (.c .bool) (fun k d=>vn k d.1 d.2.1) (fun x=>(x,()))
theorem vZx:zD prog qLu:=fA (rs:=.c .bool) f14 yZ9 (fun d=>d.1) yC2 (qB vOa)
def qZ8:zE:=⟨[(0,.c (.dat false .i)),(1,.c (.dat false .i)),(5,.c .i)],[],[]⟩
def yJo:zE:=⟨[],[],[]⟩
def yCw:zE:=⟨[(4,.c .bool)],[],[]⟩
def yS2 (f:W7)(d:qZ8.den):=f d.1.1.1 d.1.2.1.1 d.1.2.2.1.1
def W8:zU:=⟨[qZ8],[(.exit 0,yJo),(.ret,yCw)],(Unit⊕Bool),fun k d=>yS2 (HV k k) d,fun b x _ K=>match x with|.inl x=>K (.exit 0) (zN b yJo ((),()))|.inr x=>K .ret (zN b yCw (((x,()),()),()))⟩
def yOm:zW:=⟨[],[(4,W8)],[],false⟩
theorem vHl:zT prog 1000 0 26 (zQ (zS f46) 0) W8:=lp (A:=yOm) W8 (fun d=>match d with|.inl d=>.inl ()|.inr d=>.inr d.1.1.1) yS2 HV CM e0 zG
def W9:=zJ 46 [.c (.dat false .i),.c (.dat false .i)] (.c .bool) (fun k d=>sI k d.1 d.2.1) (fun x=>(x,()))
theorem Ou:zD prog W9:=fA (rs:=.c .bool) f46 yOm (fun d=>d.1) e0 (qB vHl)
def yFs:zE:=⟨[(0,.c (.dat false (.sl .i))),(1,.c (.dat false (.sl .i))),(5,.c .i)],[],[]⟩
def yCb:zE:=⟨[],[],[]⟩
def yQd:zE:=⟨[(4,.c .bool)],[],[]⟩
def yFw (f:Xa)(d:yFs.den):=f d.1.1.1 d.1.2.1.1 d.1.2.2.1.1
def Xb:zU:=⟨[yFs],[(.exit 0,yCb),(.ret,yQd)],(Unit⊕Bool),fun k d=>yFw (HW k k) d,fun b x _ K=>match x with|.inl x=>K (.exit 0) (zN b yCb ((),()))|.inr x=>K .ret (zN b yQd (((x,()),()),()))⟩
def yEj:zW:=⟨[],[(4,Xb)],[],false⟩
theorem vFn:zT prog 1000 0 27 (zQ (zS f47) 0) Xb:=lp (A:=yEj) Xb (fun d=>match d with|.inl d=>.inl ()|.inr d=>.inr d.1.1.1) yFw HW CN (e1 Ou) zG
def Xc:=zJ 47 [.c (.dat false (.sl .i)),.c (.dat false (.sl .i))] (.c .bool) (fun k d=>yr k d.1 d.2.1) (fun x=>(x,()))
theorem yUc:zD prog Xc:=fA (rs:=.c .bool) f47 yEj (fun d=>d.1) (e1 Ou) (qB vFn)
def yLo:zE:=⟨[(2,.c (.lit (.ptr 1001000 0))),(3,.c (.lit (.ptr 1001001 0))),(5,.c .i)],[.box true jO,.box true jO],[]⟩
def yX4:zE:=⟨[],[],[]⟩
def vA2:zE:=⟨[(4,.c .bool)],[],[]⟩
def yK7 (f:Xd)(d:yLo.den):=(vB (vB (f d.1.2.2.1.1) d.2.1) d.2.2.1)
def Xe:zU:=⟨[yLo],[(.exit 0,yX4),(.ret,vA2)],(Unit⊕Bool),fun k d=>yK7 (HY k k) d,fun b x _ K=>match x with|.inl x=>K (.exit 0) (zN b yX4 ((),()))|.inr x=>K .ret (zN b vA2 (((x,()),()),()))⟩
def Xf:Env:=⟨prog,fun t=>[71].any (Nat.beq t),jV [Xc,W9]⟩
theorem yJ2:wZ Xf:=Hu (l:=[Xc,W9]) (eqT:=fun t=>[71].any (Nat.beq t)) (KY (fun t h=>Lp (p:=fun t=>prog.keyTypeAt 8 t&& !prog.eqGuardType prog.depth t) (l:=[71]) (List.forall_mem_cons.2 ⟨by kernel_rfl,List.forall_mem_nil _⟩) t h)) fW ⟨yUc,Ou,trivial⟩
def ySr:zW:=⟨[],[(4,Xe)],[],false⟩
theorem vTf:zT prog 1000 0 55 (zQ (zS f45) 0) Xe:=lp (A:=ySr) Xe (fun d=>match d with|.inl d=>.inl ()|.inr d=>.inr d.1.1.1) yK7 HY CO yJ2 zG
def vXx:=zJ 45 [.agg jI,.agg jI] (.c .bool) (fun k d=>(lv (HX k) d)) (fun x=>(x,()))
theorem vMh:zD prog vXx:=fA (rs:=.c .bool) f45 ySr (fun d=>d.1) yJ2 (qB vTf)
def yVg:zE:=⟨[(0,.c (.dat false zH)),(1,.c (.dat false zH)),(5,.c .i)],[],[]⟩
def yXu:zE:=⟨[],[],[]⟩
def yX0:zE:=⟨[(4,.c .bool)],[],[]⟩
def vCu (f:Xg)(d:yVg.den):=f d.1.1.1 d.1.2.1.1 d.1.2.2.1.1
def Xh:zU:=⟨[yVg],[(.exit 0,yXu),(.ret,yX0)],(Unit⊕Bool),fun k d=>vCu (JB k k) d,fun b x _ K=>match x with|.inl x=>K (.exit 0) (zN b yXu ((),()))|.inr x=>K .ret (zN b yX0 (((x,()),()),()))⟩
def vJg:Env:=⟨prog,fun t=>[142].any (Nat.beq t),jV []⟩
theorem yKk:wZ vJg:=Hu (l:=[]) (eqT:=fun t=>[142].any (Nat.beq t)) (KY (fun t h=>Lp (p:=fun t=>prog.keyTypeAt 8 t&& !prog.eqGuardType prog.depth t) (l:=[142]) (List.forall_mem_cons.2 ⟨by kernel_rfl,List.forall_mem_nil _⟩) t h)) fW trivial
def yW6:zW:=⟨[],[(4,Xh)],[],false⟩
theorem vZi:zT prog 1000 0 26 (zQ (zS f48) 0) Xh:=lp (A:=yW6) Xh (fun d=>match d with|.inl d=>.inl ()|.inr d=>.inr d.1.1.1) vCu JB Fw yKk zG
def vHm:=zJ 48 [.c (.dat false zH),.c (.dat false zH)] (.c .bool) (fun k d=>JA k d.1 d.2.1) (fun x=>(x,()))
theorem Xi:zD prog vHm:=fA (rs:=.c .bool) f48 yW6 (fun d=>d.1) yKk (qB vZi)
def qI0:=zJ 15 [.agg rr,.agg rr] (.c .bool) (fun k d=>JC k (qZ d) (vMp d)) (fun x=>(x,()))
theorem vF9:zD prog qI0:=fA (rs:=.c .bool) f15 n0 (fun d=>d.1) (e4 vMh Ou yUc Xi) zG
def vNf:=zJ 24 [.c .i,.c .i,.c (.dat false .i)] (.agg FP) (fun k d=>JW k d.1 d.2.1 d.2.2.1) (fun x=>(A6 x ()))
theorem vJs:zD prog vNf:=fA (rs:=.agg FP) f24 n0 (fun d=>(lx d)) (e1 rp) zG
def yDd:zE:=⟨[(0,.c (.dat false .i)),(3,.c (.lit (.osl 1001000 none))),(4,.c .i),(5,.c .i)],[.arr true (.int .u8)],[]⟩
def yLw:zE:=⟨[(0,.c (.dat false .i)),(3,.c (.lit (.osl 1001000 none))),(4,.c .i)],[.arr true (.int .u8)],[]⟩
def yVs (f:Xj)(d:yDd.den):=f d.1.1.1 d.1.2.2.1.1 d.1.2.2.2.1.1 d.2.1
def Xk:zU:=⟨[yDd],[(.exit 2,yLw)],Xl,fun k d=>yVs (Xm k k) d,fun b x _ K=>K (.exit 2) (zN b yLw (((x.1,()),(),(x.2.1,()),()),(x.2.2,())))⟩
def vCl:zE:=⟨[(0,.c (.dat false .i)),(3,.c (.lit (.osl 1001000 none))),(4,.c .i)],[.arr true (.int .u8)],[]⟩
def vAl:zE:=⟨[(3,.c (.lit (.osl 1001000 none)))],[.arr true (.int .u8)],[]⟩
def yB5 (f:Xn)(d:vCl.den):=f d.1.1.1 d.1.2.2.1.1 d.2.1
def Xo:zU:=⟨[vCl],[(.exit 0,vAl)],AC,fun k d=>yB5 (Xp k k) d,fun b x _ K=>K (.exit 0) (zN b vAl (((),()),(x,())))⟩
def Xq:zW:=⟨[],[(6,Xk),(3,Xo)],[],true⟩
theorem Xr:zT prog 1000 0 30 (zQ (zQ (zS f86) 0) 0) Xk:=lp (A:=Xq) Xk (fun d=>(d.1.1.1,d.1.2.2.1.1,d.2.1)) yVs Xm yEw e0 zG
theorem Xs:zT prog 1000 0 30 (zQ (zS f86) 0) Xo:=lp (A:=Xq) Xo (fun d=>d.2.1) yB5 Xp yJj e0 (qB Xr)
def Xt:=zJ 86 [.c (.dat false .i)] (.c (.own (.int .u8))) (fun k d=>yCt k d.1) (fun x=>(x,()))
theorem vUa:zD prog Xt:=fA (rs:=.c (.own (.int .u8))) f86 Xq (fun d=>d.1) e0 (qB Xs)
def vF8:=zJ 49 [.agg vE] (.c (.own (.int .u8))) (fun k d=>vAb k (vJ d)) (fun x=>(x,()))
theorem Xu:zD prog vF8:=fA (rs:=.c (.own (.int .u8))) f49 ⟨[1],[],[],true⟩ (fun d=>d.1) (e3 yJx JX vUa) zG
def vD5:=zJ 23 [.agg A5] (.agg [.i,.i,.own (.int .u8),.i,.i]) (fun k d=>JY k (lx d)) (fun x=>(wS x ()))
theorem Xv:zD prog vD5:=fA (rs:=.agg [.i,.i,.own (.int .u8),.i,.i]) f23 n0 (fun d=>(yG d)) (e1 Xu) zG
def qQd:=zJ 16 [] (.c .bool) (fun k d=>Wq k) (fun x=>(x,()))
theorem Xw:zD prog qQd:=fA (rs:=.c .bool) f16 n0 (fun d=>d.1) (e4 F1q vJs Xv yEr) zG
def vCr:zE:=⟨[(1,.c .i),(2,.c (.dat true nO)),(7,.c (.lit (.ptr 1001000 0))),(8,.c (.lit (.osl 1001002 none))),(9,.c .i)],[.box true Xx,.arr true wE,.arr true nO],[(8,none,nO,false)]⟩
def yDy:zE:=⟨[(1,.c .i),(7,.c (.lit (.ptr 1001000 0))),(8,.c (.lit (.osl 1001002 none)))],[.box true Xx,.arr true wE,.arr true nO],[]⟩
def yEa (f:Xy)(d:vCr.den):=f d.1.1.1 d.1.2.1.1 d.1.2.2.2.2.1.1 (wM d.2.1) d.2.2.1 d.2.2.2.1
def Oj:zU:=⟨[vCr],[(.exit 0,yDy)],Xz,fun k d=>yEa (AZ k k) d,fun b x _ K=>K (.exit 0) (zN b yDy (((x.1,()),(),(),()),((jR x.2.1 ()),x.2.2.1,x.2.2.2,())))⟩
def yGf:zE:=⟨[(7,.c (.lit (.ptr 1001000 0))),(8,.c (.lit (.osl 1001002 none))),(10,.c (.lit (.ptr 1001003 0))),(11,.c (.lit (.ptr 1001006 0))),(12,.c .i)],[.box true Xx,.arr false wE,.arr true nO,.box true [.lit (.osl 1001004 none),.lit (.osl 1001005 none),.i,.dat true qY,.dat true (.sl .i),.dat true .i,.dat true (.sl .i),.dat true .i,.dat true (.sl .i),.dat true zH,.dat true .i,.i,.bool,.bool],.arr true (.sl qN),.arr true qN,.box true fY],[(11,some 1,.bool,true),(11,some 2,.bool,true),(11,some 3,.bool,true),(11,some 4,.bool,true),(11,some 5,.bool,true),(11,some 6,.bool,true),(11,some 7,.bool,true),(11,some 8,.bool,true)]⟩
def yFa:zE:=⟨[(10,.c (.lit (.ptr 1001000 0))),(11,.c (.lit (.ptr 1001003 0)))],[.box true [.lit (.osl 1001001 none),.lit (.osl 1001002 none),.i,.dat true qY,.dat true (.sl .i),.dat true .i,.dat true (.sl .i),.dat true .i,.dat true (.sl .i),.dat true zH,.dat true .i,.i,.bool,.bool],.arr true (.sl qN),.arr true qN,.box true fY],[]⟩
def yHg:zE:=⟨[(6,.c .bool)],[],[]⟩
def yX1 (f:XA)(d:yGf.den):=f d.1.2.2.2.2.1.1 (wM d.2.1) d.2.2.1 d.2.2.2.1 (w6 d.2.2.2.2.1) d.2.2.2.2.2.1 d.2.2.2.2.2.2.1 (qZ d.2.2.2.2.2.2.2.1)
def Ol:zU:=⟨[yGf],[(.exit 2,yFa),(.ret,yHg)],XB,fun k d=>yX1 (A2 k k) d,fun b x _ K=>match x with|.inl x=>K (.exit 2) (zN b yFa (((),(),()),((A7 x.1 ()),x.2.1,x.2.2.1,(wA x.2.2.2 ()),())))|.inr x=>K .ret (zN b yHg (((x,()),()),()))⟩
def yTz:Env:=⟨prog,fun _=>false,jV [R0q,R1q,qMy,qRu,qQt,qYs,qZb,qLu,qI0,qQd]⟩
theorem Oi:wZ yTz:=mM fW ⟨F0q,F1q,yEr,XE,vQ5,vFq,rp,vZx,vF9,Xw,trivial⟩
def XF:zW:=⟨[],[(6,Oj),(15,Ol)],[],true⟩
theorem Ws:zT prog 1000 0 121 (zQ (zS f3) 0) Oj:=lp (A:=XF) Oj (fun d=>(d.1.1.1,(wM d.2.1),d.2.2.1,d.2.2.2.1)) yEa AZ A0 Oi zG
theorem Wt:zT prog 1000 0 121 (zQ (zS f3) 1) Ol:=lp (A:=XF) Ol (fun d=>match d with|.inl d=>.inl ((w6 d.2.1),d.2.2.1,d.2.2.2.1,(qZ d.2.2.2.2.1))|.inr d=>.inr d.1.1.1) yX1 A2 wv Oi zG
def Wr:List AS:=[.c .i,.c .i,.c (.dat true nO)]
theorem vRc:S5 yTz XF 0 f3 Wr (.c .bool) (fun d=>d.1) (fun k d=>Oh k d.1 d.2.1 d.2.2.1):=by intro k d;kernel_rfl
end
end Go.Ab.Gi
