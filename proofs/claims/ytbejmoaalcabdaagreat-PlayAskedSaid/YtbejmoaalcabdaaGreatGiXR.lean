/- part 80 -/
import Derived.Test.YtbejmoaalcabdaaGreatGiXRa
set_option linter.unusedVariables false
set_option maxRecDepth 100000
set_option maxHeartbeats 4000000
namespace Go.Ab.Gi
open Go.RowKit Go.Lib Go.Proofs Go.Proofs.Tryz
noncomputable section
def yH8:zF:=⟨[(1,.c .i),(5,.c (.lit (.osl 1001000 none))),(6,.c (.lit (.osl 1001001 none))),(7,.c .i),(8,.c .i)],[.arr true .i,.arr true .i],[]⟩
def yVq:zF:=⟨[(1,.c .i),(5,.c (.lit (.osl 1001000 none))),(6,.c (.lit (.osl 1001001 none))),(7,.c .i)],[.arr true .i,.arr true .i],[]⟩
def yI7 (f:VO)(d:yH8.den):=f d.1.1.1 d.1.2.2.2.1.1 d.1.2.2.2.2.1.1 d.2.1 d.2.2.1
def VP:zV:=⟨[yH8],[(.exit 2,yVq)],VQ,fun k d=>yI7 (VR k k) d,fun b x _ K=>K (.exit 2) (zN b yVq (((x.1,()),(),(),(x.2.1,()),()),(x.2.2.1,x.2.2.2,())))⟩
def yOl:zF:=⟨[(1,.c .i),(5,.c (.lit (.osl 1001000 none))),(6,.c (.lit (.osl 1001001 none))),(7,.c .i)],[.arr true .i,.arr true .i],[]⟩
def yUt:zF:=⟨[(6,.c (.lit (.osl 1001000 none)))],[.arr true .i],[]⟩
def yXi (f:VT)(d:yOl.den):=f d.1.1.1 d.1.2.2.2.1.1 d.2.1 d.2.2.1
def VU:zV:=⟨[yOl],[(.exit 0,yUt)],AC,fun k d=>yXi (Nt k k) d,fun b x _ K=>K (.exit 0) (zN b yUt (((),()),(x,())))⟩
def VV:zZ:=⟨[],[(7,VP),(4,VU)],[],true⟩
theorem vWs:zU prog 1000 0 47 (zR (zR (zS f225) 0) 0) VP:=lp (A:=VV) VP (fun d=>(d.1.1.1,d.1.2.2.2.1.1,d.2.1,d.2.2.1)) yI7 VR yK0 (e2 VW JI) zG
theorem vP3:zU prog 1000 0 47 (zR (zS f225) 0) VU:=lp (A:=VV) VU (fun d=>d.2.1) yXi Nt qZs (e2 VW JI) (qE vWs)
def vWz:=zJ 225 [.c .i,.c .i] (.c (.own .i)) (fun k d=>NB k d.1 d.2.1) (fun x=>(x,()))
theorem vC8:zD prog vWz:=fA (rs:=.c (.own .i)) f225 VV (fun d=>d.1) (e2 VW JI) (qE vP3)
def qZy:zF:=⟨[(0,.c (.lit (.osl 1001000 none))),(1,.c .i),(5,.c .i)],[.arr true .i],[]⟩
def yKk:zF:=⟨[(0,.c (.lit (.osl 1001000 none)))],[.arr true .i],[]⟩
def yJl (f:Int→Int→AC→Option AC)(d:qZy.den):=f d.1.2.1.1 d.1.2.2.1.1 d.2.1
def VX:zV:=⟨[qZy],[(.exit 0,yKk)],AC,fun k d=>yJl (Nr k k) d,fun b x _ K=>K (.exit 0) (zN b yKk (((),()),(x,())))⟩
def yO7:zZ:=⟨[],[(2,VX)],[],true⟩
theorem vE6:zU prog 1000 0 23 (zR (zS f226) 0) VX:=lp (A:=yO7) VX (fun d=>d.2.1) yJl Nr vAd (e1 JI) zG
def vOv:=yK 226 [.c (.own .i),.c (.p .i)] (.c (.own .i)) [] 0 (fun k d=>Nq k d.1 d.2.1) (fun x=>(x,()))
theorem vWl:zD prog vOv:=fX (rs:=.c (.own .i)) (os:=[]) (ns:=0) f226 yO7 0 (fun d=>d.1) (e1 JI) (qE vE6)
def yG7:zF:=⟨[(0,.c (.lit (.osl 1001000 none))),(1,.c .i),(6,.c .i),(7,.c .i)],[.arr true .i],[]⟩
def yIy:zF:=⟨[(0,.c (.lit (.osl 1001000 none)))],[.arr true .i],[]⟩
def yD4 (f:VY)(d:yG7.den):=f d.1.2.1.1 d.1.2.2.1.1 d.1.2.2.2.1.1 d.2.1
def Oa:zV:=⟨[yG7],[(.exit 0,yIy)],AC,fun k d=>yD4 (Je k k) d,fun b x _ K=>K (.exit 0) (zN b yIy (((),()),(x,())))⟩
def yEr:zF:=⟨[(0,.c (.lit (.osl 1001000 none))),(9,.c .i)],[.arr true .i],[]⟩
def yE1:zF:=⟨[(0,.c (.lit (.osl 1001000 none)))],[.arr true .i],[]⟩
def yUa:zF:=⟨[(4,.c .i),(5,.c .bool)],[],[]⟩
def yE8 (f:VZ)(d:yEr.den):=f d.1.2.1.1 d.2.1
def Ob:zV:=⟨[yEr],[(.exit 2,yE1),(.ret,yUa)],(AC⊕jW),fun k d=>yE8 (ES k k) d,fun b x _ K=>match x with|.inl x=>K (.exit 2) (zN b yE1 (((),()),(x,())))|.inr x=>K .ret (zN b yUa (((x.1,()),(x.2,()),()),()))⟩
def V0:zZ:=⟨[],[(3,Oa),(9,Ob)],[],true⟩
theorem vK6:zU prog 1000 0 66 (zR (zS f227) 0) Oa:=lp (A:=V0) Oa (fun d=>d.2.1) yD4 Je qZ9 e0 zG
theorem vS9:zU prog 1000 0 66 (zR (zS f227) 1) Ob:=lp (A:=V0) Ob (fun d=>match d with|.inl d=>.inl d.2.1|.inr d=>.inr (d.1.1.1,d.1.2.1.1)) yE8 ES yPb e0 zG
def vR5:=yK 227 [.c (.own .i),.c (.p .i)] (.tup [(false,qI),(false,[.bool])]) [] 0 (fun k d=>Ns k d.1 d.2.1) (fun x=>(x.1,x.2,()))
theorem V1:zD prog vR5:=fX (rs:=.tup [(false,qI),(false,[.bool])]) (os:=[]) (ns:=0) f227 V0 0 (fun d=>(d.1,d.2.1)) e0 (loopsOK_of (n:=2) (by kernel_rfl) fun i hi=>match i,hi with|0,_=>⟨Oa,by kernel_rfl,vK6⟩|1,_=>⟨Ob,by kernel_rfl,vS9⟩|i+2,hi=>absurd hi (by omega))
def V2:=zJ 184 [.c .i,.c .i,.c .i] (.tup [(false,qI),(false,[.bool])]) (fun k d=>ND k d.1 d.2.1 d.2.2.1) (fun x=>(x.1,x.2,()))
theorem yLo:zD prog V2:=fA (rs:=.tup [(false,qI),(false,[.bool])]) f184 n0 (fun d=>(d.1,d.2.1)) (e3 vC8 vWl V1) zG
def V3:=zJ 185 [.c .i,.c .i] (.tup [(false,qI),(false,[.bool])]) (fun k d=>EW k d.1 d.2.1) (fun x=>(x.1,x.2,()))
theorem V4:zD prog V3:=fA (rs:=.tup [(false,qI),(false,[.bool])]) f185 n0 (fun d=>(d.1,d.2.1)) e0 zG
def yB6:zF:=⟨[(0,.c (.dat false wB)),(1,.c (.dat false .i)),(2,.c (.dat false .i)),(8,.c .i),(9,.c .i)],[],[]⟩
def yLk:zF:=⟨[(8,.c .i)],[],[]⟩
def yWk:zF:=⟨[(6,.c .i),(7,.c .bool)],[],[]⟩
def yC2 (f:V5)(d:yB6.den):=f d.1.1.1 d.1.2.1.1 d.1.2.2.1.1 d.1.2.2.2.1.1 d.1.2.2.2.2.1.1
def V6:zV:=⟨[yB6],[(.exit 0,yLk),(.ret,yWk)],(Int⊕jW),fun k d=>yC2 (Jl k k) d,fun b x _ K=>match x with|.inl x=>K (.exit 0) (zN b yLk (((x,()),()),()))|.inr x=>K .ret (zN b yWk (((x.1,()),(x.2,()),()),()))⟩
def yIi:zZ:=⟨[],[(5,V6)],[],true⟩
theorem vL7:zU prog 1000 0 63 (zR (zS f128) 0) V6:=lp (A:=yIi) V6 (fun d=>match d with|.inl d=>.inl d.1.1.1|.inr d=>.inr (d.1.1.1,d.1.2.1.1)) yC2 Jl EX (e2 yLo V4) zG
def vT7:=zJ 128 [.c (.dat false wB),.c (.dat false .i),.c (.dat false .i)] (.tup [(false,qI),(false,[.bool])]) (fun k d=>Ax k d.1 d.2.1 d.2.2.1) (fun x=>(x.1,x.2,()))
theorem V7:zD prog vT7:=fA (rs:=.tup [(false,qI),(false,[.bool])]) f128 yIi (fun d=>(d.1,d.2.1)) (e2 yLo V4) (qE vL7)
def V8:=yK 81 [.ptr true AR,.c (.p .i),.c (.p .i)] (.c .i) [l9] 0 (fun k d=>NJ k (yC d d.2.2.2.2.2.2.2.2.2.2.2.2.2.2.2.2.2.2.1) d.2.2.2.2.2.2.2.2.2.2.2.2.2.2.2.2.2.2.2.1 d.2.2.2.2.2.2.2.2.2.2.2.2.2.2.2.2.2.2.2.2.1) (fun x=>(x.1,(wi x.2 ())))
theorem vRk:zD prog V8:=fX (rs:=.c .i) (os:=[l9]) (ns:=0) f81 n0 1 (fun d=>(d.1,(AT d))) (e3 Wa V7 wj) zG
def vB6:=zJ 129 [.agg mM,.c .i] (.tup [(true,wk),(false,qI)]) (fun k d=>E8 k (d.1,d.2.1,d.2.2.1) d.2.2.2.1) (fun x=>(x.1.1,x.1.2.1,x.1.2.2,x.2,()))
theorem vTq:zD prog vB6:=fA (rs:=.tup [(true,wk),(false,qI)]) f129 n0 (fun d=>((d.1,d.2.1,d.2.2.1),d.2.2.2.1)) (e2 V4 Oc) zG
def vLe:=yK 82 [.ptr true AR,.c (.p .bool),.c (.p .i),.c (.p .i)] (.c .i) [l9] 0 (fun k d=>E9 k (yC d d.2.2.2.2.2.2.2.2.2.2.2.2.2.2.2.2.2.2.1) d.2.2.2.2.2.2.2.2.2.2.2.2.2.2.2.2.2.2.2.1 d.2.2.2.2.2.2.2.2.2.2.2.2.2.2.2.2.2.2.2.2.1 d.2.2.2.2.2.2.2.2.2.2.2.2.2.2.2.2.2.2.2.2.2.1) (fun x=>(x.1,(wi x.2 ())))
theorem vPh:zD prog vLe:=fX (rs:=.c .i) (os:=[l9]) (ns:=0) f82 n0 1 (fun d=>(d.1,(AT d))) (e3 Wb wj vTq) zG
def yAl:zF:=⟨[(0,.c (.lit (.ptr 1001000 0))),(7,.c (.lit (.osl 1001001 none))),(8,.c (.lit (.ptr 1001002 0))),(9,.c .i)],[.box true Wc,.arr true .i,.box true qy,.arr true qX,.mat,.arr true .i,.mat],[]⟩
def yKs:zF:=⟨[(0,.c (.lit (.ptr 1001000 0))),(7,.c (.lit (.osl 1001001 none))),(8,.c (.lit (.ptr 1001002 0)))],[.box true Wc,.arr true .i,.box true qy,.arr true qX,.mat,.arr true .i,.mat],[]⟩
def yIc:zF:=⟨[(0,.c (.lit (.ptr 1001000 0))),(6,.c .i)],[.box true Wc],[]⟩
def yZm (f:Wd)(d:yAl.den):=f d.1.2.2.2.1.1 (jQ d.2.1) d.2.2.1 d.2.2.2.2.1 d.2.2.2.2.2.1 d.2.2.2.2.2.2.1 d.2.2.2.2.2.2.2.1
def We:zV:=⟨[yAl],[(.exit 0,yKs),(.ret,yIc)],Wg,fun k d=>yZm (tu k k) d,fun b x _ K=>match x with|.inl x=>K (.exit 0) (zN b yKs (((),(),(),()),((wZ x.1 ()),x.2.1,(),x.2.2.1,x.2.2.2.1,x.2.2.2.2.1,x.2.2.2.2.2,())))|.inr x=>K .ret (zN b yIc (((),(x.1,()),()),((wZ x.2 ()),())))⟩
def yX6:zZ:=⟨[],[(6,We)],[],true⟩
theorem vLt:zU prog 1000 1 93 (zR (zS f83) 0) We:=lp (A:=yX6) We (fun d=>match d with|.inl d=>.inl ((jQ d.2.1),d.2.2.1,d.2.2.2.2.1,d.2.2.2.2.2.1,d.2.2.2.2.2.2.1,d.2.2.2.2.2.2.2.1)|.inr d=>.inr (d.1.2.1.1,(jQ d.2.1))) yZm tu Fa (e3 Wa wj V7) zG
def vB4:=yK 83 [.ptr true AR,.c (.p .i),.c (.p .i)] (.c .i) [l9] 0 (fun k d=>NK k (yC d d.2.2.2.2.2.2.2.2.2.2.2.2.2.2.2.2.2.2.1) d.2.2.2.2.2.2.2.2.2.2.2.2.2.2.2.2.2.2.2.1 d.2.2.2.2.2.2.2.2.2.2.2.2.2.2.2.2.2.2.2.2.1) (fun x=>(x.1,(wi x.2 ())))
theorem vUh:zD prog vB4:=fX (rs:=.c .i) (os:=[l9]) (ns:=0) f83 yX6 1 (fun d=>(d.1,(AT d))) (e3 Wa wj V7) (qE vLt)
def Wh:=yK 42 [.ptr true AR,.agg vD] (.c .i) [l9] 0 (fun k d=>wh k (yC d d.2.2.2.2.2.2.2.2.2.2.2.2.2.2.2.2.2.2.1) (vTm d)) (fun x=>(x.1,(wi x.2 ())))
theorem Wi:zD prog Wh:=fX (rs:=.c .i) (os:=[l9]) (ns:=0) f42 n0 1 (fun d=>(d.1,(AT d))) (e6 vMv vPg vVg vRk vPh vUh) zG
def qVa:=zJ 12 [.agg FH,.agg wm,.agg AU] (.tup [(true,kz),(false,[.own qN]),(false,qI)]) (fun k d=>JC k (yF d) (qu d) (Wj d)) (fun x=>(vU x.1 (x.2.1,x.2.2,())))
theorem vTx:zD prog qVa:=fA (rs:=.tup [(true,kz),(false,[.own qN]),(false,qI)]) f12 n0 (fun d=>((qW d),d.2.2.2.2.2.2.2.2.2.2.2.1,d.2.2.2.2.2.2.2.2.2.2.2.2.1)) (e7 vPl wo wq Wk Wi JJ Od) zG
def qZz:zF:=⟨[(0,.c (.dat false .i)),(1,.c (.dat false .i)),(5,.c .i)],[],[]⟩
def yLd:zF:=⟨[],[],[]⟩
def ySc:zF:=⟨[(4,.c .bool)],[],[]⟩
def yYm (f:Wl)(d:qZz.den):=f d.1.1.1 d.1.2.1.1 d.1.2.2.1.1
def Wm:zV:=⟨[qZz],[(.exit 0,yLd),(.ret,ySc)],(Unit⊕Bool),fun k d=>yYm (HT k k) d,fun b x _ K=>match x with|.inl x=>K (.exit 0) (zN b yLd ((),()))|.inr x=>K .ret (zN b ySc (((x,()),()),()))⟩
def ySg:zZ:=⟨[],[(4,Wm)],[],false⟩
theorem vFx:zU prog 1000 0 26 (zR (zS f46) 0) Wm:=lp (A:=ySg) Wm (fun d=>match d with|.inl d=>.inl ()|.inr d=>.inr d.1.1.1) yYm HT CO e0 zG
def Wn:=zJ 46 [.c (.dat false .i),.c (.dat false .i)] (.c .bool) (fun k d=>sJ k d.1 d.2.1) (fun x=>(x,()))
theorem Oe:zD prog Wn:=fA (rs:=.c .bool) f46 ySg (fun d=>d.1) e0 (qE vFx)
def yA9:zF:=⟨[(0,.c (.dat false (.sl .i))),(1,.c (.dat false (.sl .i))),(5,.c .i)],[],[]⟩
def yDs:zF:=⟨[],[],[]⟩
def vAo:zF:=⟨[(4,.c .bool)],[],[]⟩
def yDd (f:Wo)(d:yA9.den):=f d.1.1.1 d.1.2.1.1 d.1.2.2.1.1
def Wp:zV:=⟨[yA9],[(.exit 0,yDs),(.ret,vAo)],(Unit⊕Bool),fun k d=>yDd (HU k k) d,fun b x _ K=>match x with|.inl x=>K (.exit 0) (zN b yDs ((),()))|.inr x=>K .ret (zN b vAo (((x,()),()),()))⟩
def yIg:zZ:=⟨[],[(4,Wp)],[],false⟩
theorem vWk:zU prog 1000 0 27 (zR (zS f47) 0) Wp:=lp (A:=yIg) Wp (fun d=>match d with|.inl d=>.inl ()|.inr d=>.inr d.1.1.1) yDd HU CP (e1 Oe) zG
def Wq:=zJ 47 [.c (.dat false (.sl .i)),.c (.dat false (.sl .i))] (.c .bool) (fun k d=>yt k d.1 d.2.1) (fun x=>(x,()))
theorem yIz:zD prog Wq:=fA (rs:=.c .bool) f47 yIg (fun d=>d.1) (e1 Oe) (qE vWk)
def yTe:zF:=⟨[(2,.c (.lit (.ptr 1001000 0))),(3,.c (.lit (.ptr 1001001 0))),(5,.c .i)],[.box true jN,.box true jN],[]⟩
def yZf:zF:=⟨[],[],[]⟩
def yJv:zF:=⟨[(4,.c .bool)],[],[]⟩
def yZx (f:Wr)(d:yTe.den):=(yZ (yZ (f d.1.2.2.1.1) d.2.1) d.2.2.1)
def Ws:zV:=⟨[yTe],[(.exit 0,yZf),(.ret,yJv)],(Unit⊕Bool),fun k d=>yZx (HW k k) d,fun b x _ K=>match x with|.inl x=>K (.exit 0) (zN b yZf ((),()))|.inr x=>K .ret (zN b yJv (((x,()),()),()))⟩
def vBz:Env:=⟨prog,fun t=>[71].any (Nat.beq t),eQ [Wq,Wn]⟩
theorem yM7:jA vBz:=Lp (l:=[Wq,Wn]) (eqT:=fun t=>[71].any (Nat.beq t)) (QV (fun t h=>Sm (p:=fun t=>prog.keyTypeAt 8 t&& !prog.eqGuardType prog.depth t) (l:=[71]) (List.forall_mem_cons.2 ⟨by kernel_rfl,List.forall_mem_nil _⟩) t h)) gh ⟨yIz,Oe,trivial⟩
def yYl:zZ:=⟨[],[(4,Ws)],[],false⟩
theorem vPi:zU prog 1000 0 55 (zR (zS f45) 0) Ws:=lp (A:=yYl) Ws (fun d=>match d with|.inl d=>.inl ()|.inr d=>.inr d.1.1.1) yZx HW CQ yM7 zG
def vMu:=zJ 45 [.agg jJ,.agg jJ] (.c .bool) (fun k d=>(lj (HV k) d)) (fun x=>(x,()))
theorem vUj:zD prog vMu:=fA (rs:=.c .bool) f45 yYl (fun d=>d.1) yM7 (qE vPi)
def yFq:zF:=⟨[(0,.c (.dat false zH)),(1,.c (.dat false zH)),(5,.c .i)],[],[]⟩
def yW1:zF:=⟨[],[],[]⟩
def yJs:zF:=⟨[(4,.c .bool)],[],[]⟩
def yQ8 (f:Wt)(d:yFq.den):=f d.1.1.1 d.1.2.1.1 d.1.2.2.1.1
def Wu:zV:=⟨[yFq],[(.exit 0,yW1),(.ret,yJs)],(Unit⊕Bool),fun k d=>yQ8 (JE k k) d,fun b x _ K=>match x with|.inl x=>K (.exit 0) (zN b yW1 ((),()))|.inr x=>K .ret (zN b yJs (((x,()),()),()))⟩
def vMa:Env:=⟨prog,fun t=>[142].any (Nat.beq t),eQ []⟩
theorem yQu:jA vMa:=Lp (l:=[]) (eqT:=fun t=>[142].any (Nat.beq t)) (QV (fun t h=>Sm (p:=fun t=>prog.keyTypeAt 8 t&& !prog.eqGuardType prog.depth t) (l:=[142]) (List.forall_mem_cons.2 ⟨by kernel_rfl,List.forall_mem_nil _⟩) t h)) gh trivial
def yBm:zZ:=⟨[],[(4,Wu)],[],false⟩
theorem Wv:zU prog 1000 0 26 (zR (zS f48) 0) Wu:=lp (A:=yBm) Wu (fun d=>match d with|.inl d=>.inl ()|.inr d=>.inr d.1.1.1) yQ8 JE Fz yQu zG
def vId:=zJ 48 [.c (.dat false zH),.c (.dat false zH)] (.c .bool) (fun k d=>JD k d.1 d.2.1) (fun x=>(x,()))
theorem Ww:zD prog vId:=fA (rs:=.c .bool) f48 yBm (fun d=>d.1) yQu (qE Wv)
def qJ1:=zJ 15 [.agg qz,.agg qz] (.c .bool) (fun k d=>FA k (qW d) (vQc d)) (fun x=>(x,()))
theorem yQd:zD prog qJ1:=fA (rs:=.c .bool) f15 n0 (fun d=>d.1) (e4 vUj Oe yIz Ww) zG
def yGr:zF:=⟨[(0,.c (.dat false .i)),(3,.c (.lit (.osl 1001000 none))),(4,.c .i),(5,.c .i)],[.arr true (.int .u8)],[]⟩
def yVt:zF:=⟨[(0,.c (.dat false .i)),(3,.c (.lit (.osl 1001000 none))),(4,.c .i)],[.arr true (.int .u8)],[]⟩
def yP9 (f:Wx)(d:yGr.den):=f d.1.1.1 d.1.2.2.1.1 d.1.2.2.2.1.1 d.2.1
def Wy:zV:=⟨[yGr],[(.exit 2,yVt)],Wz,fun k d=>yP9 (FB k k) d,fun b x _ K=>K (.exit 2) (zN b yVt (((x.1,()),(),(x.2.1,()),()),(x.2.2,())))⟩
def yO2:zF:=⟨[(0,.c (.dat false .i)),(3,.c (.lit (.osl 1001000 none))),(4,.c .i)],[.arr true (.int .u8)],[]⟩
def yB1:zF:=⟨[(3,.c (.lit (.osl 1001000 none)))],[.arr true (.int .u8)],[]⟩
def yQz (f:WA)(d:yO2.den):=f d.1.1.1 d.1.2.2.1.1 d.2.1
def WB:zV:=⟨[yO2],[(.exit 0,yB1)],AC,fun k d=>yQz (AP k k) d,fun b x _ K=>K (.exit 0) (zN b yB1 (((),()),(x,())))⟩
def WC:zZ:=⟨[],[(6,Wy),(3,WB)],[],true⟩
theorem WD:zU prog 1000 0 30 (zR (zR (zS f86) 0) 0) Wy:=lp (A:=WC) Wy (fun d=>(d.1.1.1,d.1.2.2.1.1,d.2.1)) yP9 FB N2 e0 zG
theorem vV7:zU prog 1000 0 30 (zR (zS f86) 0) WB:=lp (A:=WC) WB (fun d=>d.2.1) yQz AP FC e0 (qE WD)
def vXa:=zJ 86 [.c (.dat false .i)] (.c (.own (.int .u8))) (fun k d=>N1 k d.1) (fun x=>(x,()))
theorem vG9:zD prog vXa:=fA (rs:=.c (.own (.int .u8))) f86 WC (fun d=>d.1) e0 (qE vV7)
def vDe:=zJ 49 [.agg vD] (.c (.own (.int .u8))) (fun k d=>N3 k (wD d)) (fun x=>(x,()))
theorem vRn:zD prog vDe:=fA (rs:=.c (.own (.int .u8))) f49 ⟨[1],[],[],true⟩ (fun d=>d.1) (e3 yHn WE vG9) zG
def qYc:=zJ 17 [.c .i] (.agg [.i,.own wB,.i,.i,.i]) (fun k d=>AQ k d.1) (fun x=>(wS x ()))
theorem yWy:zD prog qYc:=fA (rs:=.agg [.i,.own wB,.i,.i,.i]) f17 n0 (fun d=>(yF d)) e0 zG
def qPf:=zJ 18 [.agg AU] (.agg [.i,.i,.own (.int .u8),.i,.i]) (fun k d=>N4 k (ma d)) (fun x=>(wS x ()))
theorem WG:zD prog qPf:=fA (rs:=.agg [.i,.i,.own (.int .u8),.i,.i]) f18 n0 (fun d=>(yF d)) (e1 vRn) zG
def qIh:=zJ 19 [] (.c .bool) (fun k d=>VL k) (fun x=>(x,()))
theorem vUx:zD prog qIh:=fA (rs:=.c .bool) f19 n0 (fun d=>d.1) (e4 yWy yNa yNt yQd) zG
def qZ3:zF:=⟨[(1,.c .i),(2,.c (.dat false qN)),(7,.c (.lit (.ptr 1001000 0))),(8,.c (.lit (.osl 1001002 none))),(9,.c .i)],[.box true WH,.arr true wB,.arr true (.pair .i (.pair .i FI))],[(8,none,(.pair .i (.pair .i FI)),false)]⟩
def yIt:zF:=⟨[(1,.c .i),(2,.c (.dat false qN)),(7,.c (.lit (.ptr 1001000 0))),(8,.c (.lit (.osl 1001002 none)))],[.box true WH,.arr true wB,.arr true (.pair .i (.pair .i FI))],[]⟩
def yAj (f:WI)(d:qZ3.den):=f d.1.1.1 d.1.2.1.1 d.1.2.2.2.2.1.1 (wK d.2.1) d.2.2.1 d.2.2.2.1
def N7:zV:=⟨[qZ3],[(.exit 0,yIt)],WJ,fun k d=>yAj (FD k k) d,fun b x _ K=>K (.exit 0) (zN b yIt (((x.1,()),(x.2.1,()),(),(),()),((jO x.2.2.1 ()),x.2.2.2.1,x.2.2.2.2,())))⟩
def yD6:zF:=⟨[(2,.c (.dat false qN)),(7,.c (.lit (.ptr 1001000 0))),(10,.c (.lit (.ptr 1001002 0))),(11,.c (.lit (.ptr 1001005 0))),(12,.c .i)],[.box true WH,.arr false wB,.box true [.lit (.osl 1001003 none),.lit (.osl 1001004 none),.i,.dat true qX,.dat true (.sl .i),.dat true .i,.dat true (.sl .i),.dat true .i,.dat true (.sl .i),.dat true zH,.dat true .i,.i,.bool,.bool],.arr true (.sl qN),.arr true qN,.box true fP],[(11,some 1,.bool,true),(11,some 2,.bool,true),(11,some 3,.bool,true),(11,some 4,.bool,true),(11,some 5,.bool,true),(11,some 6,.bool,true),(11,some 7,.bool,true),(11,some 8,.bool,true)]⟩
def yBa:zF:=⟨[(2,.c (.dat false qN)),(10,.c (.lit (.ptr 1001000 0))),(11,.c (.lit (.ptr 1001003 0)))],[.box true [.lit (.osl 1001001 none),.lit (.osl 1001002 none),.i,.dat true qX,.dat true (.sl .i),.dat true .i,.dat true (.sl .i),.dat true .i,.dat true (.sl .i),.dat true zH,.dat true .i,.i,.bool,.bool],.arr true (.sl qN),.arr true qN,.box true fP],[]⟩
def yUo:zF:=⟨[(6,.c .bool)],[],[]⟩
def yNj (f:WK)(d:yD6.den):=f d.1.1.1 d.1.2.2.2.2.1.1 (wK d.2.1) d.2.2.1 (wu d.2.2.2.1) d.2.2.2.2.1 d.2.2.2.2.2.1 (qW d.2.2.2.2.2.2.1)
def N8:zV:=⟨[yD6],[(.exit 2,yBa),(.ret,yUo)],WL,fun k d=>yNj (FF k k) d,fun b x _ K=>match x with|.inl x=>K (.exit 2) (zN b yBa (((x.1,()),(),(),()),((AV x.2.1 ()),x.2.2.1,x.2.2.2.1,(vU x.2.2.2.2 ()),())))|.inr x=>K .ret (zN b yUo (((x,()),()),()))⟩
def yRh:Env:=⟨prog,fun _=>false,eQ [qYc,qPf,qX9,qXt,qVa,qJ1,qIh]⟩
theorem N6:jA yRh:=mE gh ⟨yWy,WG,yNa,yNt,vTx,yQd,vUx,trivial⟩
def WM:zZ:=⟨[],[(6,N7),(12,N8)],[],true⟩
theorem vPu:zU prog 1000 0 90 (zR (zS f4) 0) N7:=lp (A:=WM) N7 (fun d=>(d.1.1.1,d.1.2.1.1,(wK d.2.1),d.2.2.1,d.2.2.2.1)) yAj FD FE N6 zG
theorem VN:zU prog 1000 0 90 (zR (zS f4) 1) N8:=lp (A:=WM) N8 (fun d=>match d with|.inl d=>.inl (d.1.1.1,(wu d.2.1),d.2.2.1,d.2.2.2.1,(qW d.2.2.2.2.1))|.inr d=>.inr d.1.1.1) yNj FF FG N6 zG
def VM:List AS:=[.c .i,.c .i,.c (.dat false qN)]
theorem vEd:SM yRh WM 0 f4 VM (.c .bool) (fun d=>d.1) (fun k d=>N5 k d.1 d.2.1 d.2.2.1):=by intro k d;kernel_rfl
end
end Go.Ab.Gi
