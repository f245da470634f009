/- part 81 -/
import Derived.Test.YtbejmoaalcabdaaGreatGiXS
import Derived.Test.YtbejmoaalcabdaaGreatGiAbE
import Derived.Test.YtbejmoaalcabdaaGreatProg
set_option linter.unusedVariables false
set_option maxRecDepth 100000
set_option maxHeartbeats 4000000
namespace Go.Ab.Gi
open Go.RowKit Go.Lib Go.Proofs Go.Proofs.Tryz
noncomputable section
theorem gh:prog.follows .mixedOrders=true:=by kernel_rfl
abbrev n0:zZ:=⟨[],[],[],true⟩
theorem e0:jA ⟨prog,fun _=>false,eQ []⟩:=mE (l:=[]) gh trivial
theorem e1 {a0}(h0:zD prog a0):jA ⟨prog,fun _=>false,eQ [a0]⟩:=mE (l:=[a0]) gh ⟨h0,trivial⟩
theorem e2 {a0 a1}(h0:zD prog a0)(h1:zD prog a1):jA ⟨prog,fun _=>false,eQ [a0,a1]⟩:=mE (l:=[a0,a1]) gh ⟨h0,h1,trivial⟩
theorem e3 {a0 a1 a2}(h0:zD prog a0)(h1:zD prog a1)(h2:zD prog a2):jA ⟨prog,fun _=>false,eQ [a0,a1,a2]⟩:=mE (l:=[a0,a1,a2]) gh ⟨h0,h1,h2,trivial⟩
theorem e4 {a0 a1 a2 a3}(h0:zD prog a0)(h1:zD prog a1)(h2:zD prog a2)(h3:zD prog a3):jA ⟨prog,fun _=>false,eQ [a0,a1,a2,a3]⟩:=mE (l:=[a0,a1,a2,a3]) gh ⟨h0,h1,h2,h3,trivial⟩
theorem e5 {a0 a1 a2 a3 a4}(h0:zD prog a0)(h1:zD prog a1)(h2:zD prog a2)(h3:zD prog a3)(h4:zD prog a4):jA ⟨prog,fun _=>false,eQ [a0,a1,a2,a3,a4]⟩:=mE (l:=[a0,a1,a2,a3,a4]) gh ⟨h0,h1,h2,h3,h4,trivial⟩
theorem e6 {a0 a1 a2 a3 a4 a5}(h0:zD prog a0)(h1:zD prog a1)(h2:zD prog a2)(h3:zD prog a3)(h4:zD prog a4)(h5:zD prog a5):jA ⟨prog,fun _=>false,eQ [a0,a1,a2,a3,a4,a5]⟩:=mE (l:=[a0,a1,a2,a3,a4,a5]) gh ⟨h0,h1,h2,h3,h4,h5,trivial⟩
theorem e7 {a0 a1 a2 a3 a4 a5 a6}(h0:zD prog a0)(h1:zD prog a1)(h2:zD prog a2)(h3:zD prog a3)(h4:zD prog a4)(h5:zD prog a5)(h6:zD prog a6):jA ⟨prog,fun _=>false,eQ [a0,a1,a2,a3,a4,a5,a6]⟩:=mE (l:=[a0,a1,a2,a3,a4,a5,a6]) gh ⟨h0,h1,h2,h3,h4,h5,h6,trivial⟩
theorem e8 {a0 a1 a2 a3 a4 a5 a6 a7}(h0:zD prog a0)(h1:zD prog a1)(h2:zD prog a2)(h3:zD prog a3)(h4:zD prog a4)(h5:zD prog a5)(h6:zD prog a6)(h7:zD prog a7):jA ⟨prog,fun _=>false,eQ [a0,a1,a2,a3,a4,a5,a6,a7]⟩:=mE (l:=[a0,a1,a2,a3,a4,a5,a6,a7]) gh ⟨h0,h1,h2,h3,h4,h5,h6,h7,trivial⟩
theorem e9 {a0 a1 a2 a3 a4 a5 a6 a7 a8}(h0:zD prog a0)(h1:zD prog a1)(h2:zD prog a2)(h3:zD prog a3)(h4:zD prog a4)(h5:zD prog a5)(h6:zD prog a6)(h7:zD prog a7)(h8:zD prog a8):jA ⟨prog,fun _=>false,eQ [a0,a1,a2,a3,a4,a5,a6,a7,a8]⟩:=mE (l:=[a0,a1,a2,a3,a4,a5,a6,a7,a8]) gh ⟨h0,h1,h2,h3,h4,h5,h6,h7,h8,trivial⟩
theorem Of {a0 a1 a2 a3 a4 a5 a6 a7 a8 a9}(h0:zD prog a0)(h1:zD prog a1)(h2:zD prog a2)(h3:zD prog a3)(h4:zD prog a4)(h5:zD prog a5)(h6:zD prog a6)(h7:zD prog a7)(h8:zD prog a8)(h9:zD prog a9):jA ⟨prog,fun _=>false,eQ [a0,a1,a2,a3,a4,a5,a6,a7,a8,a9]⟩:=mE (l:=[a0,a1,a2,a3,a4,a5,a6,a7,a8,a9]) gh ⟨h0,h1,h2,h3,h4,h5,h6,h7,h8,h9,trivial⟩
theorem e13 {a0 a1 a2 a3 a4 a5 a6 a7 a8 a9 Hk Hl WN}(h0:zD prog a0)(h1:zD prog a1)(h2:zD prog a2)(h3:zD prog a3)(h4:zD prog a4)(h5:zD prog a5)(h6:zD prog a6)(h7:zD prog a7)(h8:zD prog a8)(h9:zD prog a9)(Tn:zD prog Hk)(To:zD prog Hl)(Tp:zD prog WN):jA ⟨prog,fun _=>false,eQ [a0,a1,a2,a3,a4,a5,a6,a7,a8,a9,Hk,Hl,WN]⟩:=mE (l:=[a0,a1,a2,a3,a4,a5,a6,a7,a8,a9,Hk,Hl,WN]) gh ⟨h0,h1,h2,h3,h4,h5,h6,h7,h8,h9,Tn,To,Tp,trivial⟩
def R2q:=Lr 26 [.c (.p .i)] (.c (.link 0)) [vQ] 1 (.c (.nilp)) [] 0 (fun k d=>U7 k d.1) (fun x=>((),(gF x ()))) (fun x=>((),()))
theorem F2q:zD prog R2q:=fN (rs:=.c (.link 0)) (os:=[vQ]) (ns:=1) (rs2:=.c (.nilp)) (os2:=[]) (ns2:=0) f26 n0 0 (fun d=>(FJ d)) (fun d=>()) e0 zG
def R3q:=zJ 97 [.c .i,.c .i,.c .i] (.c .bool) (fun k d=>re k d.1 d.2.1 d.2.2.1) (fun x=>(x,()))
theorem F3q:zD prog R3q:=fA (rs:=.c .bool) f97 n0 (fun d=>d.1) e0 zG
def R4q:=zJ 96 [.agg [.i,.i]] (.c .bool) (fun k d=>yU7 k (d.1,d.2.1)) (fun x=>(x,()))
theorem F4q:zD prog R4q:=fA (rs:=.c .bool) f96 n0 (fun d=>d.1) (e1 F3q) zG
def ySj:zF:=⟨[(0,.c (.dat false wB)),(1,.c (.lit (.fn 96 []))),(7,.c .i),(8,.c .i)],[],[]⟩
def yW9:zF:=⟨[],[],[]⟩
def yXn:zF:=⟨[(4,.c .i)],[],[]⟩
def yR6 (f:WO)(d:ySj.den):=f d.1.1.1 d.1.2.2.1.1 d.1.2.2.2.1.1
def WQ:zV:=⟨[ySj],[(.exit 0,yW9),(.ret,yXn)],(Unit⊕Int),fun k d=>yR6 (WR k k) d,fun b x _ K=>match x with|.inl x=>K (.exit 0) (zN b yW9 ((),()))|.inr x=>K .ret (zN b yXn (((x,()),()),()))⟩
def A5q:zZ:=⟨[],[(2,WQ)],[],true⟩
theorem vV4:zU prog 1000 0 19 (zR (zS f150) 0) WQ:=lp (A:=A5q) WQ (fun d=>match d with|.inl d=>.inl ()|.inr d=>.inr d.1.1.1) yR6 WR yL0 (e1 F4q) zG
def R5q:=zJ 150 [.c (.dat false wB),.c (.fn 96)] (.c .i) (fun k d=>yQo k d.1) (fun x=>(x,()))
theorem F5q:zD prog R5q:=fA (rs:=.c .i) f150 A5q (fun d=>d.1) (e1 F4q) (qE vV4)
def R6q:=zJ 98 [.c (.dat false wB),.c (.fn 96)] (.c .bool) (fun k d=>yVn k d.1) (fun x=>(x,()))
theorem F6q:zD prog R6q:=fA (rs:=.c .bool) f98 n0 (fun d=>d.1) (e1 F5q) zG
def R7q:=zJ 54 [.agg iS] (.c .bool) (fun k d=>AO k (yF d)) (fun x=>(x,()))
theorem Og:zD prog R7q:=fA (rs:=.c .bool) f54 n0 (fun d=>d.1) (e2 F3q F6q) zG
def R8q:=zJ 214 [.c .i] (.c .bool) (fun k d=>Oh k d.1) (fun x=>(x,()))
theorem WS:zD prog R8q:=fA (rs:=.c .bool) f214 n0 (fun d=>d.1) e0 zG
def R9q:=uH 215 false (.int .u8) (.own (.int .u8)) WT
theorem F9q:zD prog R9q:=fC f215 n0 e0 zG
def vSt:=zJ 152 [.ptr JK,.c .i] (.c (.own (.int .u8))) (fun k d=>ySi k (eW d) d.2.2.2.2.2.2.2.2.2.2.1) (fun x=>(x,()))
theorem vUe:zD prog vSt:=fA (rs:=.c (.own (.int .u8))) f152 n0 (fun d=>d.1) (e2 WS F9q) zG
def yYp:zF:=⟨[(0,.c (.dat false (.int .u8))),(2,.c (.lit (.osl 1001000 none)))],[.arr true (.sl (.int .u8))],[(2,none,(.sl (.int .u8)),false)]⟩
def yY4:zF:=⟨[(0,.c (.dat false (.int .u8))),(2,.c (.lit (.osl 1001000 none)))],[.arr true (.sl (.int .u8))],[]⟩
def yXa (f:WU)(d:yYp.den):=f d.1.1.1 d.2.1
def WV:zV:=⟨[yYp],[(.exit 0,yY4)],WW,fun k d=>yXa (WX k k) d,fun b x _ K=>K (.exit 0) (zN b yY4 (((x.1,()),(),()),(x.2,())))⟩
def yAd:zZ:=⟨[],[(1,WV)],[],true⟩
theorem vUo:zU prog 1000 0 43 (zR (zS f151) 0) WV:=lp (A:=yAd) WV (fun d=>(d.1.1.1,d.2.1)) yXa WX yVh e0 zG
def WY:=zJ 151 [.c (.dat false (.int .u8))] (.tup [(false,[.own (.sl (.int .u8))]),(false,qI)]) (fun k d=>WZ k d.1) (fun x=>(x.1,x.2,()))
theorem yLf:zD prog WY:=fA (rs:=.tup [(false,[.own (.sl (.int .u8))]),(false,qI)]) f151 yAd (fun d=>(d.1,d.2.1)) e0 (qE vUo)
def yVp:zF:=⟨[(0,.c (.dat false (.int .u8))),(4,.c (.lit (.osl 1001000 none))),(5,.c (.int .u64)),(16,.c (.dat false (.int .u8))),(17,.c .i),(18,.c .i)],[.arr true .i],[]⟩
def yQ1:zF:=⟨[(0,.c (.dat false (.int .u8))),(4,.c (.lit (.osl 1001000 none))),(5,.c (.int .u64))],[.arr true .i],[]⟩
def yZv (f:W0)(d:yVp.den):=f d.1.1.1 d.1.2.2.1.1 d.1.2.2.2.1.1 d.1.2.2.2.2.1.1 d.1.2.2.2.2.2.1.1 d.2.1
def W1:zV:=⟨[yVp],[(.exit 2,yQ1)],W2,fun k d=>yZv (Cm k k) d,fun b x _ K=>K (.exit 2) (zN b yQ1 (((x.1,()),(),(x.2.1,()),()),(x.2.2,())))⟩
def yT8:zF:=⟨[(0,.c (.dat false (.int .u8))),(4,.c (.lit (.osl 1001000 none)))],[.arr true .i],[(4,none,.i,false)]⟩
def yT9:zF:=⟨[(4,.c (.lit (.osl 1001000 none)))],[.arr true .i],[]⟩
def yR1 (f:AC→AC→Option AC)(d:yT8.den):=f d.1.1.1 d.2.1
def W3:zV:=⟨[yT8],[(.exit 0,yT9)],AC,fun k d=>yR1 (Cn k k) d,fun b x _ K=>K (.exit 0) (zN b yT9 (((),()),(x,())))⟩
def W4:zZ:=⟨[],[(7,W1),(4,W3)],[],true⟩
theorem vCx:zU prog 1000 0 36 (zR (zR (zS f66) 0) 0) W1:=lp (A:=W4) W1 (fun d=>(d.1.1.1,d.1.2.2.1.1,d.2.1)) yZv Cm LB e0 zG
theorem W5:zU prog 1000 0 36 (zR (zS f66) 0) W3:=lp (A:=W4) W3 (fun d=>d.2.1) yR1 Cn Co e0 (qE vCx)
def W6:=zJ 66 [.c (.dat false (.int .u8))] (.tup [(false,nM),(false,qI)]) (fun k d=>sD k d.1) (fun x=>(x.1,x.2,()))
theorem JL:zD prog W6:=fA (rs:=.tup [(false,nM),(false,qI)]) f66 W4 (fun d=>(d.1,d.2.1)) e0 (qE W5)
def vQ7:=zJ 99 [.ptr JK,.c .i] (.tup [(false,qI),(false,nN),(false,rf)]) (fun k d=>Oi k (eW d) d.2.2.2.2.2.2.2.2.2.2.1) (fun x=>(x.1,x.2.1,x.2.2,()))
theorem vW9:zD prog vQ7:=fA (rs:=.tup [(false,qI),(false,nN),(false,rf)]) f99 n0 (fun d=>(d.1,d.2.1,d.2.2.1)) (e3 vUe yLf JL) zG
def vXz:=zJ 55 [.ptr JK] (.tup [(false,qI),(false,qI),(false,nN),(false,rf),(false,[.bool])]) (fun k d=>W7 k (eW d)) (fun x=>(wS x ()))
theorem W8:zD prog vXz:=fA (rs:=.tup [(false,qI),(false,qI),(false,nN),(false,rf),(false,[.bool])]) f55 ⟨[],[],[(2,3)],true⟩ (fun d=>(d.1,d.2.1,d.2.2.1,d.2.2.2.1,d.2.2.2.2.1)) (e1 vW9) (B3 (n:=1) (by kernel_rfl) fun i hi=>match i,hi with|0,_=>.inr ⟨by kernel_rfl,zG⟩|i+1,hi=>absurd hi (by omega))
def vSf:=zJ 87 [.c .i] (.c .bool) (fun k d=>H6 k d.1) (fun x=>(x,()))
theorem Oj:zD prog vSf:=fA (rs:=.c .bool) f87 ⟨[],[],[],false⟩ (fun d=>d.1) e0 zG
def yF5:zF:=⟨[(1,.c .i),(5,.c (.lit (.osl 1001000 none))),(13,.c .i),(14,.c .i)],[.arr true .i],[]⟩
def qY2:zF:=⟨[(5,.c (.lit (.osl 1001000 none)))],[.arr true .i],[]⟩
def yLr (f:W9)(d:yF5.den):=f d.1.1.1 d.1.2.2.1.1 d.1.2.2.2.1.1 d.2.1
def Xa:zV:=⟨[yF5],[(.exit 0,qY2)],AC,fun k d=>yLr (H7 k k) d,fun b x _ K=>K (.exit 0) (zN b qY2 (((),()),(x,())))⟩
def yKh:zZ:=⟨[],[(5,Xa)],[],false⟩
theorem vZ6:zU prog 1000 0 23 (zR (zS f51) 0) Xa:=lp (A:=yKh) Xa (fun d=>d.2.1) yLr H7 De (e1 Oj) zG
def vWf:=zJ 51 [.c .i,.c .i] (.c (.own .i)) (fun k d=>yx k d.1 d.2.1) (fun x=>(x,()))
theorem AW:zD prog vWf:=fA (rs:=.c (.own .i)) f51 yKh (fun d=>d.1) (e1 Oj) (qE vZ6)
def yUx:zF:=⟨[(0,.c .i),(1,.c .i),(5,.c (.lit (.osl 1001000 none))),(13,.c .i),(14,.c .i)],[.mat],[]⟩
def yJe:zF:=⟨[(5,.c (.lit (.osl 1001000 none)))],[.mat],[]⟩
def yVy (f:Xb)(d:yUx.den):=f d.1.1.1 d.1.2.1.1 d.1.2.2.2.1.1 d.1.2.2.2.2.1.1 d.2.1
def Xc:zV:=⟨[yUx],[(.exit 0,yJe)],EQ,fun k d=>yVy (H8 k k) d,fun b x _ K=>K (.exit 0) (zN b yJe (((),()),(x,())))⟩
def yVv:zZ:=⟨[11],[(5,Xc)],[],false⟩
theorem Xd:zU prog 1000 0 25 (zR (zS f50) 0) Xc:=lp (A:=yVv) Xc (fun d=>d.2.1) yVy H8 Dg (e2 Oj AW) zG
def vHf:=zJ 50 [.c .i,.c .i] (.c (.mat)) (fun k d=>Df k d.1 d.2.1) (fun x=>(x,()))
theorem JM:zD prog vHf:=fA (rs:=.c (.mat)) f50 yVv (fun d=>d.1) (e2 Oj AW) (qE Xd)
def yYf:zF:=⟨[(1,.c (.lit (.ptr 1001000 0))),(2,.c (.lit (.ptr 1001001 0))),(3,.c .i),(4,.c (.lit (.ptr 1001002 0))),(20,.c (.dat false wB)),(21,.c .i),(22,.c .i)],[.box true oU,.box true eX,.box true Ol,.arr true qX,.mat,.arr true .i,.mat,.arr true .i],[(4,some 5,.i,false)]⟩
def yJo:zF:=⟨[(1,.c (.lit (.ptr 1001000 0))),(2,.c (.lit (.ptr 1001001 0))),(3,.c .i),(4,.c (.lit (.ptr 1001002 0)))],[.box true oU,.box true eX,.box true Ol,.arr true qX,.mat,.arr true .i,.mat,.arr true .i],[]⟩
def yDy (f:Xe)(d:yYf.den):=f d.1.2.2.1.1 d.1.2.2.2.2.1.1 d.1.2.2.2.2.2.1.1 d.1.2.2.2.2.2.2.1.1 (yF d.2.1) (d.2.2.1.1,d.2.2.1.2.1,d.2.2.1.2.2.1) (d.2.2.2.1.1,d.2.2.2.1.2.1,d.2.2.2.1.2.2.1) d.2.2.2.2.1 d.2.2.2.2.2.1 d.2.2.2.2.2.2.1 d.2.2.2.2.2.2.2.1 d.2.2.2.2.2.2.2.2.1
def Om:zV:=⟨[yYf],[(.exit 0,yJo)],Xf,fun k d=>yDy (Xg k k) d,fun b x _ K=>K (.exit 0) (zN b yJo (((),(),(x.1,()),(),()),((wS x.2.1 ()),(x.2.2.1.1,x.2.2.1.2.1,x.2.2.1.2.2,()),(x.2.2.2.1.1,x.2.2.2.1.2.1,x.2.2.2.1.2.2,()),x.2.2.2.2.1,x.2.2.2.2.2.1,x.2.2.2.2.2.2.1,x.2.2.2.2.2.2.2.1,x.2.2.2.2.2.2.2.2,())))⟩
def vBs:zF:=⟨[(1,.c (.lit (.ptr 1001000 0))),(2,.c (.lit (.ptr 1001001 0))),(4,.c (.lit (.ptr 1001002 0))),(34,.c .i),(35,.c .i)],[.box true oU,.box true eX,.box true yGd,.arr true qX,.mat,.arr true .i,.mat,.arr true .i,.mat],[(4,some 6,(.sl .i),true)]⟩
def yDn:zF:=⟨[(2,.c (.lit (.ptr 1001000 0))),(4,.c (.lit (.ptr 1001001 0)))],[.box true eX,.box true yBp,.arr true qX,.mat,.arr true .i,.mat,.arr true .i,.mat],[]⟩
def yLw (f:Xh)(d:vBs.den):=f d.1.2.2.2.1.1 d.1.2.2.2.2.1.1 (yF d.2.1) (d.2.2.1.1,d.2.2.1.2.1,d.2.2.1.2.2.1) (d.2.2.2.1.1,d.2.2.2.1.2.1,d.2.2.2.1.2.2.1) d.2.2.2.2.1 d.2.2.2.2.2.1 d.2.2.2.2.2.2.1 d.2.2.2.2.2.2.2.1 d.2.2.2.2.2.2.2.2.1 d.2.2.2.2.2.2.2.2.2.1
def On:zV:=⟨[vBs],[(.exit 2,yDn)],Xi,fun k d=>yLw (Xj k k) d,fun b x _ K=>K (.exit 2) (zN b yDn (((),(),()),((x.1.1,x.1.2.1,x.1.2.2,()),(x.2.1.1,x.2.1.2.1,x.2.1.2.2,()),x.2.2.1,x.2.2.2.1,x.2.2.2.2.1,x.2.2.2.2.2.1,x.2.2.2.2.2.2.1,x.2.2.2.2.2.2.2,())))⟩
def Xk:zZ:=⟨[43,44],[(4,Om),(9,On)],[],true⟩
theorem vB3:zU prog 1000 0 48 (zR (zS f20) 0) Om:=lp (A:=Xk) Om (fun d=>(d.1.2.2.1.1,(yF d.2.1),(d.2.2.1.1,d.2.2.1.2.1,d.2.2.1.2.2.1),(d.2.2.2.1.1,d.2.2.2.1.2.1,d.2.2.2.1.2.2.1),d.2.2.2.2.1,d.2.2.2.2.2.1,d.2.2.2.2.2.2.1,d.2.2.2.2.2.2.2.1,d.2.2.2.2.2.2.2.2.1)) yDy Xg yPv (e2 JM AW) zG
theorem vFg:zU prog 1000 0 48 (zR (zS f20) 1) On:=lp (A:=Xk) On (fun d=>((d.2.1.1,d.2.1.2.1,d.2.1.2.2.1),(d.2.2.1.1,d.2.2.1.2.1,d.2.2.1.2.2.1),d.2.2.2.1,d.2.2.2.2.1,d.2.2.2.2.2.1,d.2.2.2.2.2.2.1,d.2.2.2.2.2.2.2.1,d.2.2.2.2.2.2.2.2.1)) yLw Xj yZ1 (e2 JM AW) zG
def vU5:=zJ 20 [.agg iS] (.agg FK) (fun k d=>oS k (yF d)) (fun x=>(vU x ()))
theorem Oo:zD prog vU5:=fA (rs:=.agg FK) f20 Xk (fun d=>(qW d)) (e2 JM AW) (loopsOK_of (n:=2) (by kernel_rfl) fun i hi=>match i,hi with|0,_=>⟨Om,by kernel_rfl,vB3⟩|1,_=>⟨On,by kernel_rfl,vFg⟩|i+2,hi=>absurd hi (by omega))
def vHh:=zJ 101 [.c .bool] (.c .i) (fun k d=>LJ k d.1) (fun x=>(x,()))
theorem Xl:zD prog vHh:=fA (rs:=.c .i) f101 n0 (fun d=>d.1) e0 zG
def yJx:zF:=⟨[(3,.c (.lit (.osl 1001000 none))),(5,.c .i),(6,.c .i),(11,.c (.dat false .i)),(12,.c .i),(13,.c .i)],[.arr true (.int .u8)],[]⟩
def yT1:zF:=⟨[(3,.c (.lit (.osl 1001000 none))),(11,.c (.dat false .i)),(12,.c .i),(13,.c .i)],[.arr true (.int .u8)],[]⟩
def ySo (f:Xm)(d:yJx.den):=f d.1.2.1.1 d.1.2.2.1.1 d.1.2.2.2.1.1 d.1.2.2.2.2.1.1 d.1.2.2.2.2.2.1.1 d.2.1
def Xn:zV:=⟨[yJx],[(.exit 2,yT1)],Xo,fun k d=>ySo (uL k k) d,fun b x _ K=>K (.exit 2) (zN b yT1 (((),(x.1,()),(x.2.1,()),(x.2.2.1,()),()),(x.2.2.2,())))⟩
def yRz:zF:=⟨[(3,.c (.lit (.osl 1001000 none))),(11,.c (.dat false .i)),(12,.c .i),(13,.c .i)],[.arr true (.int .u8)],[]⟩
def yLy:zF:=⟨[(3,.c (.lit (.osl 1001000 none)))],[.arr true (.int .u8)],[]⟩
def yXo (f:Xp)(d:yRz.den):=f d.1.2.1.1 d.1.2.2.1.1 d.1.2.2.2.1.1 d.2.1
def Xq:zV:=⟨[yRz],[(.exit 0,yLy)],AC,fun k d=>yXo (ym k k) d,fun b x _ K=>K (.exit 0) (zN b yLy (((),()),(x,())))⟩
def Xr:zZ:=⟨[],[(6,Xn),(3,Xq)],[],true⟩
theorem vJm:zU prog 1000 0 31 (zR (zR (zS f115) 0) 0) Xn:=lp (A:=Xr) Xn (fun d=>(d.1.2.1.1,d.1.2.2.1.1,d.1.2.2.2.1.1,d.2.1)) ySo uL LH e0 zG
theorem vY6:zU prog 1000 0 31 (zR (zS f115) 0) Xq:=lp (A:=Xr) Xq (fun d=>d.2.1) yXo ym Cr e0 (qE vJm)
def Xs:=zJ 115 [.c (.dat false .i)] (.c (.own (.int .u8))) (fun k d=>uM k d.1) (fun x=>(x,()))
theorem Oq:zD prog Xs:=fA (rs:=.c (.own (.int .u8))) f115 Xr (fun d=>d.1) e0 (qE vY6)
def vY0:=zJ 158 [.c (.dat false .i)] (.c (.own (.int .u8))) (fun k d=>LI k d.1) (fun x=>(x,()))
theorem yPc:zD prog vY0:=fA (rs:=.c (.own (.int .u8))) f158 n0 (fun d=>d.1) (e1 Oq) zG
def yJ1:zF:=⟨[(3,.c (.lit (.osl 1001000 none))),(6,.c (.dat false (.sl .i))),(7,.c .i),(8,.c .i)],[.arr true (.int .u8)],[(3,none,(.int .u8),false)]⟩
def yFr:zF:=⟨[(3,.c (.lit (.osl 1001000 none)))],[.arr true (.int .u8)],[]⟩
def yZw (f:Xt)(d:yJ1.den):=f d.1.2.1.1 d.1.2.2.1.1 d.1.2.2.2.1.1 d.2.1
def Xu:zV:=⟨[yJ1],[(.exit 0,yFr)],AC,fun k d=>yZw (Ct k k) d,fun b x _ K=>K (.exit 0) (zN b yFr (((),()),(x,())))⟩
def yK6:zZ:=⟨[],[(3,Xu)],[],true⟩
theorem Xv:zU prog 1000 0 18 (zR (zS f102) 0) Xu:=lp (A:=yK6) Xu (fun d=>d.2.1) yZw Ct Cu (e1 yPc) zG
def vUw:=zJ 102 [.c (.dat false (.sl .i))] (.c (.own (.int .u8))) (fun k d=>HA k d.1) (fun x=>(x,()))
theorem Xw:zD prog vUw:=fA (rs:=.c (.own (.int .u8))) f102 yK6 (fun d=>d.1) (e1 yPc) (qE Xv)
def yOd:zF:=⟨[(1,.c (.lit (.ptr 1001000 0))),(3,.c (.lit (.ptr 1001001 0))),(4,.c (.lit (.osl 1001002 none))),(39,.c (.dat true qX)),(40,.c .i),(41,.c .i)],[.box true fP,.box true vV,.arr true (.sl .i)],[]⟩
def yXs:zF:=⟨[(1,.c (.lit (.ptr 1001000 0))),(3,.c (.lit (.ptr 1001001 0))),(4,.c (.lit (.osl 1001002 none)))],[.box true fP,.box true vV,.arr true (.sl .i)],[]⟩
def yMc (f:Xx)(d:yOd.den):=f d.1.2.2.2.1.1 d.1.2.2.2.2.1.1 d.1.2.2.2.2.2.1.1 (qW d.2.1) (wK d.2.2.1) d.2.2.2.1
def Ot:zV:=⟨[yOd],[(.exit 0,yXs)],Xy,fun k d=>yMc (yp k k) d,fun b x _ K=>K (.exit 0) (zN b yXs (((),(),(),()),((vU x.1 ()),(jO x.2.1 ()),x.2.2,())))⟩
def yYy:zF:=⟨[(1,.c (.lit (.ptr 1001000 0))),(4,.c (.lit (.osl 1001001 none))),(79,.c (.dat true zH)),(80,.c .i),(81,.c .i)],[.box true fP,.arr true (.sl .i)],[]⟩
def yGt:zF:=⟨[(1,.c (.lit (.ptr 1001000 0))),(4,.c (.lit (.osl 1001001 none)))],[.box true fP,.arr true (.sl .i)],[]⟩
def yUs (f:Xz)(d:yYy.den):=f d.1.2.2.1.1 d.1.2.2.2.1.1 d.1.2.2.2.2.1.1 (qW d.2.1) d.2.2.1
def Ou:zV:=⟨[yYy],[(.exit 2,yGt)],XA,fun k d=>yUs (yq k k) d,fun b x _ K=>K (.exit 2) (zN b yGt (((),(),()),((vU x.1 ()),x.2,())))⟩
def XB:zZ:=⟨[],[(4,Ot),(14,Ou)],[],true⟩
theorem vBw:zU prog 1000 0 110 (zR (zS f57) 0) Ot:=lp (A:=XB) Ot (fun d=>((qW d.2.1),(wK d.2.2.1),d.2.2.2.1)) yMc yp Cx (e2 Xl Xw) zG
theorem XE:zU prog 1000 0 110 (zR (zS f57) 1) Ou:=lp (A:=XB) Ou (fun d=>((qW d.2.1),d.2.2.1)) yUs yq Cy (e2 Xl Xw) zG
def vLb:=zJ 57 [.agg wm] (.c (.own (.int .u8))) (fun k d=>ku k (qW d)) (fun x=>(x,()))
theorem tC:zD prog vLb:=fA (rs:=.c (.own (.int .u8))) f57 XB (fun d=>d.1) (e2 Xl Xw) (loopsOK_of (n:=2) (by kernel_rfl) fun i hi=>match i,hi with|0,_=>⟨Ot,by kernel_rfl,vBw⟩|1,_=>⟨Ou,by kernel_rfl,XE⟩|i+2,hi=>absurd hi (by omega))
def vB5:=zJ 153 [.c (.dat false (.int .u8))] (.tup [(false,[.own (.int .u8)]),(false,[.bool])]) (fun k d=>Hy k d.1) (fun x=>(x.1,x.2,()))
theorem yEz:zD prog vB5:=fA (rs:=.tup [(false,[.own (.int .u8)]),(false,[.bool])]) f153 n0 (fun d=>(d.1,d.2.1)) e0 zG
def vBy:=zJ 154 [.ptr JK] (.c .i) (fun k d=>S8 k (eW d)) (fun x=>(x,()))
theorem vUy:zD prog vBy:=fA (rs:=.c .i) f154 n0 (fun d=>d.1) e0 zG
def vV3:=zJ 216 [.ptr JK] (.c .bool) (fun k d=>Ov k (eW d)) (fun x=>(x,()))
theorem XF:zD prog vV3:=fA (rs:=.c .bool) f216 n0 (fun d=>d.1) e0 zG
def vGk:=yK 217 [.ptr true kA] (.c .bool) [vQ] 0 (fun k d=>JN k (eW d)) (fun x=>(x.1,(gF x.2 ())))
theorem XG:zD prog vGk:=fX (rs:=.c .bool) (os:=[vQ]) (ns:=0) f217 ⟨[],[],[(6,3)],true⟩ 1 (fun d=>(d.1,(FJ d))) e0 (B3 (n:=1) (by kernel_rfl) fun i hi=>match i,hi with|0,_=>.inr ⟨by kernel_rfl,zG⟩|i+1,hi=>absurd hi (by omega))
def vLk:=yK 155 [.ptr true kA,.c (.p .i)] (.c .i) [vQ] 0 (fun k d=>LG k (eW d) d.2.2.2.2.2.2.2.2.2.2.1) (fun x=>(x.1,(gF x.2 ())))
theorem vTb:zD prog vLk:=fX (rs:=.c .i) (os:=[vQ]) (ns:=0) f155 n0 1 (fun d=>(d.1,(FJ d))) (e3 XF WS XG) zG
def vGh:=yK 156 [.ptr true kA,.c (.p .i),.c (.p (.dat false (.int .u8)))] (.c .i) [vQ] 0 (fun k d=>sG k (eW d) d.2.2.2.2.2.2.2.2.2.2.1 d.2.2.2.2.2.2.2.2.2.2.2.1) (fun x=>(x.1,(gF x.2 ())))
theorem qZl:zD prog vGh:=fX (rs:=.c .i) (os:=[vQ]) (ns:=0) f156 n0 1 (fun d=>(d.1,(FJ d))) (e3 XF WS XG) zG
def vV1:=yK 157 [.ptr true kA] (.c .i) [vQ] 0 (fun k d=>Hv k (eW d)) (fun x=>(x.1,(gF x.2 ())))
theorem yBq:zD prog vV1:=fX (rs:=.c .i) (os:=[vQ]) (ns:=0) f157 ⟨[],[],[(4,3)],true⟩ 1 (fun d=>(d.1,(FJ d))) (e2 XF XG) (B3 (n:=1) (by kernel_rfl) fun i hi=>match i,hi with|0,_=>.inr ⟨by kernel_rfl,zG⟩|i+1,hi=>absurd hi (by omega))
def vQy:=yK 100 [.ptr true kA,.c (.p .i),.c (.p .i),.c (.p (.dat false (.int .u8)))] (.c .i) [vQ] 0 (fun k d=>LL k (eW d) d.2.2.2.2.2.2.2.2.2.2.1 d.2.2.2.2.2.2.2.2.2.2.2.1 d.2.2.2.2.2.2.2.2.2.2.2.2.1) (fun x=>(x.1,(gF x.2 ())))
theorem vAp:zD prog vQy:=fX (rs:=.c .i) (os:=[vQ]) (ns:=0) f100 n0 1 (fun d=>(d.1,(FJ d))) (e6 Oq yEz vUy vTb qZl yBq) zG
def vJh:=Lr 56 [.ptr true kA,.c (.p (.dat false (.int .u8)))] (.tup [(false,[.link 1]),(false,nN),(false,rf),(false,qI)]) [vQ,Ow] 1 (.tup [(false,[.nilp]),(false,[.own (.int .u8)]),(false,[.own (.sl (.int .u8))]),(false,qI)]) [vQ] 0 (fun k d=>yCe k (eW d) d.2.2.2.2.2.2.2.2.2.2.1) (fun x=>((),x.1,x.2.1,x.2.2.1,(gF x.2.2.2.1 ((),(jO x.2.2.2.2 ()))))) (fun x=>((),x.1,x.2.1,x.2.2.1,(gF x.2.2.2 ())))
theorem yIn:zD prog vJh:=fN (rs:=.tup [(false,[.link 1]),(false,nN),(false,rf),(false,qI)]) (os:=[vQ,Ow]) (ns:=1) (rs2:=.tup [(false,[.nilp]),(false,[.own (.int .u8)]),(false,[.own (.sl (.int .u8))]),(false,qI)]) (os2:=[vQ]) (ns2:=0) f56 n0 1 (fun d=>(d.2.1,d.2.2.1,d.2.2.2.1,(yQa d),(vX6 d))) (fun d=>(d.2.1,d.2.2.1,d.2.2.2.1,(yQa d))) (e2 W8 vAp) zG
def vFz:=zJ 159 [.c (.dat true (.int .u8))] (.tup [(false,nM),(false,nN),(false,[.bool])]) (fun k d=>yK3 k d.1) (fun x=>(x.1,x.2.1,x.2.2,()))
theorem vTh:zD prog vFz:=fA (rs:=.tup [(false,nM),(false,nN),(false,[.bool])]) f159 n0 (fun d=>(d.1,d.2.1,d.2.2.1)) (e1 JL) zG
def vWm:=yK 105 [.ptr true [.p (.dat true (.int .u8)),.p .bool]] (.c (.own .i)) [[.fro (.int .u8),.bool]] 0 (fun k d=>FL k (d.1,d.2.1)) (fun x=>(x.1,x.2.1,x.2.2,()))
theorem FM:zD prog vWm:=fX (rs:=.c (.own .i)) (os:=[[.fro (.int .u8),.bool]]) (ns:=0) f105 n0 1 (fun d=>(d.1,(d.2.1,d.2.2.1))) (e1 vTh) zG
def vLy:=yK 103 [.ptr true [.p (.dat true (.int .u8)),.p .bool],.c (.p .i)] (.c (.own .i)) [[.fro (.int .u8),.bool]] 0 (fun k d=>Ox k (d.1,d.2.1) d.2.2.1) (fun x=>(x.1,x.2.1,x.2.2,()))
theorem XH:zD prog vLy:=fX (rs:=.c (.own .i)) (os:=[[.fro (.int .u8),.bool]]) (ns:=0) f103 n0 1 (fun d=>(d.1,(d.2.1,d.2.2.1))) (e1 FM) zG
def yP1:zF:=⟨[(0,.c (.lit (.ptr 1001000 0))),(1,.c .i),(5,.c (.lit (.osl 1001001 none)))],[.box true FN,.arr true (.sl .i)],[(5,none,(.sl .i),false)]⟩
def yRp:zF:=⟨[(0,.c (.lit (.ptr 1001000 0))),(5,.c (.lit (.osl 1001001 none)))],[.box true FN,.arr true (.sl .i)],[]⟩
def yG9 (f:XI)(d:yP1.den):=f d.1.2.1.1 (d.2.1.1,d.2.1.2.1) d.2.2.1
def XJ:zV:=⟨[yP1],[(.exit 0,yRp)],XK,fun k d=>yG9 (XM k k) d,fun b x _ K=>K (.exit 0) (zN b yRp (((),(),()),((x.1.1,x.1.2,()),x.2,())))⟩
def yS4:zZ:=⟨[],[(2,XJ)],[],true⟩
theorem vNz:zU prog 1000 1 23 (zR (zS f104) 0) XJ:=lp (A:=yS4) XJ (fun d=>((d.2.1.1,d.2.1.2.1),d.2.2.1)) yG9 XM yTl (e1 FM) zG
def vCf:=yK 104 [.ptr true [.p (.dat true (.int .u8)),.p .bool],.c (.p .i)] (.c (.own (.sl .i))) [[.fro (.int .u8),.bool]] 0 (fun k d=>Oy k (d.1,d.2.1) d.2.2.1) (fun x=>(x.1,x.2.1,x.2.2,()))
theorem XN:zD prog vCf:=fX (rs:=.c (.own (.sl .i))) (os:=[[.fro (.int .u8),.bool]]) (ns:=0) f104 yS4 1 (fun d=>(d.1,(d.2.1,d.2.2.1))) (e1 FM) (qE vNz)
def vJn:=zJ 106 [.c (.dat false (.int .u8)),.c (.dat false (.int .u8))] (.c .bool) (fun k d=>yXf k d.1 d.2.1) (fun x=>(x,()))
theorem XO:zD prog vJn:=fA (rs:=.c .bool) f106 n0 (fun d=>d.1) e0 zG
def yPk:zF:=⟨[(0,.c (.dat true (.int .u8))),(2,.c (.lit (.ptr 1001000 0))),(4,.c (.lit (.ptr 1001001 0))),(5,.c (.lit (.osl 1001002 none))),(6,.c (.lit (.ptr 1001003 0))),(7,.c .i)],[.box true eX,.box true FN,.arr true .i,.box true yIm,.arr true qX],[(6,some 1,qX,false)]⟩
def yCi:zF:=⟨[(0,.c (.dat true (.int .u8))),(2,.c (.lit (.ptr 1001000 0))),(4,.c (.lit (.ptr 1001001 0))),(5,.c (.lit (.osl 1001002 none))),(6,.c (.lit (.ptr 1001003 0)))],[.box true eX,.box true FN,.arr true .i,.box true yIm,.arr true qX],[]⟩
def yM3 (f:XP)(d:yPk.den):=f d.1.1.1 d.1.2.2.2.2.2.1.1 (d.2.1.1,d.2.1.2.1,d.2.1.2.2.1) (d.2.2.1.1,d.2.2.1.2.1) d.2.2.2.1 (d.2.2.2.2.1.1,d.2.2.2.2.1.2.1,d.2.2.2.2.1.2.2.1) d.2.2.2.2.2.1
def Oz:zV:=⟨[yPk],[(.exit 0,yCi)],XQ,fun k d=>yM3 (XR k k) d,fun b x _ K=>K (.exit 0) (zN b yCi (((x.1,()),(),(),(),(),()),((x.2.1.1,x.2.1.2.1,x.2.1.2.2,()),(x.2.2.1.1,x.2.2.1.2,()),x.2.2.2.1,(x.2.2.2.2.1.1,x.2.2.2.2.1.2.1,x.2.2.2.2.1.2.2,()),x.2.2.2.2.2,())))⟩
def yKb:zF:=⟨[(0,.c (.dat true (.int .u8))),(2,.c (.lit (.ptr 1001000 0))),(4,.c (.lit (.ptr 1001001 0))),(6,.c (.lit (.ptr 1001002 0))),(9,.c .i)],[.box true eX,.box true FN,.box true yCm,.arr true qX,.arr true (.sl .i),.arr true .i,.arr true (.sl .i),.arr true .i,.arr true (.sl .i),.arr true zH],[(6,some 7,zH,false)]⟩
def yC3:zF:=⟨[(0,.c (.dat true (.int .u8))),(2,.c (.lit (.ptr 1001000 0))),(4,.c (.lit (.ptr 1001001 0))),(6,.c (.lit (.ptr 1001002 0)))],[.box true eX,.box true FN,.box true yCm,.arr true qX,.arr true (.sl .i),.arr true .i,.arr true (.sl .i),.arr true .i,.arr true (.sl .i),.arr true zH],[]⟩
def yVe (f:XS)(d:yKb.den):=f d.1.1.1 d.1.2.2.2.2.1.1 (d.2.1.1,d.2.1.2.1,d.2.1.2.2.1) (d.2.2.1.1,d.2.2.1.2.1) (d.2.2.2.1.1,d.2.2.2.1.2.1,d.2.2.2.1.2.2.1) d.2.2.2.2.1 d.2.2.2.2.2.1 d.2.2.2.2.2.2.1 d.2.2.2.2.2.2.2.1 d.2.2.2.2.2.2.2.2.1 d.2.2.2.2.2.2.2.2.2.1 d.2.2.2.2.2.2.2.2.2.2.1
def OA:zV:=⟨[yKb],[(.exit 2,yC3)],XT,fun k d=>yVe (XU k k) d,fun b x _ K=>K (.exit 2) (zN b yC3 (((x.1,()),(),(),(),()),((x.2.1.1,x.2.1.2.1,x.2.1.2.2,()),(x.2.2.1.1,x.2.2.1.2,()),(x.2.2.2.1.1,x.2.2.2.1.2.1,x.2.2.2.1.2.2,()),x.2.2.2.2.1,x.2.2.2.2.2.1,x.2.2.2.2.2.2.1,x.2.2.2.2.2.2.2.1,x.2.2.2.2.2.2.2.2.1,x.2.2.2.2.2.2.2.2.2.1,x.2.2.2.2.2.2.2.2.2.2,())))⟩
def XV:zZ:=⟨[],[(5,Oz),(15,OA)],[],true⟩
theorem vR7:zU prog 1000 0 146 (zR (zS f58) 0) Oz:=lp (A:=XV) Oz (fun d=>(d.1.1.1,(d.2.1.1,d.2.1.2.1,d.2.1.2.2.1),(d.2.2.1.1,d.2.2.1.2.1),d.2.2.2.1,(d.2.2.2.2.1.1,d.2.2.2.2.1.2.1,d.2.2.2.2.1.2.2.1),d.2.2.2.2.2.1)) yM3 XR yE4 (e5 XH XN FM tC XO) zG
theorem vZ0:zU prog 1000 0 146 (zR (zS f58) 1) OA:=lp (A:=XV) OA (fun d=>(d.1.1.1,(d.2.1.1,d.2.1.2.1,d.2.1.2.2.1),(d.2.2.1.1,d.2.2.1.2.1),(d.2.2.2.1.1,d.2.2.2.1.2.1,d.2.2.2.1.2.2.1),d.2.2.2.2.1,d.2.2.2.2.2.1,d.2.2.2.2.2.2.1,d.2.2.2.2.2.2.2.1,d.2.2.2.2.2.2.2.2.1,d.2.2.2.2.2.2.2.2.2.1,d.2.2.2.2.2.2.2.2.2.2.1)) yVe XU yOz (e5 XH XN FM tC XO) zG
def vZ3:=zJ 58 [.c (.dat true (.int .u8))] (.tup [(true,kz),(false,[.bool])]) (fun k d=>OB k d.1) (fun x=>(vU x.1 (x.2,())))
theorem OC:zD prog vZ3:=fA (rs:=.tup [(true,kz),(false,[.bool])]) f58 XV (fun d=>((qW d),d.2.2.2.2.2.2.2.2.2.2.2.1)) (e5 XH XN FM tC XO) (loopsOK_of (n:=2) (by kernel_rfl) fun i hi=>match i,hi with|0,_=>⟨Oz,by kernel_rfl,vR7⟩|1,_=>⟨OA,by kernel_rfl,vZ0⟩|i+2,hi=>absurd hi (by omega))
def vTl:=zJ 67 [.c .i] (.c .i) (fun k d=>sE k d.1) (fun x=>(x,()))
theorem OD:zD prog vTl:=fA (rs:=.c .i) f67 n0 (fun d=>d.1) e0 zG
def vD8:=zJ 29 [.c (.dat false (.int .u8))] (.tup [(true,fQ),(false,qI)]) (fun k d=>nA k d.1) (fun x=>(gb x.1 (x.2,())))
theorem JO:zD prog vD8:=fA (rs:=.tup [(true,fQ),(false,qI)]) f29 n0 (fun d=>((wD d),d.2.2.2.2.2.2.2.1)) (e2 JL OD) zG
def vOt:=zJ 60 [.c (.dat false (.int .u8))] (.tup [(true,OE),(false,qI)]) (fun k d=>XW k d.1) (fun x=>(FO x.1 (x.2,())))
theorem OF:zD prog vOt:=fA (rs:=.tup [(true,OE),(false,qI)]) f60 n0 (fun d=>((ma d),d.2.2.2.2.2.2.2.2.1)) (e2 JL JO) zG
def XX:=zJ 132 [.c .i] (.c .bool) (fun k d=>Nc k d.1) (fun x=>(x,()))
theorem vGi:zD prog XX:=fA (rs:=.c .bool) f132 n0 (fun d=>d.1) e0 zG
def vTt:=zJ 133 [.c .i] (.c .bool) (fun k d=>I1 k d.1) (fun x=>(x,()))
theorem vL6:zD prog vTt:=fA (rs:=.c .bool) f133 n0 (fun d=>d.1) e0 zG
def yZu:zF:=⟨[(13,.c (.dat true .i)),(14,.c .i),(15,.c .i)],[],[]⟩
def yQt:zF:=⟨[],[],[]⟩
def yPo:zF:=⟨[(2,.c .bool)],[],[]⟩
def yCz (f:XY)(d:yZu.den):=f d.1.1.1 d.1.2.1.1 d.1.2.2.1.1
def XZ:zV:=⟨[yZu],[(.exit 0,yQt),(.ret,yPo)],(Unit⊕Bool),fun k d=>yCz (th k k) d,fun b x _ K=>match x with|.inl x=>K (.exit 0) (zN b yQt ((),()))|.inr x=>K .ret (zN b yPo (((x,()),()),()))⟩
def yAf:zZ:=⟨[],[(5,XZ)],[],true⟩
theorem vY9:zU prog 1000 0 22 (zR (zS f134) 0) XZ:=lp (A:=yAf) XZ (fun d=>match d with|.inl d=>.inl ()|.inr d=>.inr d.1.1.1) yCz th vp (e1 OD) zG
def vOj:=zJ 134 [.agg vD] (.c .bool) (fun k d=>qt k (wD d)) (fun x=>(x,()))
theorem yMi:zD prog vOj:=fA (rs:=.c .bool) f134 yAf (fun d=>d.1) (e1 OD) (qE vY9)
def vFp:=zJ 88 [.agg iS,.agg qz,.agg AU] (.c .i) (fun k d=>tj k (yF d) (qu d) (Wj d)) (fun x=>(x,()))
theorem vVi:zD prog vFp:=fA (rs:=.c .i) f88 n0 (fun d=>d.1) (e3 vGi vL6 yMi) zG
def vJo:=zJ 194 [.agg vD,.ptr [.i]] (.c .bool) (fun k d=>(lj (Uq k) d)) (fun x=>(x,()))
theorem yTt:zD prog vJo:=fA (rs:=.c .bool) f194 ⟨[],[],[],false⟩ (fun d=>d.1) e0 zG
def yTx:zF:=⟨[(1,.c (.lit (.fn 194 [1001000]))),(5,.c (.lit (.osl 1001001 none))),(8,.c (.dat false zH)),(9,.c .i),(10,.c .i)],[.robox [.i],.arr true zH],[(5,none,zH,false)]⟩
def yTp:zF:=⟨[(5,.c (.lit (.osl 1001000 none)))],[.arr true zH],[]⟩
def yZ2 (f:X0)(d:yTx.den):=f d.1.2.2.1.1 d.1.2.2.2.1.1 d.1.2.2.2.2.1.1 d.2.1.1 d.2.2.1
def X1:zV:=⟨[yTx],[(.exit 0,yTp)],X2,fun k d=>yZ2 (IN k k) d,fun b x _ K=>K (.exit 0) (zN b yTp (((),()),(x,())))⟩
def yTs:zZ:=⟨[],[(3,X1)],[],false⟩
theorem vKv:zU prog 1000 0 23 (zR (zS f193) 0) X1:=lp (A:=yTs) X1 (fun d=>d.2.1) yZ2 IN Em (e1 yTt) zG
def X3:=zJ 193 [.c (.dat false zH),.fn 194 [[.i]]] (.c (.own zH)) (fun k d=>Uo k d.1 d.2.1) (fun x=>(x,()))
theorem vWa:zD prog X3:=fA (rs:=.c (.own zH)) f193 yTs (fun d=>d.1) (e1 yTt) (qE vKv)
def vC2:=zJ 135 [.c (.dat false zH),.c .i] (.c (.own zH)) (fun k d=>IM k d.1 d.2.1) (fun x=>(x,()))
theorem JP:zD prog vC2:=fA (rs:=.c (.own zH)) f135 ⟨[],[],[],false⟩ (fun d=>d.1) (e1 vWa) zG
def vMl:=yK 90 [.ptr true [.p .i,.p (.nil),.p .i,.p .i,.p .i,.p .i,.p (.nil),.p (.nil),.p (.nil),.p (.nil),.p (.nil),.p (.nil),.p (.nil),.p (.nil),.p .i,.p .bool,.p .i,.p (.nil)],.c (.p .i),.c (.p (.dat false .i))] (.tup []) [yFk] 0 (fun k d=>yB5 k (d.1,(OG d (d.2.2.2.2.2.2.2.2.2.2.2.2.2.2.1,d.2.2.2.2.2.2.2.2.2.2.2.2.2.2.2.1,d.2.2.2.2.2.2.2.2.2.2.2.2.2.2.2.2.1))) d.2.2.2.2.2.2.2.2.2.2.2.2.2.2.2.2.2.2.1 d.2.2.2.2.2.2.2.2.2.2.2.2.2.2.2.2.2.2.2.1) (fun x=>(wZ x ()))
theorem vNt:zD prog vMl:=fX (rs:=.tup []) (os:=[yFk]) (ns:=0) f90 n0 1 (fun d=>(jQ d)) e0 zG
def vGz:=zJ 89 [.agg qz,.c .i] (.c (.own qN)) (fun k d=>Jc k (qW d) d.2.2.2.2.2.2.2.2.2.2.2.1) (fun x=>(x,()))
theorem X4:zD prog vGz:=fA (rs:=.c (.own qN)) f89 n0 (fun d=>d.1) (e2 JP vNt) zG
def vDm:=yK 90 [.ptr true wv,.c (.p .i),.c (.p (.dat false .i))] (.tup []) [wQ] 0 (fun k d=>N0 k (kB d) d.2.2.2.2.2.2.2.2.2.2.2.2.2.2.2.2.2.2.1 d.2.2.2.2.2.2.2.2.2.2.2.2.2.2.2.2.2.2.2.1) (fun x=>(wZ x ()))
theorem vAr:zD prog vDm:=fX (rs:=.tup []) (os:=[wQ]) (ns:=0) f90 n0 1 (fun d=>(jQ d)) e0 zG
def vFn:=zJ 107 [.c .i,.c .i,.c .i] (.c .bool) (fun k d=>vE k d.1 d.2.1 d.2.2.1) (fun x=>(x,()))
theorem gG:zD prog vFn:=fA (rs:=.c .bool) f107 n0 (fun d=>d.1) e0 zG
def vRl:=zJ 271 [.agg iS,.c .i] (.c .bool) (fun k d=>IX k (yF d) d.2.2.2.2.2.1) (fun x=>(x,()))
theorem vHv:zD prog vRl:=fA (rs:=.c .bool) f271 n0 (fun d=>d.1) e0 zG
def vV0:=zJ 238 [.agg iS,.c .i,.agg vD] (.c .bool) (fun k d=>M8 k (yF d) d.2.2.2.2.2.1 (X5 d)) (fun x=>(x,()))
theorem vO2:zD prog vV0:=fA (rs:=.c .bool) f238 n0 (fun d=>d.1) (e1 vHv) zG
def vWe:=zJ 200 [.agg iS,.c .i,.c .i] (.c .i) (fun k d=>zu k (yF d) d.2.2.2.2.2.1 d.2.2.2.2.2.2.1) (fun x=>(x,()))
theorem X6:zD prog vWe:=fA (rs:=.c .i) f200 n0 (fun d=>d.1) e0 zG
def vL2:=zJ 195 [.agg iS,.c .i,.agg vD] (.c .i) (fun k d=>EG k (yF d) d.2.2.2.2.2.1 (X5 d)) (fun x=>(x,()))
theorem vAe:zD prog vL2:=fA (rs:=.c .i) f195 n0 (fun d=>d.1) (e2 vO2 X6) zG
def vPw:=zJ 285 [.c .i] (.c .bool) (fun k d=>MF k d.1) (fun x=>(x,()))
theorem vQg:zD prog vPw:=fA (rs:=.c .bool) f285 n0 (fun d=>d.1) e0 zG
def vVl:=zJ 257 [.c .i,.c .i] (.c .bool) (fun k d=>ME k d.1 d.2.1) (fun x=>(x,()))
theorem yRu:zD prog vVl:=fA (rs:=.c .bool) f257 n0 (fun d=>d.1) (e1 vQg) zG
def X7:=zJ 258 [.c .i] (.c .bool) (fun k d=>MH k d.1) (fun x=>(x,()))
theorem ySf:zD prog X7:=fA (rs:=.c .bool) f258 n0 (fun d=>d.1) e0 zG
def yYr:zF:=⟨[(0,.c (.dat false .i)),(1,.c .i),(6,.c .i),(7,.c .i),(8,.c .i)],[],[]⟩
def yEc:zF:=⟨[(0,.c (.dat false .i)),(1,.c .i),(6,.c .i),(7,.c .i)],[],[]⟩
def yDt (f:X8)(d:yYr.den):=f d.1.1.1 d.1.2.1.1 d.1.2.2.1.1 d.1.2.2.2.1.1 d.1.2.2.2.2.1.1
def X9:zV:=⟨[yYr],[(.exit 0,yEc)],Ya,fun k d=>yDt (Iy k k) d,fun b x _ K=>K (.exit 0) (zN b yEc (((x.1,()),(x.2.1,()),(x.2.2.1,()),(x.2.2.2,()),()),()))⟩
def yYe:zZ:=⟨[],[(3,X9)],[],true⟩
theorem vKp:zU prog 1000 0 54 (zR (zS f222) 0) X9:=lp (A:=yYe) X9 (fun d=>(d.1.1.1,d.1.2.1.1,d.1.2.2.1.1,d.1.2.2.2.1.1)) yDt Iy MG (e2 yRu ySf) zG
def vCb:=zJ 222 [.c (.dat false .i),.c .i] (.tup [(false,qI),(false,[.bool])]) (fun k d=>DX k d.1 d.2.1) (fun x=>(x.1,x.2,()))
theorem vAz:zD prog vCb:=fA (rs:=.tup [(false,qI),(false,[.bool])]) f222 yYe (fun d=>(d.1,d.2.1)) (e2 yRu ySf) (qE vKp)
def vT2:=uH 240 false .i (.own .i) oG
theorem JQ:zD prog vT2:=fC f240 ⟨[],[],[],false⟩ e0 zG
theorem vYt (A X:Option Addr)(n c vc:Nat)(w w':World)(rv:Value)(hr:(Builtin.append_ #[37,37] 37 #[.slice A n c,.slice X 1 vc]).run prog w=.ok rv w'):
    Calls prog 239 #[.slice A n c,.int .i64 n,.slice X 1 vc] w fun e ny=>e=.returned rv∧ny=w':=by
  have t0:prog.underlying 37=some (.slice 2):=by kernel_rfl
  have t3:prog.underlying 3=some (.int .i64):=by kernel_rfl
  have z0:∀w,(Go.sizeOf 2).run prog w=.ok 1 w:=fun w=>by kernel_rfl
  have u0:=run_underlying t0;have u3:=run_underlying t3
  go_enter Proofs.Tryz.func239,Proofs.Tryz.ntmps239
  go_wp2_with (at_builtin;refine Lib.wpList_append_run _ rfl _ _ _ _ rfl _ _ rfl rfl _ _ hr ?_)
  all_goals (go_ret;exact⟨rfl,rfl⟩)
theorem vJ2:Ls prog 239 37 3 1 where
  ends:=vYt
  grow B off n c i X vo vc N G w w1 w2 w3 hi hnc aQ Jd hG hz hA hB:=by
    simp only[Nat.mul_one] at hA hB
    have t0:prog.underlying 37=some (.slice 2):=by kernel_rfl
    have t3:prog.underlying 3=some (.int .i64):=by kernel_rfl
    have z0:∀w,(Go.sizeOf 2).run prog w=.ok 1 w:=fun w=>by kernel_rfl
    have u0:=run_underlying t0;have u3:=run_underlying t3
    have mixed:prog.follows .mixedOrders=true:=gh
    have Yb:¬((i:Int)=(n:Int)):=by omega
    have pR:IntKind.i64.wrap ((i:Int)+1)=(i:Int)+1:=by rw[IntKind.wrap_i64];omega
    have iG:(0:Int)≤(i:Int)+1:=by omega
    have eO:i≤n:=by omega
    have ga:((i:Int)+1).toNat=i+1:=by omega
    have Yc:¬(c=i):=by omega
    have hz3:(c:Int)<(n:Int)+1:=by omega
    have Yd:(i:Int)≤(n:Int):=by omega
    have hGi:¬(G=i):=by omega
    have Ye:¬(G=i+1):=by omega
    go_enter Proofs.Tryz.func239,Proofs.Tryz.ntmps239
    go_wp2_with (first
      |(at_builtin;refine Lib.wpList_append_run _ rfl _ _ _ _ rfl _ _ rfl rfl _ _ hz ?_)
      |(at_builtin;refine Lw _ rfl _ _ 37 37 rfl _ _ rfl rfl (hA _) ?_))
    go_region_law_o (refine Lx rfl _ _ 37 37 rfl (.slice (some ⟨N,(i+1),none⟩) (n+1-(i+1)) (G-(i+1))) (.slice (some ⟨B,off+i,none⟩) (n-i) (c-i)) (by simp[Act.eval,Act.put]) (by simp[Act.eval,Act.put]) (hB (G-(i+1)) (c-i)) ?_)
    go_wp2
    go_ret
    exact⟨rfl,rfl⟩
  shift B off n c i X vo vc w w1 w2 hi aQ Jd pL hA hB:=by
    simp only[Nat.mul_one] at hA hB
    have t0:prog.underlying 37=some (.slice 2):=by kernel_rfl
    have t3:prog.underlying 3=some (.int .i64):=by kernel_rfl
    have z0:∀w,(Go.sizeOf 2).run prog w=.ok 1 w:=fun w=>by kernel_rfl
    have u0:=run_underlying t0;have u3:=run_underlying t3
    have mixed:prog.follows .mixedOrders=true:=gh
    have Yb:¬((i:Int)=(n:Int)):=by omega
    have pR:IntKind.i64.wrap ((i:Int)+1)=(i:Int)+1:=by rw[IntKind.wrap_i64];omega
    have iG:(0:Int)≤(i:Int)+1:=by omega
    have eO:i≤n:=by omega
    have ga:((i:Int)+1).toNat=i+1:=by omega
    have Yc:¬(c=i):=by omega
    have AM:=fun lb cb=>yMn (P:=prog) (fo:=272) (tb:=4) (e:=2) (size:=1) Proofs.Tryz.func272 (by kernel_rfl) (by kernel_rfl) (by kernel_rfl) (by kernel_rfl) t0 z0 pL vo (off+(i+1)) vc lb cb
    have hb2:¬(c=i+1):=by omega
    have Yd:(i:Int)≤(n:Int)+1:=by omega
    go_enter Proofs.Tryz.func239,Proofs.Tryz.ntmps239
    go_wp2_with (simp only[AM])
    go_region_law_o (refine Lx rfl _ _ 37 37 rfl (.slice (some ⟨B,off+(i+1),none⟩) (n-i) (c-(i+1))) (.slice (some ⟨B,off+i,none⟩) (n+1-i) (c-i)) (by simp[Act.eval,Act.put]) (by simp[Act.eval,Act.put]) (hA _ _) ?_)
    go_wp2_with (at_builtin;refine Lw _ rfl _ _ 37 37 rfl _ _ rfl rfl (hB _) ?_)
    go_ret
    exact⟨rfl,rfl⟩
def vIc:Nat×mA:=(239,SP .i 8)
theorem Yf:zD prog vIc:=yOp (e:=2) (fn:=f239) vJ2
def vJ4:=zJ 196 [.c (.dat true .i),.c .i] (.tup [(false,[.fro .i]),(false,qI)]) (fun k d=>DY k d.1 d.2.1) (fun x=>(x.1,x.2,()))
theorem yKd:zD prog vJ4:=fA (rs:=.tup [(false,[.fro .i]),(false,qI)]) f196 n0 (fun d=>(d.1,d.2.1)) (e3 vAz JQ Yf) zG
def vM1:=zJ 149 [.agg vD,.ptr [.i]] (.c .bool) (fun k d=>(lj (T0 k) d)) (fun x=>(x,()))
theorem yFb:zD prog vM1:=fA (rs:=.c .bool) f149 ⟨[],[],[],false⟩ (fun d=>d.1) e0 zG
def yWc:zF:=⟨[(0,.c (.dat false zH)),(1,.c (.lit (.fn 149 [1001000]))),(7,.c .i),(8,.c .i)],[.robox [.i]],[]⟩
def yS7:zF:=⟨[],[],[]⟩
def yEf:zF:=⟨[(4,.c .i)],[],[]⟩
def yFw (f:Yg)(d:yWc.den):=f d.1.1.1 d.1.2.2.1.1 d.1.2.2.2.1.1 d.2.1.1
def Yh:zV:=⟨[yWc],[(.exit 0,yS7),(.ret,yEf)],(Unit⊕Int),fun k d=>yFw (DJ k k) d,fun b x _ K=>match x with|.inl x=>K (.exit 0) (zN b yS7 ((),()))|.inr x=>K .ret (zN b yEf (((x,()),()),()))⟩
def yN9:zZ:=⟨[],[(2,Yh)],[],false⟩
theorem Yi:zU prog 1000 0 19 (zR (zS f148) 0) Yh:=lp (A:=yN9) Yh (fun d=>match d with|.inl d=>.inl ()|.inr d=>.inr d.1.1.1) yFw DJ DK (e1 yFb) zG
def vEo:=zJ 148 [.c (.dat false zH),.fn 149 [[.i]]] (.c .i) (fun k d=>T1 k d.1 d.2.1) (fun x=>(x,()))
theorem vIu:zD prog vEo:=fA (rs:=.c .i) f148 yN9 (fun d=>d.1) (e1 yFb) (qE Yi)
def Yj:=zJ 94 [.c (.dat false zH),.c .i] (.c .i) (fun k d=>nD k d.1 d.2.1) (fun x=>(x,()))
theorem wx:zD prog Yj:=fA (rs:=.c .i) f94 ⟨[],[],[],false⟩ (fun d=>d.1) (e1 vIu) zG
def vJq:=zJ 286 [.c .i] (.c .bool) (fun k d=>MC k d.1) (fun x=>(x,()))
theorem vGr:zD prog vJq:=fA (rs:=.c .bool) f286 ⟨[],[],[],false⟩ (fun d=>d.1) e0 zG
def vKq:=zJ 260 [.c .i,.c .i] (.c .i) (fun k d=>Is k d.1 d.2.1) (fun x=>(x,()))
theorem Yk:zD prog vKq:=fA (rs:=.c .i) f260 ⟨[],[],[],false⟩ (fun d=>d.1) (e1 vGr) zG
def yXk:zF:=⟨[(3,.c .i),(6,.c (.dat false .i)),(7,.c .i),(8,.c .i)],[],[]⟩
def yFm:zF:=⟨[(3,.c .i)],[],[]⟩
def yD0:zF:=⟨[(2,.c .i)],[],[]⟩
def yPj (f:Yl)(d:yXk.den):=f d.1.1.1 d.1.2.1.1 d.1.2.2.1.1 d.1.2.2.2.1.1
def Ym:zV:=⟨[yXk],[(.exit 0,yFm),(.ret,yD0)],(Int⊕Int),fun k d=>yPj (DL k k) d,fun b x _ K=>match x with|.inl x=>K (.exit 0) (zN b yFm (((x,()),()),()))|.inr x=>K .ret (zN b yD0 (((x,()),()),()))⟩
def yP7:zZ:=⟨[],[(3,Ym)],[],false⟩
theorem vDg:zU prog 1000 0 18 (zR (zS f259) 0) Ym:=lp (A:=yP7) Ym (fun d=>match d with|.inl d=>.inl d.1.1.1|.inr d=>.inr d.1.1.1) yPj DL yDa e0 zG
def vXg:=zJ 259 [.c (.dat false .i)] (.c .i) (fun k d=>MB k d.1) (fun x=>(x,()))
theorem Yn:zD prog vXg:=fA (rs:=.c .i) f259 yP7 (fun d=>d.1) e0 (qE vDg)
def vGa:=zJ 224 [.agg vD,.agg vD] (.c .i) (fun k d=>(FP (DM k) d)) (fun x=>(x,()))
theorem FQ:zD prog vGa:=fA (rs:=.c .i) f224 ⟨[],[],[],false⟩ (fun d=>d.1) (e2 Yk Yn) zG
def vEn:=uH 242 false zH (.own zH) uW
theorem OH:zD prog vEn:=fC f242 ⟨[],[],[],false⟩ e0 zG
theorem vYw (A X:Option Addr)(n c vc:Nat)(w w':World)(rv:Value)(hr:(Builtin.append_ #[40,40] 40 #[.slice A n c,.slice X 1 vc]).run prog w=.ok rv w'):
    Calls prog 241 #[.slice A n c,.int .i64 n,.slice X 1 vc] w fun e ny=>e=.returned rv∧ny=w':=by
  have t0:prog.underlying 40=some (.slice 142):=by kernel_rfl
  have t3:prog.underlying 3=some (.int .i64):=by kernel_rfl
  have z0:∀w,(Go.sizeOf 142).run prog w=.ok 7 w:=fun w=>by kernel_rfl
  have u0:=run_underlying t0;have u3:=run_underlying t3
  go_enter Proofs.Tryz.func241,Proofs.Tryz.ntmps241
  go_wp2_with (at_builtin;refine Lib.wpList_append_run _ rfl _ _ _ _ rfl _ _ rfl rfl _ _ hr ?_)
  all_goals (go_ret;exact⟨rfl,rfl⟩)
theorem vQ5:Ls prog 241 40 3 7 where
  ends:=vYw
  grow B off n c i X vo vc N G w w1 w2 w3 hi hnc aQ Jd hG hz hA hB:=by
    have t0:prog.underlying 40=some (.slice 142):=by kernel_rfl
    have t3:prog.underlying 3=some (.int .i64):=by kernel_rfl
    have z0:∀w,(Go.sizeOf 142).run prog w=.ok 7 w:=fun w=>by kernel_rfl
    have u0:=run_underlying t0;have u3:=run_underlying t3
    have mixed:prog.follows .mixedOrders=true:=gh
    have Yb:¬((i:Int)=(n:Int)):=by omega
    have pR:IntKind.i64.wrap ((i:Int)+1)=(i:Int)+1:=by rw[IntKind.wrap_i64];omega
    have iG:(0:Int)≤(i:Int)+1:=by omega
    have eO:i≤n:=by omega
    have ga:((i:Int)+1).toNat=i+1:=by omega
    have Yc:¬(c=i):=by omega
    have hz3:(c:Int)<(n:Int)+1:=by omega
    have Yd:(i:Int)≤(n:Int):=by omega
    have hGi:¬(G=i):=by omega
    have Ye:¬(G=i+1):=by omega
    go_enter Proofs.Tryz.func241,Proofs.Tryz.ntmps241
    go_wp2_with (first
      |(at_builtin;refine Lib.wpList_append_run _ rfl _ _ _ _ rfl _ _ rfl rfl _ _ hz ?_)
      |(at_builtin;refine Lw _ rfl _ _ 40 40 rfl _ _ rfl rfl (hA _) ?_))
    go_region_law_o (refine Lx rfl _ _ 40 40 rfl (.slice (some ⟨N,(i+1)*7,none⟩) (n+1-(i+1)) (G-(i+1))) (.slice (some ⟨B,off+i*7,none⟩) (n-i) (c-i)) (by simp[Act.eval,Act.put]) (by simp[Act.eval,Act.put]) (hB (G-(i+1)) (c-i)) ?_)
    go_wp2
    go_ret
    exact⟨rfl,rfl⟩
  shift B off n c i X vo vc w w1 w2 hi aQ Jd pL hA hB:=by
    have t0:prog.underlying 40=some (.slice 142):=by kernel_rfl
    have t3:prog.underlying 3=some (.int .i64):=by kernel_rfl
    have z0:∀w,(Go.sizeOf 142).run prog w=.ok 7 w:=fun w=>by kernel_rfl
    have u0:=run_underlying t0;have u3:=run_underlying t3
    have mixed:prog.follows .mixedOrders=true:=gh
    have Yb:¬((i:Int)=(n:Int)):=by omega
    have pR:IntKind.i64.wrap ((i:Int)+1)=(i:Int)+1:=by rw[IntKind.wrap_i64];omega
    have iG:(0:Int)≤(i:Int)+1:=by omega
    have eO:i≤n:=by omega
    have ga:((i:Int)+1).toNat=i+1:=by omega
    have Yc:¬(c=i):=by omega
    have AM:=fun lb cb=>yMn (P:=prog) (fo:=274) (tb:=4) (e:=142) (size:=7) Proofs.Tryz.func274 (by kernel_rfl) (by kernel_rfl) (by kernel_rfl) (by kernel_rfl) t0 z0 pL vo (off+(i+1)*7) vc lb cb
    have hb2:¬(c=i+1):=by omega
    have Yd:(i:Int)≤(n:Int)+1:=by omega
    go_enter Proofs.Tryz.func241,Proofs.Tryz.ntmps241
    go_wp2_with (simp only[AM])
    go_region_law_o (refine Lx rfl _ _ 40 40 rfl (.slice (some ⟨B,off+(i+1)*7,none⟩) (n-i) (c-(i+1))) (.slice (some ⟨B,off+i*7,none⟩) (n+1-i) (c-i)) (by simp[Act.eval,Act.put]) (by simp[Act.eval,Act.put]) (hA _ _) ?_)
    go_wp2_with (at_builtin;refine Lw _ rfl _ _ 40 40 rfl _ _ rfl rfl (hB _) ?_)
    go_ret
    exact⟨rfl,rfl⟩
def vZf:Nat×mA:=(241,SP zH 56)
theorem OI:zD prog vZf:=yOp (e:=142) (fn:=f241) vQ5
def yP3:zF:=⟨[(0,.c (.dat true zH)),(3,.c (.lit (.ptr 1001000 0))),(6,.c .i)],[.box true wL],[]⟩
def yD9:zF:=⟨[(0,.c (.dat true zH)),(3,.c (.lit (.ptr 1001000 0))),(6,.c .i)],[.box true wL],[]⟩
def vAx (f:Yo)(d:yP3.den):=f d.1.1.1 d.1.2.2.1.1 (wD d.2.1)
def Yp:zV:=⟨[yP3],[(.exit 1,yD9)],Yq,fun k d=>vAx (DP k k) d,fun b x _ K=>K (.exit 1) (zN b yD9 (((x.1,()),(),(x.2.1,()),()),((gb x.2.2 ()),())))⟩
def yOm:zZ:=⟨[],[(6,Yp)],[],true⟩
theorem vZa:zU prog 1000 0 40 (zR (zS f197) 0) Yp:=lp (A:=yOm) Yp (fun d=>(d.1.1.1,d.1.2.2.1.1,(wD d.2.1))) vAx DP DQ (e4 wx FQ OH OI) zG
def vQj:=zJ 197 [.c (.dat true zH),.agg vD] (.tup [(false,vK),(false,qI)]) (fun k d=>uX k d.1 (DT d)) (fun x=>(x.1,x.2,()))
theorem OJ:zD prog vQj:=fA (rs:=.tup [(false,vK),(false,qI)]) f197 yOm (fun d=>(d.1,d.2.1)) (e4 wx FQ OH OI) (qE vZa)
def vU0:=yK 136 [.ptr true wy,.agg JR] (.c .i) [wQ] 0 (fun k d=>M9 k (jQ d) (yXu d)) (fun x=>(x.1,(wZ x.2 ())))
theorem vUg:zD prog vU0:=fX (rs:=.c .i) (os:=[wQ]) (ns:=0) f136 n0 1 (fun d=>(d.1,(iT d))) (e4 gG vAe yKd OJ) zG
def vH3:=zJ 198 [.ptr Yr,.c .i] (.tup [(true,fQ),(false,qI)]) (fun k d=>Ys k (jQ d) d.2.2.2.2.2.2.2.2.2.2.2.2.2.2.2.2.2.2.1) (fun x=>(gb x.1 (x.2,())))
theorem yWx:zD prog vH3:=fA (rs:=.tup [(true,fQ),(false,qI)]) f198 n0 (fun d=>((wD d),d.2.2.2.2.2.2.2.1)) (e1 wx) zG
def vMt:=yK 243 [.c (.own zH),.c (.p .i),.c (.p .i)] (.c (.own zH)) [] 0 (fun k d=>Ir k d.1 d.2.1 d.2.2.1) (fun x=>(x,()))
theorem yHd:zD prog vMt:=fX (rs:=.c (.own zH)) (os:=[]) (ns:=0) f243 ⟨[],[],[],false⟩ 0 (fun d=>d.1) e0 zG
def vWj:=zJ 199 [.c (.dat true zH),.c .i] (.tup [(false,vK),(true,fQ),(false,qI)]) (fun k d=>oK k d.1 d.2.1) (fun x=>(OK x ()))
theorem oV:zD prog vWj:=fA (rs:=.tup [(false,vK),(true,fQ),(false,qI)]) f199 ⟨[],[],[],false⟩ (fun d=>(OM d)) (e3 wx OH yHd) zG
def vYr:=yK 90 [.ptr true wy,.c (.p .i),.c (.p (.dat false .i))] (.tup []) [wQ] 0 (fun k d=>vn k (jQ d) d.2.2.2.2.2.2.2.2.2.2.2.2.2.2.2.2.2.2.1 d.2.2.2.2.2.2.2.2.2.2.2.2.2.2.2.2.2.2.2.1) (fun x=>(wZ x ()))
theorem vBa:zD prog vYr:=fX (rs:=.tup []) (os:=[wQ]) (ns:=0) f90 n0 1 (fun d=>(jQ d)) e0 zG
def vZm:=zJ 201 [.c (.dat true zH),.c .i,.c .i] (.tup [(false,vK),(false,qI)]) (fun k d=>DR k d.1 d.2.1 d.2.2.1) (fun x=>(x.1,x.2,()))
theorem yDh:zD prog vZm:=fA (rs:=.tup [(false,vK),(false,qI)]) f201 n0 (fun d=>(d.1,d.2.1)) (e2 oV OJ) zG
def vYm:=zJ 199 [.c (.dat false zH),.c .i] (.tup [(false,[.own zH]),(true,fQ),(false,qI)]) (fun k d=>T6 k d.1 d.2.1) (fun x=>(OK x ()))
theorem yZ6:zD prog vYm:=fA (rs:=.tup [(false,[.own zH]),(true,fQ),(false,qI)]) f199 ⟨[],[],[],false⟩ (fun d=>(OM d)) (e3 wx OH yHd) zG
def yI8:zF:=⟨[(6,.c (.lit (.osl 1001000 none))),(7,.c (.lit (.ptr 1001001 0))),(9,.c .i)],[.arr true zH,.box true wL],[]⟩
def yBk:zF:=⟨[(6,.c (.lit (.osl 1001000 none))),(7,.c (.lit (.ptr 1001001 0))),(9,.c .i)],[.arr true zH,.box true wL],[]⟩
def yHe (f:Yt)(d:yI8.den):=f d.1.2.2.1.1 d.2.1 (wD d.2.2.1)
def Yu:zV:=⟨[yI8],[(.exit 0,yBk)],Yv,fun k d=>yHe (DU k k) d,fun b x _ K=>K (.exit 0) (zN b yBk (((),(),(x.1,()),()),(x.2.1,(gb x.2.2 ()),())))⟩
def yFo:zZ:=⟨[],[(5,Yu)],[],true⟩
theorem vDx:zU prog 1000 0 41 (zR (zS f202) 0) Yu:=lp (A:=yFo) Yu (fun d=>(d.1.2.2.1.1,d.2.1,(wD d.2.2.1))) yHe DU DV (e3 yZ6 FQ OI) zG
def vSd:=zJ 202 [.c (.dat true zH),.c .i] (.tup [(false,vK),(false,qI)]) (fun k d=>DW k d.1 d.2.1) (fun x=>(x.1,x.2,()))
theorem yOq:zD prog vSd:=fA (rs:=.tup [(false,vK),(false,qI)]) f202 yFo (fun d=>(d.1,d.2.1)) (e3 yZ6 FQ OI) (qE vDx)
def vG5:=zJ 203 [.c (.dat true zH),.c .i] (.tup [(false,vK),(false,qI)]) (fun k d=>DS k d.1 d.2.1) (fun x=>(x.1,x.2,()))
theorem yYs:zD prog vG5:=fA (rs:=.tup [(false,vK),(false,qI)]) f203 n0 (fun d=>(d.1,d.2.1)) (e2 oV OJ) zG
def vK1:=yK 137 [.ptr true wy,.agg vD] (.c .i) [wQ] 0 (fun k d=>zv k (jQ d) (FR d)) (fun x=>(x.1,(wZ x.2 ())))
theorem Yw:zD prog vK1:=fX (rs:=.c .i) (os:=[wQ]) (ns:=0) f137 n0 1 (fun d=>(d.1,(iT d))) (e8 yWx oV vBa gG X6 yDh yOq yYs) zG
def vX3:=uH 244 false qX (.own qX) Tq
theorem vLn:zD prog vX3:=fC f244 ⟨[],[],[],false⟩ e0 zG
def vX5:=uH 207 true (.sl .i) (.jun) Tl
theorem yYi:zD prog vX5:=fC f207 ⟨[],[],[],false⟩ e0 zG
def yU8:zF:=⟨[(3,.c (.lit (.osl 1001000 none))),(8,.c (.dat true (.sl .i))),(9,.c .i),(10,.c .i)],[.pmat],[]⟩
def yV2:zF:=⟨[(3,.c (.lit (.osl 1001000 none)))],[.pmat],[]⟩
def yDl (f:Yx)(d:yU8.den):=f d.1.2.1.1 d.1.2.2.1.1 d.1.2.2.2.1.1 d.2.1.1 d.2.1.2
def Yy:zV:=⟨[yU8],[(.exit 0,yV2)],(EQ×Nat),fun k d=>yDl (HP k k) d,fun b x _ K=>K (.exit 0) (zN b yV2 (((),()),((x.1,x.2),())))⟩
def yZ4:zZ:=⟨[],[(3,Yy)],[],false⟩
theorem vUk:zU prog 1000 0 22 (zR (zS f245) 0) Yy:=lp (A:=yZ4) Yy (fun d=>d.2.1) yDl HP CN (e2 yYi JQ) zG
def Yz:=zJ 245 [.c (.dat true (.sl .i))] (.c (.mat)) (fun k d=>HQ k d.1) (fun x=>(x,()))
theorem YA:zD prog Yz:=fA (rs:=.c (.mat)) f245 yZ4 (fun d=>d.1) (e2 yYi JQ) (qE vUk)
def vGc:=zJ 204 [.agg [.dat false qX,.dat true (.sl .i),.dat false .i,.dat true (.sl .i)]] (.agg ON) (fun k d=>(yZ (fM k) d)) (fun x=>(jO x ()))
theorem nO:zD prog vGc:=fA (rs:=.agg ON) f204 ⟨[],[],[],false⟩ (fun d=>(wK d)) (e3 vLn YA JQ) zG
def vTn:=zJ 205 [.ptr Yr,.c .i] (.c .bool) (fun k d=>YB k (jQ d) d.2.2.2.2.2.2.2.2.2.2.2.2.2.2.2.2.2.2.1) (fun x=>(x,()))
theorem yN2:zD prog vTn:=fA (rs:=.c .bool) f205 n0 (fun d=>d.1) (e1 gG) zG
def vJj:=yK 138 [.ptr true wy,.agg vD] (.c .i) [wQ] 0 (fun k d=>zw k (jQ d) (FR d)) (fun x=>(x.1,(wZ x.2 ())))
theorem vZh:zD prog vJj:=fX (rs:=.c .i) (os:=[wQ]) (ns:=0) f138 n0 1 (fun d=>(d.1,(iT d))) (e3 nO yN2 gG) zG
def vWw:=zJ 206 [.ptr Yr,.c .i] (.c .bool) (fun k d=>JS k (jQ d) d.2.2.2.2.2.2.2.2.2.2.2.2.2.2.2.2.2.2.1) (fun x=>(x,()))
theorem FT:zD prog vWw:=fA (rs:=.c .bool) f206 n0 (fun d=>d.1) (e1 gG) zG
def YC:=uH 207 true (.sl .i) (.own (.sl .i)) EI
theorem yMo:zD prog YC:=fC f207 ⟨[],[],[],false⟩ e0 zG
def vCp:=zJ 208 [.c (.dat false .i),.c .i,.c .i] (.c (.own .i)) (fun k d=>oN k d.1 d.2.1 d.2.2.1) (fun x=>(x,()))
theorem FU:zD prog vCp:=fA (rs:=.c (.own .i)) f208 n0 (fun d=>d.1) (e1 JQ) zG
def YD:=zJ 254 [.c .i] (.c .bool) (fun k d=>Ub k d.1) (fun x=>(x,()))
theorem vS8:zD prog YD:=fA (rs:=.c .bool) f254 n0 (fun d=>d.1) e0 zG
def vXf:=zJ 255 [.c (.int .u64),.c (.int .u64)] (.tup [(false,[.int .u64]),(false,[.int .u64])]) (fun k d=>IA k d.1 d.2.1) (fun x=>(x.1,x.2,()))
theorem YE:zD prog vXf:=fA (rs:=.tup [(false,[.int .u64]),(false,[.int .u64])]) f255 n0 (fun d=>(d.1,d.2.1)) e0 zG
def YF:=zJ 295 [.c (.int .u64)] (.c .i) (fun k d=>yWz k d.1) (fun x=>(x,()))
theorem vF2:zD prog YF:=fA (rs:=.c .i) f295 n0 (fun d=>d.1) e0 zG
def vQt:=zJ 284 [.c (.int .u64)] (.c .i) (fun k d=>yGx k d.1) (fun x=>(x,()))
theorem YG:zD prog vQt:=fA (rs:=.c .i) f284 n0 (fun d=>d.1) (e1 vF2) zG
def qZr:zF:=⟨[(2,.c (.int .u64)),(8,.c (.int .u64)),(9,.c (.int .u64)),(10,.c (.int .u64)),(11,.c (.int .u64)),(13,.c (.int .u64)),(14,.c (.int .u64)),(15,.c (.int .u64)),(16,.c (.int .u64))],[],[]⟩
def yPp:zF:=⟨[(2,.c (.int .u64)),(8,.c (.int .u64)),(9,.c (.int .u64)),(10,.c (.int .u64)),(11,.c (.int .u64)),(13,.c (.int .u64)),(14,.c (.int .u64)),(15,.c (.int .u64))],[],[]⟩
def yU3 (f:YH)(d:qZr.den):=f d.1.1.1 d.1.2.1.1 d.1.2.2.1.1 d.1.2.2.2.1.1 d.1.2.2.2.2.1.1 d.1.2.2.2.2.2.1.1 d.1.2.2.2.2.2.2.1.1 d.1.2.2.2.2.2.2.2.1.1 d.1.2.2.2.2.2.2.2.2.1.1
def OO:zV:=⟨[qZr],[(.exit 0,yPp)],YI,fun k d=>yU3 (YJ k k) d,fun b x _ K=>K (.exit 0) (zN b yPp (((x.1,()),(x.2.1,()),(x.2.2.1,()),(x.2.2.2.1,()),(x.2.2.2.2.1,()),(x.2.2.2.2.2.1,()),(x.2.2.2.2.2.2.1,()),(x.2.2.2.2.2.2.2,()),()),()))⟩
def yM2:zF:=⟨[(2,.c (.int .u64)),(8,.c (.int .u64)),(9,.c (.int .u64)),(10,.c (.int .u64)),(14,.c (.int .u64)),(15,.c (.int .u64)),(16,.c (.int .u64)),(17,.c (.int .u64)),(18,.c (.int .u64))],[],[]⟩
def yKp:zF:=⟨[(2,.c (.int .u64)),(8,.c (.int .u64)),(14,.c (.int .u64)),(15,.c (.int .u64)),(17,.c (.int .u64)),(18,.c (.int .u64))],[],[]⟩
def yBi (f:YK)(d:yM2.den):=f d.1.1.1 d.1.2.1.1 d.1.2.2.1.1 d.1.2.2.2.1.1 d.1.2.2.2.2.1.1 d.1.2.2.2.2.2.1.1 d.1.2.2.2.2.2.2.1.1 d.1.2.2.2.2.2.2.2.1.1 d.1.2.2.2.2.2.2.2.2.1.1
def OP:zV:=⟨[yM2],[(.exit 2,yKp)],YL,fun k d=>yBi (YM k k) d,fun b x _ K=>K (.exit 2) (zN b yKp (((x.1,()),(x.2.1,()),(x.2.2.1,()),(x.2.2.2.1,()),(x.2.2.2.2.1,()),(x.2.2.2.2.2,()),()),()))⟩
def YN:zZ:=⟨[],[(17,OO),(24,OP)],[],true⟩
theorem vZi:zU prog 1000 0 135 (zR (zS f256) 0) OO:=lp (A:=YN) OO (fun d=>(d.1.1.1,d.1.2.1.1,d.1.2.2.1.1,d.1.2.2.2.1.1,d.1.2.2.2.2.1.1,d.1.2.2.2.2.2.1.1,d.1.2.2.2.2.2.2.1.1,d.1.2.2.2.2.2.2.2.1.1)) yU3 YJ yQh (e1 YG) zG
theorem vY5:zU prog 1000 0 135 (zR (zS f256) 1) OP:=lp (A:=YN) OP (fun d=>(d.1.1.1,d.1.2.1.1,d.1.2.2.1.1,d.1.2.2.2.1.1,d.1.2.2.2.2.1.1,d.1.2.2.2.2.2.1.1)) yBi YM qZc (e1 YG) zG
def YO:=zJ 256 [.c (.int .u64),.c (.int .u64),.c (.int .u64)] (.tup [(false,[.int .u64]),(false,[.int .u64])]) (fun k d=>MJ k d.1 d.2.1 d.2.2.1) (fun x=>(x.1,x.2,()))
theorem vMo:zD prog YO:=fA (rs:=.tup [(false,[.int .u64]),(false,[.int .u64])]) f256 YN (fun d=>(d.1,d.2.1)) (e1 YG) (loopsOK_of (n:=2) (by kernel_rfl) fun i hi=>match i,hi with|0,_=>⟨OO,by kernel_rfl,vZi⟩|1,_=>⟨OP,by kernel_rfl,vY5⟩|i+2,hi=>absurd hi (by omega))
def vIv:=(178,Lq)
theorem YP:zD prog vIv:=vCi (fn:=f178)
def YQ:=zJ 221 [.c .i,.c .i,.c .i] (.tup [(false,qI),(false,[.bool])]) (fun k d=>MK k d.1 d.2.1 d.2.2.1) (fun x=>(x.1,x.2,()))
theorem yEi:zD prog YQ:=fA (rs:=.tup [(false,qI),(false,[.bool])]) f221 n0 (fun d=>(d.1,d.2.1)) (e4 vS8 YE vMo YP) zG
def qZw:zF:=⟨[(4,.c .i),(5,.c (.int .u64)),(9,.c (.dat false .i)),(10,.c .i),(11,.c .i)],[],[]⟩
def yAk:zF:=⟨[(4,.c .i),(5,.c (.int .u64))],[],[]⟩
def yIk (f:YR)(d:qZw.den):=f d.1.1.1 d.1.2.1.1 d.1.2.2.1.1 d.1.2.2.2.1.1 d.1.2.2.2.2.1.1
def YS:zV:=⟨[qZw],[(.exit 0,yAk)],vJ,fun k d=>yIk (D3 k k) d,fun b x _ K=>K (.exit 0) (zN b yAk (((x.1,()),(x.2,()),()),()))⟩
def yB3:zZ:=⟨[],[(4,YS)],[],false⟩
theorem YT:zU prog 1000 0 37 (zR (zS f111) 0) YS:=lp (A:=yB3) YS (fun d=>(d.1.1.1,d.1.2.1.1)) yIk D3 D4 (e1 YP) zG
def vRb:=zJ 111 [.c (.dat false .i)] (.tup [(false,qI),(false,[.bool])]) (fun k d=>Iz k d.1) (fun x=>(x.1,x.2,()))
theorem OQ:zD prog vRb:=fA (rs:=.tup [(false,qI),(false,[.bool])]) f111 yB3 (fun d=>(d.1,d.2.1)) (e1 YP) (qE YT)
def yTo:zF:=⟨[(1,.c (.dat false .i)),(2,.c (.dat false .i)),(8,.c (.lit (.osl 1001000 none))),(25,.c (.dat false wB)),(26,.c .i),(27,.c .i)],[.arr true .i],[(8,none,.i,false)]⟩
def yZj:zF:=⟨[(8,.c (.lit (.osl 1001000 none)))],[.arr true .i],[]⟩
def yXc:zF:=⟨[(6,.c .i),(7,.c .bool)],[],[]⟩
def yI9 (f:YU)(d:yTo.den):=f d.1.1.1 d.1.2.1.1 d.1.2.2.2.1.1 d.1.2.2.2.2.1.1 d.1.2.2.2.2.2.1.1 d.2.1
def YV:zV:=⟨[yTo],[(.exit 0,yZj),(.ret,yXc)],(AC⊕jW),fun k d=>yI9 (D5 k k) d,fun b x _ K=>match x with|.inl x=>K (.exit 0) (zN b yZj (((),()),(x,())))|.inr x=>K .ret (zN b yXc (((x.1,()),(x.2,()),()),()))⟩
def yNm:zZ:=⟨[],[(5,YV)],[],true⟩
theorem vDw:zU prog 1000 0 57 (zR (zS f170) 0) YV:=lp (A:=yNm) YV (fun d=>match d with|.inl d=>.inl d.2.1|.inr d=>.inr (d.1.1.1,d.1.2.1.1)) yI9 D5 D6 (e2 yEi OQ) zG
def vVe:=zJ 170 [.c (.dat false wB),.c (.dat false .i),.c (.dat false .i)] (.tup [(false,qI),(false,[.bool])]) (fun k d=>qi k d.1 d.2.1 d.2.2.1) (fun x=>(x.1,x.2,()))
theorem wz:zD prog vVe:=fA (rs:=.tup [(false,qI),(false,[.bool])]) f170 yNm (fun d=>(d.1,d.2.1)) (e2 yEi OQ) (qE vDw)
def vYd:=yK 139 [.ptr true wy,.c (.p .i),.c (.p .i)] (.c .i) [wQ] 0 (fun k d=>Na k (jQ d) d.2.2.2.2.2.2.2.2.2.2.2.2.2.2.2.2.2.2.1 d.2.2.2.2.2.2.2.2.2.2.2.2.2.2.2.2.2.2.2.1) (fun x=>(x.1,(wZ x.2 ())))
theorem vPv:zD prog vYd:=fX (rs:=.c .i) (os:=[wQ]) (ns:=0) f139 n0 1 (fun d=>(d.1,(iT d))) (e6 FT gG yMo FU wz nO) zG
def vVo:=zJ 95 [.c .i,.c .i] (.tup [(false,qI),(false,[.bool])]) (fun k d=>Nb k d.1 d.2.1) (fun x=>(x.1,x.2,()))
theorem vYk:zD prog vVo:=fA (rs:=.tup [(false,qI),(false,[.bool])]) f95 ⟨[],[],[],false⟩ (fun d=>(d.1,d.2.1)) e0 zG
def YW:=zJ 161 [.agg mM] (.c .bool) (fun k d=>LM k d.1 d.2.1 d.2.2.1) (fun x=>(x,()))
theorem yHz:zD prog YW:=fA (rs:=.c .bool) f161 ⟨[],[],[],false⟩ (fun d=>d.1) e0 zG
def vPj:=zJ 246 [.agg mM,.c .i] (.tup [(true,wk),(false,qI)]) (fun k d=>IZ k (d.1,d.2.1,d.2.2.1) d.2.2.2.1) (fun x=>(x.1.1,x.1.2.1,x.1.2.2,x.2,()))
theorem yZa:zD prog vPj:=fA (rs:=.tup [(true,wk),(false,qI)]) f246 n0 (fun d=>((d.1,d.2.1,d.2.2.1),d.2.2.2.1)) (e2 vYk yHz) zG
def vDa:=zJ 209 [.agg mM,.c .i] (.tup [(true,wk),(false,qI)]) (fun k d=>EK k (d.1,d.2.1,d.2.2.1) d.2.2.2.1) (fun x=>(x.1.1,x.1.2.1,x.1.2.2,x.2,()))
theorem yCq:zD prog vDa:=fA (rs:=.tup [(true,wk),(false,qI)]) f209 n0 (fun d=>((d.1,d.2.1,d.2.2.1),d.2.2.2.1)) (e1 yZa) zG
def vVy:=zJ 247 [.agg mM,.c .i] (.c .i) (fun k d=>(yZ (uR k) d)) (fun x=>(x,()))
theorem OR:zD prog vVy:=fA (rs:=.c .i) f247 ⟨[],[],[],false⟩ (fun d=>d.1) e0 zG
def vXe:=zJ 210 [.agg mM,.c .i,.c .i] (.tup [(true,wk),(false,qI)]) (fun k d=>EL k (d.1,d.2.1,d.2.2.1) d.2.2.2.1 d.2.2.2.2.1) (fun x=>(x.1.1,x.1.2.1,x.1.2.2,x.2,()))
theorem yA8:zD prog vXe:=fA (rs:=.tup [(true,wk),(false,qI)]) f210 n0 (fun d=>((d.1,d.2.1,d.2.2.1),d.2.2.2.1)) (e2 yZa OR) zG
def vC1:=zJ 211 [.agg mM,.c .i] (.c .i) (fun k d=>EM k (d.1,d.2.1,d.2.2.1) d.2.2.2.1) (fun x=>(x,()))
theorem yUb:zD prog vC1:=fA (rs:=.c .i) f211 n0 (fun d=>d.1) e0 zG
def vDh:=yK 140 [.ptr true wy,.c (.p .i),.c (.p .i),.c (.p .i)] (.c .i) [wQ] 0 (fun k d=>YX k (jQ d) d.2.2.2.2.2.2.2.2.2.2.2.2.2.2.2.2.2.2.1 d.2.2.2.2.2.2.2.2.2.2.2.2.2.2.2.2.2.2.2.1 d.2.2.2.2.2.2.2.2.2.2.2.2.2.2.2.2.2.2.2.2.1) (fun x=>(x.1,(wZ x.2 ())))
theorem YY:zD prog vDh:=fX (rs:=.c .i) (os:=[wQ]) (ns:=0) f140 n0 1 (fun d=>(d.1,(iT d))) (e5 gG yCq yA8 yUb nO) zG
def yGw:zF:=⟨[(0,.c (.lit (.ptr 1001000 0))),(7,.c (.lit (.osl 1001002 none))),(8,.c (.lit (.ptr 1001003 0))),(40,.c (.dat true (.sl .i))),(41,.c .i),(42,.c .i)],[.box true YZ,.arr true qN,.arr true .i,.box true vBn,.arr true qX,.mat,.arr true .i,.mat],[]⟩
def yC1:zF:=⟨[(0,.c (.lit (.ptr 1001000 0))),(7,.c (.lit (.osl 1001002 none))),(8,.c (.lit (.ptr 1001003 0)))],[.box true YZ,.arr true qN,.arr true .i,.box true vBn,.arr true qX,.mat,.arr true .i,.mat],[]⟩
def qZu:zF:=⟨[(0,.c (.lit (.ptr 1001000 0))),(6,.c .i)],[.box true YZ,.arr true qN],[]⟩
def qZa (f:Y0)(d:yGw.den):=f d.1.2.2.2.1.1 d.1.2.2.2.2.1.1 d.1.2.2.2.2.2.1.1 (kB d.2.1) d.2.2.1 d.2.2.2.1 d.2.2.2.2.2.1 d.2.2.2.2.2.2.1 d.2.2.2.2.2.2.2.1 d.2.2.2.2.2.2.2.2.1
def Y1:zV:=⟨[yGw],[(.exit 0,yC1),(.ret,qZu)],Y2,fun k d=>qZa (Y3 k k) d,fun b x _ K=>match x with|.inl x=>K (.exit 0) (zN b yC1 (((),(),(),()),((vI x.1 ()),x.2.1,x.2.2.1,(),x.2.2.2.1,x.2.2.2.2.1,x.2.2.2.2.2.1,x.2.2.2.2.2.2,())))|.inr x=>K .ret (zN b qZu (((),(x.1,()),()),((vI x.2.1 ()),x.2.2,())))⟩
def yDp:zZ:=⟨[],[(6,Y1)],[],true⟩
theorem vE9:zU prog 1000 1 81 (zR (zS f141) 0) Y1:=lp (A:=yDp) Y1 (fun d=>match d with|.inl d=>.inl ((kB d.2.1),d.2.2.1,d.2.2.2.1,d.2.2.2.2.2.1,d.2.2.2.2.2.2.1,d.2.2.2.2.2.2.2.1,d.2.2.2.2.2.2.2.2.1)|.inr d=>.inr (d.1.2.1.1,(kB d.2.1),d.2.2.1)) qZa Y3 yG2 (e5 FT gG FU nO wz) zG
def vKf:=yK 141 [.ptr true wy,.c (.p .i),.c (.p .i)] (.c .i) [wQ] 0 (fun k d=>yCc k (jQ d) d.2.2.2.2.2.2.2.2.2.2.2.2.2.2.2.2.2.2.1 d.2.2.2.2.2.2.2.2.2.2.2.2.2.2.2.2.2.2.2.1) (fun x=>(x.1,(wZ x.2 ())))
theorem vVa:zD prog vKf:=fX (rs:=.c .i) (os:=[wQ]) (ns:=0) f141 yDp 1 (fun d=>(d.1,(iT d))) (e5 FT gG FU nO wz) (qE vE9)
def vIb:=yK 91 [.ptr true wy,.agg vD] (.c .i) [wQ] 0 (fun k d=>NW k (jQ d) (FR d)) (fun x=>(x.1,(wZ x.2 ())))
theorem vC6:zD prog vIb:=fX (rs:=.c .i) (os:=[wQ]) (ns:=0) f91 n0 1 (fun d=>(d.1,(iT d))) (e6 vUg Yw vZh vPv YY vVa) zG
def vNe:=zJ 112 [.agg iS,.c .i] (.c .bool) (fun k d=>(iU (IW k) d)) (fun x=>(x,()))
theorem OT:zD prog vNe:=fA (rs:=.c .bool) f112 ⟨[],[],[],false⟩ (fun d=>d.1) e0 zG
def vVt:=zJ 144 [.c .i,.c .i,.c (.dat false .i)] (.agg OE) (fun k d=>oP k d.1 d.2.1 d.2.2.1) (fun x=>(FO x ()))
theorem w4:zD prog vVt:=fA (rs:=.agg OE) f144 ⟨[],[],[],false⟩ (fun d=>(ma d)) e0 zG
def yHi:zF:=⟨[(1,.c (.lit (.ptr 1001000 0))),(2,.c (.lit (.ptr 1001001 0))),(4,.c (.lit (.osl 1001002 none))),(10,.c (.dat true zH)),(11,.c .i),(12,.c .i)],[.box true fP,.box true eX,.arr true qN],[(4,none,qN,false)]⟩
def yAb:zF:=⟨[(1,.c (.lit (.ptr 1001000 0))),(2,.c (.lit (.ptr 1001001 0))),(4,.c (.lit (.osl 1001002 none)))],[.box true fP,.box true eX,.arr true qN],[]⟩
def yC8 (f:Y4)(d:yHi.den):=(rj (f d.1.2.2.2.1.1 d.1.2.2.2.2.1.1 d.1.2.2.2.2.2.1.1) d.2.1) d.2.2.1.1 d.2.2.1.2.1 d.2.2.1.2.2.1 d.2.2.2.1
def OU:zV:=⟨[yHi],[(.exit 0,yAb)],Y5,fun k d=>yC8 (Ez k k) d,fun b x _ K=>K (.exit 0) (zN b yAb (((),(),(),()),((w5 x ()),(x.2.2.2.2.2.2.2.2.2.2.2.1,x.2.2.2.2.2.2.2.2.2.2.2.2.1,x.2.2.2.2.2.2.2.2.2.2.2.2.2.1,()),x.2.2.2.2.2.2.2.2.2.2.2.2.2.2,())))⟩
def yPt:zF:=⟨[(1,.c (.lit (.ptr 1001000 0))),(2,.c (.lit (.ptr 1001001 0))),(4,.c (.lit (.osl 1001002 none))),(28,.c (.dat true qX)),(29,.c .i),(30,.c .i)],[.box true fP,.box true eX,.arr true qN],[]⟩
def yEm:zF:=⟨[(1,.c (.lit (.ptr 1001000 0))),(2,.c (.lit (.ptr 1001001 0))),(4,.c (.lit (.osl 1001002 none)))],[.box true fP,.box true eX,.arr true qN],[]⟩
def ySq (f:Y6)(d:yPt.den):=(rj (f d.1.2.2.2.1.1 d.1.2.2.2.2.1.1 d.1.2.2.2.2.2.1.1) d.2.1) d.2.2.1.1 d.2.2.1.2.1 d.2.2.1.2.2.1 d.2.2.2.1
def OV:zV:=⟨[yPt],[(.exit 2,yEm)],Y7,fun k d=>ySq (EB k k) d,fun b x _ K=>K (.exit 2) (zN b yEm (((),(),(),()),((w5 x ()),(x.2.2.2.2.2.2.2.2.2.2.2.1,x.2.2.2.2.2.2.2.2.2.2.2.2.1,x.2.2.2.2.2.2.2.2.2.2.2.2.2.1,()),x.2.2.2.2.2.2.2.2.2.2.2.2.2.2,())))⟩
def Y8:zZ:=⟨[],[(3,OU),(8,OV)],[],false⟩
theorem vYu:zU prog 1000 0 48 (zR (zS f142) 0) OU:=lp (A:=Y8) OU (fun d=>(w5 d.2.1 (d.2.2.1.1,d.2.2.1.2.1,d.2.2.1.2.2.1,d.2.2.2.1))) yC8 Ez EA (e1 w4) zG
theorem vEy:zU prog 1000 0 48 (zR (zS f142) 1) OV:=lp (A:=Y8) OV (fun d=>(w5 d.2.1 (d.2.2.1.1,d.2.2.1.2.1,d.2.2.1.2.2.1,d.2.2.2.1))) ySq EB EC (e1 w4) zG
def vWh:=zJ 142 [.agg wm] (.tup [(true,yCa),(false,[.own qN])]) (fun k d=>(rj (M7 k) d)) (fun x=>(AV x ()))
theorem yV3:zD prog vWh:=fA (rs:=.tup [(true,yCa),(false,[.own qN])]) f142 Y8 (fun d=>(wu d)) (e1 w4) (loopsOK_of (n:=2) (by kernel_rfl) fun i hi=>match i,hi with|0,_=>⟨OU,by kernel_rfl,vYu⟩|1,_=>⟨OV,by kernel_rfl,vEy⟩|i+2,hi=>absurd hi (by omega))
def vYo:=zJ 143 [.agg vD,.c .i] (.c .bool) (fun k d=>(lj (Ux k) d)) (fun x=>(x,()))
theorem qYz:zD prog vYo:=fA (rs:=.c .bool) f143 ⟨[],[],[],false⟩ (fun d=>d.1) e0 zG
def vPm:=zJ 145 [.agg iS,.c .i] (.c .bool) (fun k d=>(iU (EF k) d)) (fun x=>(x,()))
theorem yHa:zD prog vPm:=fA (rs:=.c .bool) f145 ⟨[],[],[],false⟩ (fun d=>d.1) e0 zG
def vOe:=zJ 282 [.agg vD,.c .i] (.c .bool) (fun k d=>(lj (TQ k) d)) (fun x=>(x,()))
theorem Y9:zD prog vOe:=fA (rs:=.c .bool) f282 ⟨[],[],[],false⟩ (fun d=>d.1) e0 zG
def vQ8:=zJ 281 [.agg vD,.ptr [.i]] (.c .bool) (fun k d=>(lj (TP k) d)) (fun x=>(x,()))
theorem yO1:zD prog vQ8:=fA (rs:=.c .bool) f281 ⟨[],[],[],false⟩ (fun d=>d.1) (e1 Y9) zG
def yH3:zF:=⟨[(1,.c (.lit (.fn 281 [1001000]))),(5,.c (.lit (.osl 1001001 none))),(8,.c (.dat false zH)),(9,.c .i),(10,.c .i)],[.robox [.i],.arr true zH],[(5,none,zH,false)]⟩
def yPd:zF:=⟨[(5,.c (.lit (.osl 1001000 none)))],[.arr true zH],[]⟩
def yTq (f:Za)(d:yH3.den):=f d.1.2.2.1.1 d.1.2.2.2.1.1 d.1.2.2.2.2.1.1 d.2.1.1 d.2.2.1
def Zb:zV:=⟨[yH3],[(.exit 0,yPd)],Zc,fun k d=>yTq (Ii k k) d,fun b x _ K=>K (.exit 0) (zN b yPd (((),()),(x,())))⟩
def yLn:zZ:=⟨[],[(3,Zb)],[],false⟩
theorem vHz:zU prog 1000 0 23 (zR (zS f193) 0) Zb:=lp (A:=yLn) Zb (fun d=>d.2.1) yTq Ii Dw (e1 yO1) zG
def vEw:=zJ 193 [.c (.dat false zH),.fn 281 [[.i]]] (.c (.own zH)) (fun k d=>TO k d.1 d.2.1) (fun x=>(x,()))
theorem vRe:zD prog vEw:=fA (rs:=.c (.own zH)) f193 yLn (fun d=>d.1) (e1 yO1) (qE vHz)
def vH6:=zJ 252 [.c (.dat false zH),.c .i] (.c (.own zH)) (fun k d=>Dv k d.1 d.2.1) (fun x=>(x,()))
theorem AY:zD prog vH6:=fA (rs:=.c (.own zH)) f252 ⟨[],[],[],false⟩ (fun d=>d.1) (e1 vRe) zG
def Zd:=zJ 299 [.agg vD,.ptr vD] (.c .bool) (fun k d=>(FP (TT k) d)) (fun x=>(x,()))
theorem ySz:zD prog Zd:=fA (rs:=.c .bool) f299 ⟨[],[],[],false⟩ (fun d=>d.1) e0 zG
def yXv:zF:=⟨[(0,.c (.dat false zH)),(1,.c (.lit (.fn 299 [1001000]))),(7,.c .i),(8,.c .i)],[.robox wL],[]⟩
def yRw:zF:=⟨[],[],[]⟩
def yIa:zF:=⟨[(4,.c .i)],[],[]⟩
def yHv (f:Ze)(d:yXv.den):=(lk (f d.1.1.1 d.1.2.2.1.1 d.1.2.2.2.1.1) d.2.1)
def Zf:zV:=⟨[yXv],[(.exit 0,yRw),(.ret,yIa)],(Unit⊕Int),fun k d=>yHv (DD k k) d,fun b x _ K=>match x with|.inl x=>K (.exit 0) (zN b yRw ((),()))|.inr x=>K .ret (zN b yIa (((x,()),()),()))⟩
def vAk:zZ:=⟨[],[(2,Zf)],[],false⟩
theorem vGf:zU prog 1000 0 19 (zR (zS f148) 0) Zf:=lp (A:=vAk) Zf (fun d=>match d with|.inl d=>.inl ()|.inr d=>.inr d.1.1.1) yHv DD DE (e1 ySz) zG
def vVn:=zJ 148 [.c (.dat false zH),.fn 299 [vD]] (.c .i) (fun k d=>(lj (TU k) d)) (fun x=>(x,()))
theorem vIm:zD prog vVn:=fA (rs:=.c .i) f148 vAk (fun d=>d.1) (e1 ySz) (qE vGf)
def vKi:=zJ 177 [.c (.dat false zH),.fn 299 [vD]] (.c .bool) (fun k d=>(lj (Mx k) d)) (fun x=>(x,()))
theorem vH9:zD prog vKi:=fA (rs:=.c .bool) f177 ⟨[],[],[],false⟩ (fun d=>d.1) (e1 vIm) zG
def Zg:=yK 298 [.agg vD,.ptr true [.map],.ptr false [.p (.dat false zH)]] (.c .bool) [[.map]] 0 (fun k d=>(OW (TX k) d)) (fun x=>(x.1,x.2,()))
theorem yJ2:zD prog Zg:=fX (rs:=.c .bool) (os:=[[.map]]) (ns:=0) f298 ⟨[],[],[],false⟩ 3 (fun d=>(d.1,d.2.1)) (e1 vH9) zG
def yNc:zF:=⟨[(1,.c (.lit (.fn 298 [1001000,1001002]))),(5,.c (.lit (.osl 1001003 none))),(8,.c (.dat false zH)),(9,.c .i),(10,.c .i)],[.box true [.lit (.map 1001001)],.imap,.robox [.dat false zH],.arr true zH],[(5,none,zH,false)]⟩
def yVb:zF:=⟨[(1,.c (.lit (.fn 298 [1001000,1001002]))),(5,.c (.lit (.osl 1001003 none)))],[.box true [.lit (.map 1001001)],.imap,.robox [.dat false zH],.arr true zH],[]⟩
def vAg (f:Zh)(d:yNc.den):=f d.1.2.2.1.1 d.1.2.2.2.1.1 d.1.2.2.2.2.1.1 d.2.2.1 d.2.2.2.1.1 d.2.2.2.2.1
def Zi:zV:=⟨[yNc],[(.exit 0,yVb)],Zj,fun k d=>vAg (DF k k) d,fun b x _ K=>K (.exit 0) (zN b yVb (((),(),()),((),x.1,(x.2.1,()),x.2.2,())))⟩
def qZ0:zZ:=⟨[],[(3,Zi)],[],false⟩
theorem vUi:zU prog 1000 2 23 (zR (zS f193) 0) Zi:=lp (A:=qZ0) Zi (fun d=>(d.2.2.1,d.2.2.2.1.1,d.2.2.2.2.1)) vAg DF DG (e1 yJ2) zG
def vG6:=yK 193 [.c (.p (.dat false zH)),.fn 298 [(true,[.map]),(false,[.p (.dat false zH)])]] (.c (.own zH)) [[.map]] 0 (fun k d=>TW k d.1 d.2.1 d.2.2.1) (fun x=>(x.1,x.2,()))
theorem vNj:zD prog vG6:=fX (rs:=.c (.own zH)) (os:=[[.map]]) (ns:=0) f193 qZ0 2 (fun d=>(d.1,d.2.1)) (e1 yJ2) (qE vUi)
def vNd:=zJ 290 [.c (.dat false zH),.c .i] (.c (.own zH)) (fun k d=>Ip k d.1 d.2.1) (fun x=>(x,()))
theorem JT:zD prog vNd:=fA (rs:=.c (.own zH)) f290 ⟨[],[],[],false⟩ (fun d=>d.1) (e2 AY vNj) zG
def vWr:=zJ 173 [.agg jJ,.agg vD] (.c .bool) (fun k d=>(rj (CR k) d)) (fun x=>(x,()))
theorem Zk:zD prog vWr:=fA (rs:=.c .bool) f173 ⟨[],[],[],false⟩ (fun d=>d.1) e0 zG
def vM6:=zJ 300 [.agg vD,.ptr jJ] (.c .bool) (fun k d=>(rj (TL k) d)) (fun x=>(x,()))
theorem yDz:zD prog vM6:=fA (rs:=.c .bool) f300 ⟨[],[],[],false⟩ (fun d=>d.1) (e1 Zk) zG
def yC4:zF:=⟨[(0,.c (.dat false zH)),(1,.c (.lit (.fn 300 [1001000]))),(7,.c .i),(8,.c .i)],[.robox jN],[]⟩
def yFl:zF:=⟨[],[],[]⟩
def yRf:zF:=⟨[(4,.c .i)],[],[]⟩
def yL8 (f:Zl)(d:yC4.den):=(yZ (f d.1.1.1 d.1.2.2.1.1 d.1.2.2.2.1.1) d.2.1)
def Zm:zV:=⟨[yC4],[(.exit 0,yFl),(.ret,yRf)],(Unit⊕Int),fun k d=>yL8 (Ig k k) d,fun b x _ K=>match x with|.inl x=>K (.exit 0) (zN b yFl ((),()))|.inr x=>K .ret (zN b yRf (((x,()),()),()))⟩
def yXh:zZ:=⟨[],[(2,Zm)],[],false⟩
theorem vO4:zU prog 1000 0 19 (zR (zS f148) 0) Zm:=lp (A:=yXh) Zm (fun d=>match d with|.inl d=>.inl ()|.inr d=>.inr d.1.1.1) yL8 Ig Du (e1 yDz) zG
def vR8:=zJ 148 [.c (.dat false zH),.fn 300 [jJ]] (.c .i) (fun k d=>(kC (TM k) d)) (fun x=>(x,()))
theorem vKd:zD prog vR8:=fA (rs:=.c .i) f148 yXh (fun d=>d.1) (e1 yDz) (qE vO4)
def vDu:=zJ 177 [.c (.dat false zH),.fn 300 [jJ]] (.c .bool) (fun k d=>(kC (Ms k) d)) (fun x=>(x,()))
theorem vB1:zD prog vDu:=fA (rs:=.c .bool) f177 ⟨[],[],[],false⟩ (fun d=>d.1) (e1 vKd) zG
def yX2:zF:=⟨[(4,.c (.lit (.ptr 1001000 0))),(5,.c (.lit (.ptr 1001001 0))),(15,.c (.dat false zH)),(16,.c .i),(17,.c .i)],[.box true [.lit .nsl,.lit .nsl,.lit .nsl],.box true Zn,.arr true .i,.arr true .i,.mat],[]⟩
def qZ5:zF:=⟨[(4,.c (.lit (.ptr 1001000 0))),(5,.c (.lit (.ptr 1001001 0)))],[.box true [.lit .nsl,.lit .nsl,.lit .nsl],.box true Zn,.arr true .i,.arr true .i,.mat],[]⟩
def yMv (f:Zo)(d:yX2.den):=f d.1.2.2.1.1 d.1.2.2.2.1.1 d.1.2.2.2.2.1.1 d.2.2.2.1 d.2.2.2.2.1 d.2.2.2.2.2.1
def Zp:zV:=⟨[yX2],[(.exit 0,qZ5)],Zq,fun k d=>yMv (Dh k k) d,fun b x _ K=>K (.exit 0) (zN b qZ5 (((),(),()),((),(),x.1,x.2.1,x.2.2,())))⟩
def yF4:zZ:=⟨[],[(3,Zp)],[],false⟩
theorem vZo:zU prog 1000 0 84 (zR (zS f292) 0) Zp:=lp (A:=yF4) Zp (fun d=>(d.2.2.2.1,d.2.2.2.2.1,d.2.2.2.2.2.1)) yMv Dh Dl (e2 AW JM) zG
def vJl:=zJ 292 [.c .i,.c (.dat false zH)] (.agg [.own .i,.own .i,.mat]) (fun k d=>Mn k d.1 d.2.1) (fun x=>(x.1,x.2.1,x.2.2,()))
theorem yYc:zD prog vJl:=fA (rs:=.agg [.own .i,.own .i,.mat]) f292 yF4 (fun d=>(d.1,d.2.1,d.2.2.1)) (e2 AW JM) (qE vZo)
def vNq:=zJ 293 [.agg vD,.ptr [.i]] (.c .bool) (fun k d=>(lj (TF k) d)) (fun x=>(x,()))
theorem yH5:zD prog vNq:=fA (rs:=.c .bool) f293 ⟨[],[],[],false⟩ (fun d=>d.1) e0 zG
def vBf:zF:=⟨[(0,.c (.dat false zH)),(1,.c (.lit (.fn 293 [1001000]))),(7,.c .i),(8,.c .i)],[.robox [.i]],[]⟩
def yX5:zF:=⟨[],[],[]⟩
def vA0:zF:=⟨[(4,.c .i)],[],[]⟩
def yBj (f:Zr)(d:vBf.den):=f d.1.1.1 d.1.2.2.1.1 d.1.2.2.2.1.1 d.2.1.1
def Zs:zV:=⟨[vBf],[(.exit 0,yX5),(.ret,vA0)],(Unit⊕Int),fun k d=>yBj (Ic k k) d,fun b x _ K=>match x with|.inl x=>K (.exit 0) (zN b yX5 ((),()))|.inr x=>K .ret (zN b vA0 (((x,()),()),()))⟩
def qZ1:zZ:=⟨[],[(2,Zs)],[],false⟩
theorem vHg:zU prog 1000 0 19 (zR (zS f148) 0) Zs:=lp (A:=qZ1) Zs (fun d=>match d with|.inl d=>.inl ()|.inr d=>.inr d.1.1.1) yBj Ic Dm (e1 yH5) zG
def vOc:=zJ 148 [.c (.dat false zH),.fn 293 [[.i]]] (.c .i) (fun k d=>TG k d.1 d.2.1) (fun x=>(x,()))
theorem vMq:zD prog vOc:=fA (rs:=.c .i) f148 qZ1 (fun d=>d.1) (e1 yH5) (qE vHg)
def vFb:=zJ 177 [.c (.dat false zH),.fn 293 [[.i]]] (.c .bool) (fun k d=>Mo k d.1 d.2.1) (fun x=>(x,()))
theorem yEd:zD prog vFb:=fA (rs:=.c .bool) f177 ⟨[],[],[],false⟩ (fun d=>d.1) (e1 vMq) zG
def yXt:zF:=⟨[(5,.c .i),(12,.c (.dat false .i)),(13,.c .i),(14,.c .i)],[],[]⟩
def yR7:zF:=⟨[(5,.c .i)],[],[]⟩
def yIu (f:Int→AC→Int→Int→Option Int)(d:yXt.den):=f d.1.1.1 d.1.2.1.1 d.1.2.2.1.1 d.1.2.2.2.1.1
def Zt:zV:=⟨[yXt],[(.exit 0,yR7)],Int,fun k d=>yIu (Dc k k) d,fun b x _ K=>K (.exit 0) (zN b yR7 (((x,()),()),()))⟩
def yMe:zZ:=⟨[],[(3,Zt)],[],false⟩
theorem vIa:zU prog 1000 0 23 (zR (zS f301) 0) Zt:=lp (A:=yMe) Zt (fun d=>d.1.1.1) yIu Dc Dd e0 zG
def vNg:=zJ 301 [.agg jJ,.c .i] (.c .i) (fun k d=>(kC (Mk k) d)) (fun x=>(x,()))
theorem yAo:zD prog vNg:=fA (rs:=.c .i) f301 yMe (fun d=>d.1) e0 (qE vIa)
def vTa:=zJ 302 [.c .i,.c .i] (.c .bool) (fun k d=>Dp k d.1 d.2.1) (fun x=>(x,()))
theorem Zu:zD prog vTa:=fA (rs:=.c .bool) f302 ⟨[],[],[],false⟩ (fun d=>d.1) e0 zG
def vW2:=zJ 303 [.agg vD,.ptr [.i],.ptr mM,.ptr OX,.ptr [.i],.ptr jJ] (.c .bool) (fun k d=>(vQd (TH k) d)) (fun x=>(x,()))
theorem yOc:zD prog vW2:=fA (rs:=.c .bool) f303 ⟨[],[],[],false⟩ (fun d=>d.1) (e2 OR Zu) zG
def yO5:zF:=⟨[(0,.c (.dat false zH)),(1,.c (.lit (.fn 303 [1001000,1001001,1001002,1001003,1001004]))),(7,.c .i),(8,.c .i)],[.robox [.i],.robox [.i,.i,.i],.robox Zv,.robox [.i],.robox jN],[]⟩
def yJg:zF:=⟨[],[],[]⟩
def yLh:zF:=⟨[(4,.c .i)],[],[]⟩
def yFp (f:Zw)(d:yO5.den):=(yZ (f d.1.1.1 d.1.2.2.1.1 d.1.2.2.2.1.1 d.2.1.1 d.2.2.1.1 d.2.2.1.2.1 d.2.2.1.2.2.1 d.2.2.2.1.1 d.2.2.2.1.2.1 d.2.2.2.1.2.2.1 d.2.2.2.2.1.1) d.2.2.2.2.2.1)
def Zx:zV:=⟨[yO5],[(.exit 0,yJg),(.ret,yLh)],(Unit⊕Int),fun k d=>yFp (Ie k k) d,fun b x _ K=>match x with|.inl x=>K (.exit 0) (zN b yJg ((),()))|.inr x=>K .ret (zN b yLh (((x,()),()),()))⟩
def qZk:zZ:=⟨[],[(2,Zx)],[],false⟩
theorem vGs:zU prog 1000 0 19 (zR (zS f148) 0) Zx:=lp (A:=qZk) Zx (fun d=>match d with|.inl d=>.inl ()|.inr d=>.inr d.1.1.1) yFp Ie Dq (e1 yOc) zG
def vV5:=zJ 148 [.c (.dat false zH),.fn 303 [[.i],mM,OX,[.i],jJ]] (.c .i) (fun k d=>(Zy (TI k) d)) (fun x=>(x,()))
theorem vGl:zD prog vV5:=fA (rs:=.c .i) f148 qZk (fun d=>d.1) (e1 yOc) (qE vGs)
def vOu:=zJ 177 [.c (.dat false zH),.fn 303 [[.i],mM,OX,[.i],jJ]] (.c .bool) (fun k d=>(Zy (Mp k) d)) (fun x=>(x,()))
theorem vBt:zD prog vOu:=fA (rs:=.c .bool) f177 ⟨[],[],[],false⟩ (fun d=>d.1) (e1 vGl) zG
def qZg:zF:=⟨[(3,.c (.dat false zH)),(4,.c (.lit (.ptr 1001000 0))),(5,.c (.lit (.ptr 1001001 0))),(6,.c (.lit (.ptr 1001002 0))),(9,.c (.lit (.ptr 1001003 0))),(10,.c (.lit (.ptr 1001004 0))),(11,.c .i),(39,.c (.dat false .i)),(40,.c .i),(41,.c .i)],[.box true Zv,.box true jN,.box true [.i],.box true [.i,.i,.i],.box true [.i]],[]⟩
def yMw:zF:=⟨[(3,.c (.dat false zH)),(4,.c (.lit (.ptr 1001000 0))),(5,.c (.lit (.ptr 1001001 0))),(6,.c (.lit (.ptr 1001002 0))),(9,.c (.lit (.ptr 1001003 0))),(10,.c (.lit (.ptr 1001004 0))),(11,.c .i)],[.box true Zv,.box true jN,.box true [.i],.box true [.i,.i,.i],.box true [.i]],[]⟩
def yEb (f:Zz)(d:qZg.den):=(yZ (f d.1.1.1 d.1.2.2.2.2.2.2.1.1 d.1.2.2.2.2.2.2.2.1.1 d.1.2.2.2.2.2.2.2.2.1.1 d.1.2.2.2.2.2.2.2.2.2.1.1 d.2.1.1 d.2.1.2.1 d.2.1.2.2.1) d.2.2.1) d.2.2.2.1.1 d.2.2.2.2.1.1 d.2.2.2.2.1.2.1 d.2.2.2.2.1.2.2.1 d.2.2.2.2.2.1.1
def ZA:zV:=⟨[qZg],[(.exit 0,yMw)],ZB,fun k d=>yEb (za k k) d,fun b x _ K=>K (.exit 0) (zN b yMw (((x.1,()),(),(),(),(),(),(x.2.1,()),()),((x.2.2.1,x.2.2.2.1,x.2.2.2.2.1,()),(vX7 x ()),(x.2.2.2.2.2.2.2.2.2.1,()),(x.2.2.2.2.2.2.2.2.2.2.1,x.2.2.2.2.2.2.2.2.2.2.2.1,x.2.2.2.2.2.2.2.2.2.2.2.2.1,()),(x.2.2.2.2.2.2.2.2.2.2.2.2.2,()),())))⟩
def yC6:zZ:=⟨[],[(7,ZA)],[],false⟩
theorem ZC:zU prog 1000 0 59 (zR (zS f294) 0) ZA:=lp (A:=yC6) ZA (fun d=>(d.1.1.1,d.1.2.2.2.2.2.2.1.1,d.2.1.1,d.2.1.2.1,d.2.1.2.2.1,(vP d.2.2.1 (d.2.2.2.1.1,d.2.2.2.2.1.1,d.2.2.2.2.1.2.1,d.2.2.2.2.1.2.2.1,d.2.2.2.2.2.1.1)))) yEb za Dr (e3 yAo Zu vBt) zG
def ZD:=zJ 294 [.agg OX,.agg jJ,.c .i,.c (.dat false zH)] (.c .bool) (fun k d=>(OW (Mr k) d)) (fun x=>(x,()))
theorem yD5:zD prog ZD:=fA (rs:=.c .bool) f294 yC6 (fun d=>d.1) (e3 yAo Zu vBt) (qE ZC)
def yQ3:zF:=⟨[(1,.c (.dat false zH)),(2,.c (.lit (.ptr 1001000 0))),(5,.c (.lit (.ptr 1001001 0))),(6,.c (.lit (.osl 1001005 none))),(16,.c .i),(17,.c .i)],[.box true jN,.box true Zn,.arr true .i,.arr true .i,.mat,.arr true .i],[(6,none,.i,false)]⟩
def yZ8:zF:=⟨[(6,.c (.lit (.osl 1001000 none)))],[.arr true .i],[]⟩
def yCy (f:ZE)(d:yQ3.den):=(yZ (f d.1.1.1 d.1.2.2.2.2.1.1 d.1.2.2.2.2.2.1.1) d.2.1) d.2.2.2.1 d.2.2.2.2.1 d.2.2.2.2.2.1 d.2.2.2.2.2.2.1
def ZF:zV:=⟨[yQ3],[(.exit 0,yZ8)],AC,fun k d=>yCy (Ds k k) d,fun b x _ K=>K (.exit 0) (zN b yZ8 (((),()),(x,())))⟩
def yFg:zZ:=⟨[],[(4,ZF)],[],false⟩
theorem vCj:zU prog 1000 0 37 (zR (zS f278) 0) ZF:=lp (A:=yFg) ZF (fun d=>d.2.1) yCy Ds Dt (e3 yYc yEd yD5) zG
def ZG:=zJ 278 [.agg jJ,.c (.dat false zH)] (.c (.own .i)) (fun k d=>(kC (zb k) d)) (fun x=>(x,()))
theorem JU:zD prog ZG:=fA (rs:=.c (.own .i)) f278 yFg (fun d=>d.1) (e3 yYc yEd yD5) (qE vCj)
def vRu:=zJ 291 [.agg jJ,.c (.dat false zH)] (.c .bool) (fun k d=>(kC (zc k) d)) (fun x=>(x,()))
theorem JV:zD prog vRu:=fA (rs:=.c .bool) f291 ⟨[],[],[],false⟩ (fun d=>d.1) (e2 vB1 JU) zG
def vXj:=zJ 283 [.agg vD,.ptr jJ] (.c .bool) (fun k d=>(rj (Tv k) d)) (fun x=>(x,()))
theorem yOk:zD prog vXj:=fA (rs:=.c .bool) f283 ⟨[],[],[],false⟩ (fun d=>d.1) (e1 Zk) zG
def yCu:zF:=⟨[(0,.c (.dat false zH)),(1,.c (.lit (.fn 283 [1001000]))),(7,.c .i),(8,.c .i)],[.robox jN],[]⟩
def vBc:zF:=⟨[],[],[]⟩
def qZv:zF:=⟨[(4,.c .i)],[],[]⟩
def yYk (f:ZH)(d:yCu.den):=(yZ (f d.1.1.1 d.1.2.2.1.1 d.1.2.2.2.1.1) d.2.1)
def ZI:zV:=⟨[yCu],[(.exit 0,vBc),(.ret,qZv)],(Unit⊕Int),fun k d=>yYk (HX k k) d,fun b x _ K=>match x with|.inl x=>K (.exit 0) (zN b vBc ((),()))|.inr x=>K .ret (zN b qZv (((x,()),()),()))⟩
def yYd:zZ:=⟨[],[(2,ZI)],[],false⟩
theorem vU3:zU prog 1000 0 19 (zR (zS f148) 0) ZI:=lp (A:=yYd) ZI (fun d=>match d with|.inl d=>.inl ()|.inr d=>.inr d.1.1.1) yYk HX CT (e1 yOk) zG
def vMw:=zJ 148 [.c (.dat false zH),.fn 283 [jJ]] (.c .i) (fun k d=>(kC (Tw k) d)) (fun x=>(x,()))
theorem vVj:zD prog vMw:=fA (rs:=.c .i) f148 yYd (fun d=>d.1) (e1 yOk) (qE vU3)
def vF6:=zJ 177 [.c (.dat false zH),.fn 283 [jJ]] (.c .bool) (fun k d=>(kC (LZ k) d)) (fun x=>(x,()))
theorem yVu:zD prog vF6:=fA (rs:=.c .bool) f177 ⟨[],[],[],false⟩ (fun d=>d.1) (e1 vVj) zG
def vG1:=zJ 160 [.agg mM] (.c .bool) (fun k d=>Te k d.1 d.2.1 d.2.2.1) (fun x=>(x,()))
theorem yTi:zD prog vG1:=fA (rs:=.c .bool) f160 ⟨[],[],[],false⟩ (fun d=>d.1) (e1 yHz) zG
def yCk:zF:=⟨[(0,.c (.dat false qX)),(1,.c (.lit (.fn 160 []))),(7,.c .i),(8,.c .i)],[],[]⟩
def yMd:zF:=⟨[],[],[]⟩
def yDe:zF:=⟨[(4,.c .i)],[],[]⟩
def yQe (f:ZJ)(d:yCk.den):=f d.1.1.1 d.1.2.2.1.1 d.1.2.2.2.1.1
def ZK:zV:=⟨[yCk],[(.exit 0,yMd),(.ret,yDe)],(Unit⊕Int),fun k d=>yQe (HF k k) d,fun b x _ K=>match x with|.inl x=>K (.exit 0) (zN b yMd ((),()))|.inr x=>K .ret (zN b yDe (((x,()),()),()))⟩
def yD1:zZ:=⟨[],[(2,ZK)],[],false⟩
theorem vRx:zU prog 1000 0 19 (zR (zS f218) 0) ZK:=lp (A:=yD1) ZK (fun d=>match d with|.inl d=>.inl ()|.inr d=>.inr d.1.1.1) yQe HF CE (e1 yTi) zG
def ZL:=zJ 218 [.c (.dat false qX),.c (.fn 160)] (.c .i) (fun k d=>Tf k d.1) (fun x=>(x,()))
theorem vDk:zD prog ZL:=fA (rs:=.c .i) f218 yD1 (fun d=>d.1) (e1 yTi) (qE vRx)
def vV9:=zJ 162 [.c (.dat false qX),.c (.fn 160)] (.c .bool) (fun k d=>LP k d.1) (fun x=>(x,()))
theorem vCd:zD prog vV9:=fA (rs:=.c .bool) f162 ⟨[],[],[],false⟩ (fun d=>d.1) (e1 vDk) zG
def vMi:=zJ 164 [.c .i] (.c .bool) (fun k d=>Tb k d.1) (fun x=>(x,()))
theorem vEj:zD prog vMi:=fA (rs:=.c .bool) f164 ⟨[],[],[],false⟩ (fun d=>d.1) e0 zG
def vYv:=zJ 219 [.c .i,.ptr [.fn 164]] (.c .bool) (fun k d=>Tg k d.1) (fun x=>(x,()))
theorem yWg:zD prog vYv:=fA (rs:=.c .bool) f219 ⟨[],[],[],false⟩ (fun d=>d.1) (e1 vEj) zG
def yNb:zF:=⟨[(0,.c (.dat false .i)),(1,.c (.lit (.fn 219 [1001000]))),(7,.c .i),(8,.c .i)],[.robox [.lit (.fn 164 [])]],[]⟩
def yJk:zF:=⟨[],[],[]⟩
def ySy:zF:=⟨[(4,.c .i)],[],[]⟩
def yO9 (f:ZM)(d:yNb.den):=f d.1.1.1 d.1.2.2.1.1 d.1.2.2.2.1.1
def ZN:zV:=⟨[yNb],[(.exit 0,yJk),(.ret,ySy)],(Unit⊕Int),fun k d=>yO9 (HG k k) d,fun b x _ K=>match x with|.inl x=>K (.exit 0) (zN b yJk ((),()))|.inr x=>K .ret (zN b ySy (((x,()),()),()))⟩
def yUd:zZ:=⟨[],[(2,ZN)],[],false⟩
theorem vEf:zU prog 1000 0 19 (zR (zS f220) 0) ZN:=lp (A:=yUd) ZN (fun d=>match d with|.inl d=>.inl ()|.inr d=>.inr d.1.1.1) yO9 HG CF (e1 yWg) zG
def ZO:=zJ 220 [.c (.dat false .i),.fn 219 [[.fn 164]]] (.c .i) (fun k d=>Th k d.1) (fun x=>(x,()))
theorem vNx:zD prog ZO:=fA (rs:=.c .i) f220 yUd (fun d=>d.1) (e1 yWg) (qE vEf)
def vT3:=zJ 168 [.c (.dat false .i),.fn 219 [[.fn 164]]] (.c .bool) (fun k d=>LQ k d.1) (fun x=>(x,()))
theorem vMr:zD prog vT3:=fA (rs:=.c .bool) f168 ⟨[],[],[],false⟩ (fun d=>d.1) (e1 vNx) zG
def vGo:=zJ 165 [.c (.dat false .i),.c .i,.c (.fn 164)] (.c .bool) (fun k d=>HI k d.1 d.2.1) (fun x=>(x,()))
theorem ZP:zD prog vGo:=fA (rs:=.c .bool) f165 ⟨[],[],[],false⟩ (fun d=>d.1) (e1 vMr) zG
def yKx:zF:=⟨[(1,.c .i),(2,.c (.lit (.fn 164 []))),(13,.c (.dat false (.sl .i))),(14,.c .i),(15,.c .i)],[],[]⟩
def yEk:zF:=⟨[],[],[]⟩
def yZy:zF:=⟨[(6,.c .bool)],[],[]⟩
def yR3 (f:ZQ)(d:yKx.den):=f d.1.1.1 d.1.2.2.1.1 d.1.2.2.2.1.1 d.1.2.2.2.2.1.1
def ZR:zV:=⟨[yKx],[(.exit 0,yEk),(.ret,yZy)],(Unit⊕Bool),fun k d=>yR3 (HJ k k) d,fun b x _ K=>match x with|.inl x=>K (.exit 0) (zN b yEk ((),()))|.inr x=>K .ret (zN b yZy (((x,()),()),()))⟩
def yYb:zZ:=⟨[],[(4,ZR)],[],false⟩
theorem vJg:zU prog 1000 0 25 (zR (zS f163) 0) ZR:=lp (A:=yYb) ZR (fun d=>match d with|.inl d=>.inl ()|.inr d=>.inr d.1.1.1) yR3 HJ CH (e1 ZP) zG
def vSu:=zJ 163 [.c (.dat false (.sl .i)),.c .i,.c (.fn 164)] (.c .bool) (fun k d=>LU k d.1 d.2.1) (fun x=>(x,()))
theorem vK7:zD prog vSu:=fA (rs:=.c .bool) f163 yYb (fun d=>d.1) (e1 ZP) (qE vJg)
def vDq:=zJ 166 [.c .i] (.c .bool) (fun k d=>LN k d.1) (fun x=>(x,()))
theorem vSj:zD prog vDq:=fA (rs:=.c .bool) f166 ⟨[],[],[],false⟩ (fun d=>d.1) e0 zG
def vPk:=zJ 219 [.c .i,.ptr [.fn 166]] (.c .bool) (fun k d=>Ti k d.1) (fun x=>(x,()))
theorem yW2:zD prog vPk:=fA (rs:=.c .bool) f219 ⟨[],[],[],false⟩ (fun d=>d.1) (e1 vSj) zG
def yRi:zF:=⟨[(0,.c (.dat false .i)),(1,.c (.lit (.fn 219 [1001000]))),(7,.c .i),(8,.c .i)],[.robox [.lit (.fn 166 [])]],[]⟩
def yS2:zF:=⟨[],[],[]⟩
def yR8:zF:=⟨[(4,.c .i)],[],[]⟩
def yWh (f:ZS)(d:yRi.den):=f d.1.1.1 d.1.2.2.1.1 d.1.2.2.2.1.1
def ZT:zV:=⟨[yRi],[(.exit 0,yS2),(.ret,yR8)],(Unit⊕Int),fun k d=>yWh (HH k k) d,fun b x _ K=>match x with|.inl x=>K (.exit 0) (zN b yS2 ((),()))|.inr x=>K .ret (zN b yR8 (((x,()),()),()))⟩
def yY7:zZ:=⟨[],[(2,ZT)],[],false⟩
theorem vLx:zU prog 1000 0 19 (zR (zS f220) 0) ZT:=lp (A:=yY7) ZT (fun d=>match d with|.inl d=>.inl ()|.inr d=>.inr d.1.1.1) yWh HH CG (e1 yW2) zG
def vGv:=zJ 220 [.c (.dat false .i),.fn 219 [[.fn 166]]] (.c .i) (fun k d=>Tj k d.1) (fun x=>(x,()))
theorem vI9:zD prog vGv:=fA (rs:=.c .i) f220 yY7 (fun d=>d.1) (e1 yW2) (qE vLx)
def vJi:=zJ 168 [.c (.dat false .i),.fn 219 [[.fn 166]]] (.c .bool) (fun k d=>LR k d.1) (fun x=>(x,()))
theorem ZU:zD prog vJi:=fA (rs:=.c .bool) f168 ⟨[],[],[],false⟩ (fun d=>d.1) (e1 vI9) zG
def vZ8:=zJ 165 [.c (.dat false .i),.c .i,.c (.fn 166)] (.c .bool) (fun k d=>LS k d.1 d.2.1) (fun x=>(x,()))
theorem yKc:zD prog vZ8:=fA (rs:=.c .bool) f165 ⟨[],[],[],false⟩ (fun d=>d.1) (e1 ZU) zG
def yP8:zF:=⟨[(1,.c .i),(2,.c (.lit (.fn 166 []))),(13,.c (.dat false (.sl .i))),(14,.c .i),(15,.c .i)],[],[]⟩
def yGg:zF:=⟨[],[],[]⟩
def yOu:zF:=⟨[(6,.c .bool)],[],[]⟩
def yAt (f:ZV)(d:yP8.den):=f d.1.1.1 d.1.2.2.1.1 d.1.2.2.2.1.1 d.1.2.2.2.2.1.1
def ZW:zV:=⟨[yP8],[(.exit 0,yGg),(.ret,yOu)],(Unit⊕Bool),fun k d=>yAt (HK k k) d,fun b x _ K=>match x with|.inl x=>K (.exit 0) (zN b yGg ((),()))|.inr x=>K .ret (zN b yOu (((x,()),()),()))⟩
def yEt:zZ:=⟨[],[(4,ZW)],[],false⟩
theorem vX9:zU prog 1000 0 25 (zR (zS f163) 0) ZW:=lp (A:=yEt) ZW (fun d=>match d with|.inl d=>.inl ()|.inr d=>.inr d.1.1.1) yAt HK CI (e1 yKc) zG
def vTy:=zJ 163 [.c (.dat false (.sl .i)),.c .i,.c (.fn 166)] (.c .bool) (fun k d=>LV k d.1 d.2.1) (fun x=>(x,()))
theorem vDl:zD prog vTy:=fA (rs:=.c .bool) f163 yEt (fun d=>d.1) (e1 yKc) (qE vX9)
def yE3:zF:=⟨[(0,.c (.dat false (.sl .i))),(3,.c .i),(7,.c (.dat false (.sl .i))),(8,.c .i),(9,.c .i),(14,.c (.dat false .i)),(15,.c .i),(16,.c .i)],[],[]⟩
def yTu:zF:=⟨[(0,.c (.dat false (.sl .i))),(7,.c (.dat false (.sl .i))),(8,.c .i),(9,.c .i)],[],[]⟩
def yY2:zF:=⟨[(2,.c .bool)],[],[]⟩
def yGa (f:ZX)(d:yE3.den):=f d.1.1.1 d.1.2.1.1 d.1.2.2.1.1 d.1.2.2.2.1.1 d.1.2.2.2.2.1.1 d.1.2.2.2.2.2.1.1 d.1.2.2.2.2.2.2.1.1 d.1.2.2.2.2.2.2.2.1.1
def ZY:zV:=⟨[yE3],[(.exit 2,yTu),(.ret,yY2)],ZZ,fun k d=>yGa (CJ k k) d,fun b x _ K=>match x with|.inl x=>K (.exit 2) (zN b yTu (((x.1,()),(x.2.1,()),(x.2.2.1,()),(x.2.2.2,()),()),()))|.inr x=>K .ret (zN b yY2 (((x,()),()),()))⟩
def yG1:zF:=⟨[(0,.c (.dat false (.sl .i))),(7,.c (.dat false (.sl .i))),(8,.c .i),(9,.c .i)],[],[]⟩
def yWr:zF:=⟨[],[],[]⟩
def yUv:zF:=⟨[(2,.c .bool)],[],[]⟩
def qZb (f:Z0)(d:yG1.den):=f d.1.1.1 d.1.2.1.1 d.1.2.2.1.1 d.1.2.2.2.1.1
def Z1:zV:=⟨[yG1],[(.exit 0,yWr),(.ret,yUv)],(Unit⊕Bool),fun k d=>qZb (HL k k) d,fun b x _ K=>match x with|.inl x=>K (.exit 0) (zN b yWr ((),()))|.inr x=>K .ret (zN b yUv (((x,()),()),()))⟩
def Z2:zZ:=⟨[],[(5,ZY),(2,Z1)],[],false⟩
theorem vCs:zU prog 1000 0 33 (zR (zR (zS f167) 0) 0) ZY:=lp (A:=Z2) ZY (fun d=>match d with|.inl d=>.inl (d.1.1.1,d.1.2.1.1,d.1.2.2.1.1,d.1.2.2.2.1.1)|.inr d=>.inr d.1.1.1) yGa CJ CK e0 zG
theorem Z3:zU prog 1000 0 33 (zR (zS f167) 0) Z1:=lp (A:=Z2) Z1 (fun d=>match d with|.inl d=>.inl ()|.inr d=>.inr d.1.1.1) qZb HL CL e0 (qE vCs)
def vLp:=zJ 167 [.c (.dat false (.sl .i))] (.c .bool) (fun k d=>LW k d.1) (fun x=>(x,()))
theorem vEv:zD prog vLp:=fA (rs:=.c .bool) f167 Z2 (fun d=>d.1) e0 (qE Z3)
def vJk:=zJ 108 [.agg jJ] (.c .bool) (fun k d=>(yZ (HM k) d)) (fun x=>(x,()))
theorem OY:zD prog vJk:=fA (rs:=.c .bool) f108 ⟨[],[],[],false⟩ (fun d=>d.1) (e5 vCd vK7 ZP vDl vEv) zG
def yMz:zF:=⟨[(2,.c (.lit (.ptr 1001000 0))),(4,.c (.lit (.ptr 1001001 0))),(7,.c (.lit (.ptr 1001002 0))),(24,.c (.dat false zH)),(25,.c .i),(26,.c .i)],[.box true vV,.box true mN,.box true qy,.arr true qX,.mat,.arr true .i,.mat],[]⟩
def yUq:zF:=⟨[(2,.c (.lit (.ptr 1001000 0))),(4,.c (.lit (.ptr 1001001 0))),(7,.c (.lit (.ptr 1001002 0)))],[.box true vV,.box true mN,.box true qy,.arr true qX,.mat,.arr true .i,.mat],[]⟩
def vAl (f:Z4)(d:yMz.den):=(yZ (f d.1.2.2.2.1.1 d.1.2.2.2.2.1.1 d.1.2.2.2.2.2.1.1) d.2.1) d.2.2.2.2.1 d.2.2.2.2.2.1 d.2.2.2.2.2.2.1 d.2.2.2.2.2.2.2.1
def Z5:zV:=⟨[yMz],[(.exit 0,yUq)],Z6,fun k d=>vAl (CW k k) d,fun b x _ K=>K (.exit 0) (zN b yUq (((),(),(),()),((vP x ()),(),(),x.2.2.2.2.1,x.2.2.2.2.2.1,x.2.2.2.2.2.2.1,x.2.2.2.2.2.2.2,())))⟩
def yH9:zZ:=⟨[],[(6,Z5)],[],false⟩
theorem vZt:zU prog 1000 0 104 (zR (zS f253) 0) Z5:=lp (A:=yH9) Z5 (fun d=>(vP d.2.1 (d.2.2.2.2.1,d.2.2.2.2.2.1,d.2.2.2.2.2.2.1,d.2.2.2.2.2.2.2.1))) vAl CW CX (e4 yVu nO OR OY) zG
def vUa:=zJ 253 [.agg ke,.c (.dat false zH)] (.tup [(true,jC),(false,qI)]) (fun k d=>(kC (oI k) d)) (fun x=>(wS x ()))
theorem AZ:zD prog vUa:=fA (rs:=.tup [(true,jC),(false,qI)]) f253 yH9 (fun d=>(yF d)) (e4 yVu nO OR OY) (qE vZt)
def yJc:zF:=⟨[(3,.c (.lit (.ptr 1001000 0))),(6,.c (.lit (.ptr 1001001 0))),(7,.c (.lit (.ptr 1001002 0))),(15,.c (.lit (.osl 1001003 none))),(16,.c .i),(17,.c .i)],[.box true vV,.box true wL,.box true mN,.arr true zH],[]⟩
def yTf:zF:=⟨[(3,.c (.lit (.ptr 1001000 0))),(6,.c (.lit (.ptr 1001001 0))),(7,.c (.lit (.ptr 1001002 0)))],[.box true vV,.box true wL,.box true mN],[]⟩
def yI6:zF:=⟨[(6,.c (.lit (.ptr 1001000 0))),(7,.c (.lit (.ptr 1001001 0))),(8,.c .bool)],[.box true wL,.box true vV],[]⟩
def qZp (f:Z7)(d:yJc.den):=(lk (yZ (f d.1.2.2.2.2.1.1 d.1.2.2.2.2.2.1.1) d.2.1) d.2.2.1) d.2.2.2.2.1
def Z8:zV:=⟨[yJc],[(.exit 0,yTf),(.ret,yI6)],Z9,fun k d=>qZp (ID k k) d,fun b x _ K=>match x with|.inl x=>K (.exit 0) (zN b yTf (((),(),(),()),((vP x ()),(qX4 x ()),(),())))|.inr x=>K .ret (zN b yI6 (((),(),(x.1,()),()),((qPy x ()),(vGu x ()),())))⟩
def yWs:zZ:=⟨[],[(2,Z8)],[],false⟩
theorem vI1:zU prog 1000 0 40 (zR (zS f276) 0) Z8:=lp (A:=yWs) Z8 (fun d=>match d with|.inl d=>.inl (vP d.2.1 (wD d.2.2.1))|.inr d=>.inr (d.1.2.2.1.1,(iR d.2.1 (wK d.2.2.1)))) qZp ID Ea (e3 JT JV AZ) zG
def vQq:=zJ 276 [.agg ke,.c (.dat true zH),.c .i] (.tup [(true,fQ),(true,jC),(false,[.bool])]) (fun k d=>(iU (MO k) d)) (fun x=>(AV x ()))
theorem qZh:zD prog vQq:=fA (rs:=.tup [(true,fQ),(true,jC),(false,[.bool])]) f276 yWs (fun d=>(wu d)) (e3 JT JV AZ) (qE vI1)
def yK5:zF:=⟨[(2,.c .i),(6,.c (.lit (.ptr 1001000 0))),(7,.c (.dat true zH)),(8,.c (.lit (.osl 1001001 none)))],[.box true vV,.arr true zH],[(8,none,zH,false)]⟩
def yBx:zF:=⟨[(6,.c (.lit (.ptr 1001000 0))),(7,.c (.dat true zH)),(8,.c (.lit (.osl 1001001 none)))],[.box true vV,.arr true zH],[]⟩
def yGk (f:qL9)(d:yK5.den):=(yZ (f d.1.1.1 d.1.2.2.1.1) d.2.1) d.2.2.1
def qJl:zV:=⟨[yK5],[(.ret,yBx)],qOo,fun k d=>yGk (IE k k) d,fun b x _ K=>K .ret (zN b yBx (((),(x.1,()),(),()),((gH x ()),x.2.2.2.2.2,())))⟩
def yJ4:zZ:=⟨[],[(2,qJl)],[],false⟩
theorem vSq:zU prog 1000 0 40 (zR (zS f248) 0) qJl:=lp (A:=yJ4) qJl (fun d=>(d.1.2.1.1,(vP d.2.1 d.2.2.1))) yGk IE Ec (e2 qZh oV) zG
def vEh:=zJ 248 [.agg ke,.c (.dat true zH),.c .i] (.tup [(true,jC),(false,vK),(false,[.own zH])]) (fun k d=>(iU (MP k) d)) (fun x=>(mO x ()))
theorem yPs:zD prog vEh:=fA (rs:=.tup [(true,jC),(false,vK),(false,[.own zH])]) f248 yJ4 (fun d=>(mb d)) (e2 qZh oV) (qE vSq)
def yKm:zF:=⟨[(3,.c (.lit (.ptr 1001000 0))),(6,.c (.lit (.ptr 1001001 0))),(8,.c (.lit (.osl 1001002 none))),(10,.c (.lit (.ptr 1001003 0))),(18,.c (.lit (.osl 1001002 none))),(19,.c .i),(20,.c .i),(24,.c (.lit (.osl 1001002 none))),(25,.c .i),(26,.c .i)],[.box true vV,.box true OZ,.arr true zH,.box true wL],[]⟩
def yQs:zF:=⟨[(3,.c (.lit (.ptr 1001000 0))),(6,.c (.lit (.ptr 1001001 0))),(8,.c (.lit (.osl 1001002 none))),(18,.c (.lit (.osl 1001002 none))),(19,.c .i),(20,.c .i)],[.box true vV,.box true OZ,.arr true zH],[]⟩
def yUr:zF:=⟨[(6,.c (.lit (.ptr 1001000 0))),(7,.c .bool)],[.box true yAa],[]⟩
def yMg (f:qMr)(d:yKm.den):=(lk ((FP (yZ (f d.1.2.2.2.2.2.1.1 d.1.2.2.2.2.2.2.1.1 d.1.2.2.2.2.2.2.2.2.1.1 d.1.2.2.2.2.2.2.2.2.2.1.1) d.2.1) d.2.2.1) d.2.2.2.1) d.2.2.2.2.1)
def qYd:zV:=⟨[yKm],[(.exit 2,yQs),(.ret,yUr)],qJe,fun k d=>yMg (IF k k) d,fun b x _ K=>match x with|.inl x=>K (.exit 2) (zN b yQs (((),(),(),(),(x.1,()),(x.2.1,()),()),((OG x ()),(vZ1 x ()),x.2.2.2.2.2.2.2.2.2.2.2.2.2.2.2.2.2.2.2.2,())))|.inr x=>K .ret (zN b yUr (((),(x.1,()),()),((qKh x ()),())))⟩
def yEj:zF:=⟨[(3,.c (.lit (.ptr 1001000 0))),(6,.c (.lit (.ptr 1001001 0))),(8,.c (.lit (.osl 1001002 none))),(18,.c (.lit (.osl 1001002 none))),(19,.c .i),(20,.c .i)],[.box true vV,.box true OZ,.arr true zH],[]⟩
def yS0:zF:=⟨[(6,.c (.lit (.ptr 1001000 0)))],[.box true OZ],[]⟩
def yLg:zF:=⟨[(6,.c (.lit (.ptr 1001000 0))),(7,.c .bool)],[.box true yAa],[]⟩
def yG4 (f:qNo)(d:yEj.den):=(FP (yZ (f d.1.2.2.2.2.1.1 d.1.2.2.2.2.2.1.1) d.2.1) d.2.2.1) d.2.2.2.1
def qRz:zV:=⟨[yEj],[(.exit 0,yS0),(.ret,yLg)],qId,fun k d=>yG4 (IH k k) d,fun b x _ K=>match x with|.inl x=>K (.exit 0) (zN b yS0 (((),()),((O0 x ()),())))|.inr x=>K .ret (zN b yLg (((),(x.1,()),()),((qKh x ()),())))⟩
def qTo:zZ:=⟨[],[(6,qYd),(3,qRz)],[],false⟩
theorem vZr:zU prog 1000 0 74 (zR (zR (zS f277) 0) 0) qYd:=lp (A:=qTo) qYd (fun d=>match d with|.inl d=>.inl (d.1.2.2.2.2.1.1,d.1.2.2.2.2.2.1.1,(vP d.2.1 (qLf d.2.2.1 d.2.2.2.1)))|.inr d=>.inr (d.1.2.1.1,(jQ d.2.1))) yMg IF Ef (e3 JT JV AZ) zG
theorem vTe:zU prog 1000 0 74 (zR (zS f277) 0) qRz:=lp (A:=qTo) qRz (fun d=>match d with|.inl d=>.inl (qMq d.2.1)|.inr d=>.inr (d.1.2.1.1,(jQ d.2.1))) yG4 IH Eg (e3 JT JV AZ) (qE vZr)
def vRo:=zJ 277 [.agg ke,.c (.dat true zH),.c .i] (.tup [(true,yTw),(false,[.bool])]) (fun k d=>(iU (MR k) d)) (fun x=>(wi x ()))
theorem qR7:zD prog vRo:=fA (rs:=.tup [(true,yTw),(false,[.bool])]) f277 qTo (fun d=>(O1 d)) (e3 JT JV AZ) (qE vTe)
def yKj:zF:=⟨[(2,.c .i),(6,.c (.lit (.ptr 1001000 0))),(7,.c (.dat true zH)),(8,.c (.lit (.osl 1001001 none))),(33,.c (.lit (.osl 1001002 none))),(34,.c .i),(35,.c .i)],[.box true vV,.arr true zH,.arr true zH],[(8,none,zH,false)]⟩
def yPf:zF:=⟨[(2,.c .i),(6,.c (.lit (.ptr 1001000 0))),(7,.c (.dat true zH)),(8,.c (.lit (.osl 1001001 none)))],[.box true vV,.arr true zH],[]⟩
def ySm (f:qOn)(d:yKj.den):=(yZ (f d.1.1.1 d.1.2.2.1.1 d.1.2.2.2.2.2.1.1 d.1.2.2.2.2.2.2.1.1) d.2.1) d.2.2.1 d.2.2.2.1
def qQz:zV:=⟨[yKj],[(.exit 2,yPf)],qK9,fun k d=>ySm (sY k k) d,fun b x _ K=>K (.exit 2) (zN b yPf (((x.1,()),(),(x.2.1,()),(),()),((OG x ()),x.2.2.2.2.2.2,())))⟩
def yF8:zF:=⟨[(2,.c .i),(6,.c (.lit (.ptr 1001000 0))),(7,.c (.dat true zH)),(8,.c (.lit (.osl 1001001 none)))],[.box true vV,.arr true zH],[(8,none,zH,false)]⟩
def yEs:zF:=⟨[(6,.c (.lit (.ptr 1001000 0))),(7,.c (.dat true zH)),(8,.c (.lit (.osl 1001001 none)))],[.box true vV,.arr true zH],[]⟩
def yZ0 (f:qIt)(d:yF8.den):=(yZ (f d.1.1.1 d.1.2.2.1.1) d.2.1) d.2.2.1
def qK7:zV:=⟨[yF8],[(.ret,yEs)],qHf,fun k d=>yZ0 (II k k) d,fun b x _ K=>K .ret (zN b yEs (((),(x.1,()),(),()),((gH x ()),x.2.2.2.2.2,())))⟩
def qTz:zZ:=⟨[],[(7,qQz),(2,qK7)],[],false⟩
theorem vLd:zU prog 1000 0 52 (zR (zR (zS f249) 0) 0) qQz:=lp (A:=qTz) qQz (fun d=>(d.1.1.1,d.1.2.2.1.1,(vP d.2.1 d.2.2.1))) ySm sY uZ (e2 qR7 oV) zG
theorem vHr:zU prog 1000 0 52 (zR (zS f249) 0) qK7:=lp (A:=qTz) qK7 (fun d=>(d.1.2.1.1,(vP d.2.1 d.2.2.1))) yZ0 II Eh (e2 qR7 oV) (qE vLd)
def vH2:=zJ 249 [.agg ke,.c (.dat true zH),.c .i] (.tup [(true,jC),(false,vK),(false,[.own zH])]) (fun k d=>(iU (MS k) d)) (fun x=>(mO x ()))
theorem yGe:zD prog vH2:=fA (rs:=.tup [(true,jC),(false,vK),(false,[.own zH])]) f249 qTz (fun d=>(mb d)) (e2 qR7 oV) (qE vHr)
def yYa:zF:=⟨[(2,.c .i),(6,.c (.lit (.ptr 1001000 0))),(7,.c (.dat true zH)),(8,.c (.lit (.osl 1001001 none)))],[.box true vV,.arr true zH],[(8,none,zH,false)]⟩
def yFh:zF:=⟨[(6,.c (.lit (.ptr 1001000 0))),(7,.c (.dat true zH)),(8,.c (.lit (.osl 1001001 none)))],[.box true vV,.arr true zH],[]⟩
def yJ6 (f:qHv)(d:yYa.den):=(yZ (f d.1.1.1 d.1.2.2.1.1) d.2.1) d.2.2.1
def qRt:zV:=⟨[yYa],[(.ret,yFh)],qJa,fun k d=>yJ6 (IQ k k) d,fun b x _ K=>K .ret (zN b yFh (((),(x.1,()),(),()),((gH x ()),x.2.2.2.2.2,())))⟩
def yEa:zZ:=⟨[],[(2,qRt)],[],false⟩
theorem vF3:zU prog 1000 0 40 (zR (zS f212) 0) qRt:=lp (A:=yEa) qRt (fun d=>(d.1.2.1.1,(vP d.2.1 d.2.2.1))) yJ6 IQ M3 (e2 yPs yGe) zG
def vHn:=zJ 212 [.agg ke,.c (.dat true zH),.c .i] (.tup [(true,jC),(false,vK),(false,[.own zH])]) (fun k d=>(iU (IS k) d)) (fun x=>(mO x ()))
theorem vXq:zD prog vHn:=fA (rs:=.tup [(true,jC),(false,vK),(false,[.own zH])]) f212 yEa (fun d=>(mb d)) (e2 yPs yGe) (qE vF3)
def vSo:=uH 279 false .i (.own .i) Ul
theorem vD5:zD prog vSo:=fC f279 ⟨[],[],[],false⟩ e0 zG
def vEb:=yK 280 [.agg vD,.ptr true [.own .i]] (.c .bool) [nM] 0 (fun k d=>(lj (Un k) d)) (fun x=>(x.1,x.2,()))
theorem yY3:zD prog vEb:=fX (rs:=.c .bool) (os:=[nM]) (ns:=0) f280 ⟨[],[],[],false⟩ 2 (fun d=>(d.1,d.2.1)) e0 zG
def yWd:zF:=⟨[(1,.c (.lit (.fn 280 [1001000]))),(5,.c (.lit (.osl 1001002 none))),(8,.c (.dat false zH)),(9,.c .i),(10,.c .i)],[.box true [.lit (.osl 1001001 none)],.arr true .i,.arr true zH],[(5,none,zH,false)]⟩
def yFv:zF:=⟨[(1,.c (.lit (.fn 280 [1001000]))),(5,.c (.lit (.osl 1001002 none)))],[.box true [.lit (.osl 1001001 none)],.arr true .i,.arr true zH],[]⟩
def yFe (f:qL2)(d:yWd.den):=f d.1.2.2.1.1 d.1.2.2.2.1.1 d.1.2.2.2.2.1.1 d.2.2.1 d.2.2.2.1
def qR0:zV:=⟨[yWd],[(.exit 0,yFv)],qTb,fun k d=>yFe (Ek k k) d,fun b x _ K=>K (.exit 0) (zN b yFv (((),(),()),((),x.1,x.2,())))⟩
def yJ5:zZ:=⟨[],[(3,qR0)],[],false⟩
theorem vR6:zU prog 1000 2 23 (zR (zS f193) 0) qR0:=lp (A:=yJ5) qR0 (fun d=>(d.2.2.1,d.2.2.2.1)) yFe Ek El (e1 yY3) zG
def aaa:=yK 193 [.c (.p (.dat false zH)),.fn 280 [(true,[.own .i])]] (.c (.own zH)) [nM] 0 (fun k d=>Um k d.1 d.2.1) (fun x=>(x.1,x.2,()))
theorem vNm:zD prog aaa:=fX (rs:=.c (.own zH)) (os:=[nM]) (ns:=0) f193 yJ5 2 (fun d=>(d.1,d.2.1)) (e1 yY3) (qE vR6)
def vFq:=zJ 251 [.c (.dat false zH),.c (.dat false .i)] (.c (.own zH)) (fun k d=>Ej k d.1 d.2.1) (fun x=>(x,()))
theorem FV:zD prog vFq:=fA (rs:=.c (.own zH)) f251 ⟨[],[],[],false⟩ (fun d=>d.1) (e2 vD5 vNm) zG
def vAs:zF:=⟨[(3,.c (.lit (.ptr 1001000 0))),(6,.c (.lit (.osl 1001001 none))),(7,.c .i),(8,.c (.lit (.osl 1001002 none))),(18,.c .i),(19,.c .i)],[.box true jN,.arr true .i,.arr true zH],[(6,none,.i,false)]⟩
def yN1:zF:=⟨[(3,.c (.lit (.ptr 1001000 0))),(6,.c (.lit (.osl 1001001 none))),(7,.c .i),(8,.c (.lit (.osl 1001002 none)))],[.box true jN,.arr true .i,.arr true zH],[]⟩
def vA4 (f:qJ0)(d:vAs.den):=(yZ (f d.1.2.2.1.1 d.1.2.2.2.2.1.1 d.1.2.2.2.2.2.1.1) d.2.1) d.2.2.1 d.2.2.2.1
def O2:zV:=⟨[vAs],[(.exit 0,yN1)],qI7,fun k d=>vA4 (zn k k) d,fun b x _ K=>K (.exit 0) (zN b yN1 (((),(),(x.1,()),(),()),((gH x ()),x.2.2.2.2.2.1,x.2.2.2.2.2.2,())))⟩
def yNr:zF:=⟨[(3,.c (.lit (.ptr 1001000 0))),(6,.c (.lit (.osl 1001001 none))),(7,.c .i),(8,.c (.lit (.osl 1001002 none))),(42,.c (.lit (.osl 1001003 none))),(43,.c .i),(44,.c .i)],[.box true jN,.arr true .i,.arr true zH,.arr true .i],[]⟩
def yE7:zF:=⟨[(3,.c (.lit (.ptr 1001000 0))),(6,.c (.lit (.osl 1001001 none))),(7,.c .i),(8,.c (.lit (.osl 1001002 none)))],[.box true jN,.arr true .i,.arr true zH],[]⟩
def yBr (f:qWf)(d:yNr.den):=(yZ (f d.1.2.2.1.1 d.1.2.2.2.2.2.1.1 d.1.2.2.2.2.2.2.1.1) d.2.1) d.2.2.1 d.2.2.2.1 d.2.2.2.2.1
def qLi:zV:=⟨[yNr],[(.exit 4,yE7)],qSo,fun k d=>yBr (Eo k k) d,fun b x _ K=>K (.exit 4) (zN b yE7 (((),(),(x.1,()),(),()),((gH x ()),x.2.2.2.2.2.1,x.2.2.2.2.2.2,())))⟩
def qY3:zF:=⟨[(3,.c (.lit (.ptr 1001000 0))),(6,.c (.lit (.osl 1001001 none))),(7,.c .i),(8,.c (.lit (.osl 1001002 none)))],[.box true jN,.arr true .i,.arr true zH],[]⟩
def yVj:zF:=⟨[(6,.c (.lit (.osl 1001000 none))),(7,.c .i)],[.arr true .i],[]⟩
def vAj (f:qUf)(d:qY3.den):=(yZ (f d.1.2.2.1.1) d.2.1) d.2.2.1 d.2.2.2.1
def O3:zV:=⟨[qY3],[(.ret,yVj)],(Int×AC),fun k d=>vAj (IP k k) d,fun b x _ K=>K .ret (zN b yVj (((),(x.1,()),()),(x.2,())))⟩
def O4:zZ:=⟨[],[(3,O2),(12,qLi),(7,O3)],[],false⟩
theorem vSe:zU prog 1000 0 55 (zR (zS f250) 0) O2:=lp (A:=O4) O2 (fun d=>(d.1.2.2.1.1,(vP d.2.1 (d.2.2.1,d.2.2.2.1)))) vA4 zn En (e4 AY JP FV JU) zG
theorem vU8:zU prog 1000 0 55 (zR (zR (zS f250) 1) 0) qLi:=lp (A:=O4) qLi (fun d=>(d.1.2.2.1.1,(vP d.2.1 (d.2.2.1,d.2.2.2.1)))) yBr Eo Ep (e4 AY JP FV JU) zG
theorem vF0:zU prog 1000 0 55 (zR (zS f250) 1) O3:=lp (A:=O4) O3 (fun d=>(d.1.2.1.1,d.2.1)) vAj IP Er (e4 AY JP FV JU) (qE vU8)
def aab:=zJ 250 [.agg jJ,.c (.dat false zH),.c .i] (.tup [(false,nM),(false,qI)]) (fun k d=>(iU (MX k) d)) (fun x=>(x.1,x.2,()))
theorem yKg:zD prog aab:=fA (rs:=.tup [(false,nM),(false,qI)]) f250 O4 (fun d=>(d.1,d.2.1)) (e4 AY JP FV JU) (loopsOK_of (n:=2) (by kernel_rfl) fun i hi=>match i,hi with|0,_=>⟨O2,by kernel_rfl,vSe⟩|1,_=>⟨O3,by kernel_rfl,vF0⟩|i+2,hi=>absurd hi (by omega))
def yD3:zF:=⟨[(6,.c (.lit (.ptr 1001000 0))),(7,.c (.dat true zH)),(11,.c (.lit (.osl 1001001 none))),(38,.c (.lit (.osl 1001001 none))),(39,.c .i),(40,.c .i)],[.box true vV,.arr true zH],[]⟩
def yZq:zF:=⟨[(6,.c (.lit (.ptr 1001000 0))),(7,.c (.dat true zH)),(11,.c (.lit (.osl 1001001 none)))],[.box true vV,.arr true zH],[]⟩
def yLv (f:qU6)(d:yD3.den):=(yZ (f d.1.2.1.1 d.1.2.2.2.2.1.1 d.1.2.2.2.2.2.1.1) d.2.1) d.2.2.1
def qO5:zV:=⟨[yD3],[(.exit 0,yZq)],qUj,fun k d=>yLv (zo k k) d,fun b x _ K=>K (.exit 0) (zN b yZq (((),(x.1,()),(),()),((gH x ()),x.2.2.2.2.2,())))⟩
def yQy:zZ:=⟨[],[(8,qO5)],[],false⟩
theorem vG8:zU prog 1000 0 56 (zR (zS f213) 0) qO5:=lp (A:=yQy) qO5 (fun d=>(d.1.2.1.1,(vP d.2.1 d.2.2.1))) yLv zo Es (e5 yKg AY FV AZ oV) zG
def vKx:=zJ 213 [.agg ke,.c (.dat true zH),.c .i] (.tup [(true,jC),(false,vK),(false,[.own zH])]) (fun k d=>(iU (zp k) d)) (fun x=>(mO x ()))
theorem vNn:zD prog vKx:=fA (rs:=.tup [(true,jC),(false,vK),(false,[.own zH])]) f213 yQy (fun d=>(mb d)) (e5 yKg AY FV AZ oV) (qE vG8)
def vKz:=zJ 146 [.agg ke,.c (.dat true zH),.c .i,.c .bool] (.tup [(true,jC),(false,vK),(false,[.own zH])]) (fun k d=>(lk (vg k) d)) (fun x=>(mO x ()))
theorem vXi:zD prog vKz:=fA (rs:=.tup [(true,jC),(false,vK),(false,[.own zH])]) f146 ⟨[],[],[],false⟩ (fun d=>(mb d)) (e2 vXq vNn) zG
def vA8:zF:=⟨[(3,.c (.lit (.osl 1001000 none))),(5,.c (.lit (.ptr 1001001 0))),(8,.c (.dat false zH)),(9,.c .i),(10,.c .i),(18,.c (.lit (.osl 1001002 none))),(19,.c .i),(20,.c .i)],[.arr true qN,.box true wL,.arr true .i],[(3,none,qN,false)]⟩
def qZj:zF:=⟨[(3,.c (.lit (.osl 1001000 none))),(8,.c (.dat false zH)),(9,.c .i),(10,.c .i)],[.arr true qN],[]⟩
def yTg (f:qU2)(d:vA8.den):=(lk (f d.1.2.2.1.1 d.1.2.2.2.1.1 d.1.2.2.2.2.1.1 d.1.2.2.2.2.2.2.1.1 d.1.2.2.2.2.2.2.2.1.1 d.2.1) d.2.2.1) d.2.2.2.1
def qOw:zV:=⟨[vA8],[(.exit 2,qZj)],qNf,fun k d=>yTg (vi k k) d,fun b x _ K=>K (.exit 2) (zN b qZj (((),(x.1,()),(x.2.1,()),(x.2.2.1,()),()),(x.2.2.2,())))⟩
def yG5:zF:=⟨[(3,.c (.lit (.osl 1001000 none))),(8,.c (.dat false zH)),(9,.c .i),(10,.c .i)],[.arr true qN],[(3,none,qN,false)]⟩
def yV6:zF:=⟨[(3,.c (.lit (.osl 1001000 none)))],[.arr true qN],[]⟩
def vAq (f:qNj)(d:yG5.den):=f d.1.2.1.1 d.1.2.2.1.1 d.1.2.2.2.1.1 d.2.1
def qNu:zV:=⟨[yG5],[(.exit 0,yV6)],qLk,fun k d=>vAq (IT k k) d,fun b x _ K=>K (.exit 0) (zN b yV6 (((),()),(x,())))⟩
def qUb:zZ:=⟨[],[(6,qOw),(3,qNu)],[],false⟩
theorem vMn:zU prog 1000 0 41 (zR (zR (zS f147) 0) 0) qOw:=lp (A:=qUb) qOw (fun d=>(d.1.2.1.1,d.1.2.2.1.1,d.1.2.2.2.1.1,d.2.1)) yTg vi vj (e1 w4) zG
theorem vOr:zU prog 1000 0 41 (zR (zS f147) 0) qNu:=lp (A:=qUb) qNu (fun d=>d.2.1) vAq IT Ev (e1 w4) (qE vMn)
def vHi:=zJ 147 [.c (.dat false zH)] (.c (.own qN)) (fun k d=>M4 k d.1) (fun x=>(x,()))
theorem vLf:zD prog vHi:=fA (rs:=.c (.own qN)) f147 qUb (fun d=>d.1) (e1 w4) (qE vOr)
def vG0:=zJ 93 [.agg wm,.c .bool] (.tup [(true,kz),(false,[.own qN])]) (fun k d=>(JW (td k) d)) (fun x=>(AV x ()))
theorem qHi:zD prog vG0:=fA (rs:=.tup [(true,kz),(false,[.own qN])]) f93 ⟨[],[],[],false⟩ (fun d=>(wu d)) (e2 vXi vLf) zG
def yI1:zF:=⟨[(2,.c (.lit (.ptr 1001000 0))),(3,.c (.lit (.ptr 1001001 0))),(4,.c (.lit (.ptr 1001002 0))),(6,.c (.lit (.osl 1001003 none))),(7,.c (.lit (.osl 1001004 none))),(27,.c (.dat true zH)),(28,.c .i),(29,.c .i)],[.box true oU,.box true fP,.box true eX,.arr true qN,.arr true zH],[(6,none,qN,false),(7,none,zH,false)]⟩
def yUz:zF:=⟨[(2,.c (.lit (.ptr 1001000 0))),(3,.c (.lit (.ptr 1001001 0))),(4,.c (.lit (.ptr 1001002 0))),(6,.c (.lit (.osl 1001003 none))),(7,.c (.lit (.osl 1001004 none)))],[.box true oU,.box true fP,.box true eX,.arr true qN,.arr true zH],[]⟩
def vAf (f:qI1)(d:yI1.den):=(rj (kC (f d.1.2.2.2.2.2.1.1 d.1.2.2.2.2.2.2.1.1 d.1.2.2.2.2.2.2.2.1.1) d.2.1) d.2.2.1) d.2.2.2.1.1 d.2.2.2.1.2.1 d.2.2.2.1.2.2.1 d.2.2.2.2.1 d.2.2.2.2.2.1
def qMh:zV:=⟨[yI1],[(.exit 0,yUz)],qJo,fun k d=>vAf (ED k k) d,fun b x _ K=>K (.exit 0) (zN b yUz (((),(),(),(),(),()),((oW x ()),(vDp x ()),(x.2.2.2.2.2.2.2.2.2.2.2.2.2.2.2.2.1,x.2.2.2.2.2.2.2.2.2.2.2.2.2.2.2.2.2.1,x.2.2.2.2.2.2.2.2.2.2.2.2.2.2.2.2.2.2.1,()),x.2.2.2.2.2.2.2.2.2.2.2.2.2.2.2.2.2.2.2.1,x.2.2.2.2.2.2.2.2.2.2.2.2.2.2.2.2.2.2.2.2,())))⟩
def yFn:zZ:=⟨[],[(9,qMh)],[],false⟩
theorem vEx:zU prog 1000 0 66 (zR (zS f92) 0) qMh:=lp (A:=yFn) qMh (fun d=>(oW d.2.1 (w5 d.2.2.1 (d.2.2.2.1.1,d.2.2.2.1.2.1,d.2.2.2.1.2.2.1,d.2.2.2.2.1,d.2.2.2.2.2.1)))) vAf ED EE (e6 OT yV3 qYz w4 yHa qHi) zG
def vGp:=zJ 92 [.agg iS,.agg wm] (.tup [(true,kz),(false,[.own qN])]) (fun k d=>(yAs (vl k) d)) (fun x=>(AV x ()))
theorem aac:zD prog vGp:=fA (rs:=.tup [(true,kz),(false,[.own qN])]) f92 yFn (fun d=>(wu d)) (e6 OT yV3 qYz w4 yHa qHi) (qE vEx)
def vTw:=yK 136 [.ptr true wv,.agg JR] (.c .i) [wQ] 0 (fun k d=>yQc k (kB d) (yXu d)) (fun x=>(x.1,(wZ x.2 ())))
theorem vIg:zD prog vTw:=fX (rs:=.c .i) (os:=[wQ]) (ns:=0) f136 n0 1 (fun d=>(d.1,(iT d))) (e4 gG vAe yKd OJ) zG
def vKg:=yK 137 [.ptr true wv,.agg vD] (.c .i) [wQ] 0 (fun k d=>O5 k (kB d) (FR d)) (fun x=>(x.1,(wZ x.2 ())))
theorem vRr:zD prog vKg:=fX (rs:=.c .i) (os:=[wQ]) (ns:=0) f137 n0 1 (fun d=>(d.1,(iT d))) (e8 yWx oV vAr gG X6 yDh yOq yYs) zG
def vS2:=yK 138 [.ptr true wv,.agg vD] (.c .i) [wQ] 0 (fun k d=>O6 k (kB d) (FR d)) (fun x=>(x.1,(wZ x.2 ())))
theorem vP0:zD prog vS2:=fX (rs:=.c .i) (os:=[wQ]) (ns:=0) f138 n0 1 (fun d=>(d.1,(iT d))) (e3 nO yN2 gG) zG
def vL8:=yK 139 [.ptr true wv,.c (.p .i),.c (.p .i)] (.c .i) [wQ] 0 (fun k d=>yJi k (kB d) d.2.2.2.2.2.2.2.2.2.2.2.2.2.2.2.2.2.2.1 d.2.2.2.2.2.2.2.2.2.2.2.2.2.2.2.2.2.2.2.1) (fun x=>(x.1,(wZ x.2 ())))
theorem vCn:zD prog vL8:=fX (rs:=.c .i) (os:=[wQ]) (ns:=0) f139 n0 1 (fun d=>(d.1,(iT d))) (e6 FT gG yMo FU wz nO) zG
def vTz:=yK 140 [.ptr true wv,.c (.p .i),.c (.p .i),.c (.p .i)] (.c .i) [wQ] 0 (fun k d=>EJ k (kB d) d.2.2.2.2.2.2.2.2.2.2.2.2.2.2.2.2.2.2.1 d.2.2.2.2.2.2.2.2.2.2.2.2.2.2.2.2.2.2.2.1 d.2.2.2.2.2.2.2.2.2.2.2.2.2.2.2.2.2.2.2.2.1) (fun x=>(x.1,(wZ x.2 ())))
theorem vX4:zD prog vTz:=fX (rs:=.c .i) (os:=[wQ]) (ns:=0) f140 n0 1 (fun d=>(d.1,(iT d))) (e5 gG yCq yA8 yUb nO) zG
def yQq:zF:=⟨[(0,.c (.lit (.ptr 1001000 0))),(7,.c (.lit (.osl 1001001 none))),(8,.c (.lit (.ptr 1001002 0))),(40,.c (.dat true (.sl .i))),(41,.c .i),(42,.c .i)],[.box true qV7,.arr true .i,.box true qy,.arr true qX,.mat,.arr true .i,.mat],[]⟩
def yLx:zF:=⟨[(0,.c (.lit (.ptr 1001000 0))),(7,.c (.lit (.osl 1001001 none))),(8,.c (.lit (.ptr 1001002 0)))],[.box true qV7,.arr true .i,.box true qy,.arr true qX,.mat,.arr true .i,.mat],[]⟩
def ySh:zF:=⟨[(0,.c (.lit (.ptr 1001000 0))),(6,.c .i)],[.box true qV7],[]⟩
def yQf (f:qP7)(d:yQq.den):=f d.1.2.2.2.1.1 d.1.2.2.2.2.1.1 d.1.2.2.2.2.2.1.1 (kB d.2.1) d.2.2.1 d.2.2.2.2.1 d.2.2.2.2.2.1 d.2.2.2.2.2.2.1 d.2.2.2.2.2.2.2.1
def qKr:zV:=⟨[yQq],[(.exit 0,yLx),(.ret,ySh)],qV0,fun k d=>yQf (tl k k) d,fun b x _ K=>match x with|.inl x=>K (.exit 0) (zN b yLx (((),(),(),()),((vI x.1 ()),x.2.1,(),x.2.2.1,x.2.2.2.1,x.2.2.2.2.1,x.2.2.2.2.2,())))|.inr x=>K .ret (zN b ySh (((),(x.1,()),()),((vI x.2 ()),())))⟩
def yHl:zZ:=⟨[],[(6,qKr)],[],true⟩
theorem vZd:zU prog 1000 1 81 (zR (zS f141) 0) qKr:=lp (A:=yHl) qKr (fun d=>match d with|.inl d=>.inl ((kB d.2.1),d.2.2.1,d.2.2.2.2.1,d.2.2.2.2.2.1,d.2.2.2.2.2.2.1,d.2.2.2.2.2.2.2.1)|.inr d=>.inr (d.1.2.1.1,(kB d.2.1))) yQf tl EO (e5 FT gG FU nO wz) zG
def vOs:=yK 141 [.ptr true wv,.c (.p .i),.c (.p .i)] (.c .i) [wQ] 0 (fun k d=>Ni k (kB d) d.2.2.2.2.2.2.2.2.2.2.2.2.2.2.2.2.2.2.1 d.2.2.2.2.2.2.2.2.2.2.2.2.2.2.2.2.2.2.2.1) (fun x=>(x.1,(wZ x.2 ())))
theorem vLl:zD prog vOs:=fX (rs:=.c .i) (os:=[wQ]) (ns:=0) f141 yHl 1 (fun d=>(d.1,(iT d))) (e5 FT gG FU nO wz) (qE vZd)
def vLh:=yK 91 [.ptr true wv,.agg vD] (.c .i) [wQ] 0 (fun k d=>Fy k (kB d) (FR d)) (fun x=>(x.1,(wZ x.2 ())))
theorem vXl:zD prog vLh:=fX (rs:=.c .i) (os:=[wQ]) (ns:=0) f91 n0 1 (fun d=>(d.1,(iT d))) (e6 vIg vRr vP0 vCn vX4 vLl) zG
def vKm:=zJ 52 [.agg FH,.agg wm,.agg AU] (.tup [(true,kz),(false,[.own qN]),(false,qI)]) (fun k d=>ky k (yF d) (qu d) (Wj d)) (fun x=>(vU x.1 (x.2.1,x.2.2,())))
theorem JX:zD prog vKm:=fA (rs:=.tup [(true,kz),(false,[.own qN]),(false,qI)]) f52 n0 (fun d=>((qW d),d.2.2.2.2.2.2.2.2.2.2.2.1,d.2.2.2.2.2.2.2.2.2.2.2.2.1)) (e9 vVi X4 vAr vC6 aac qHi wx vBa vXl) zG
def vF5:=yK 61 [.chn [qRn,kA],.c (.p (.dat false (.int .u8)))] (.c .i) [FW,vQ] 0 (fun k d=>uO k (O7 d) (O8 d) d.2.2.2.2.2.2.2.2.2.2.2.2.2.2.2.1) (fun x=>(x.1,(),(jO x.2.1 (gF x.2.2 ()))))
theorem O9:zD prog vF5:=fX (rs:=.c .i) (os:=[FW,vQ]) (ns:=0) f61 n0 0 (fun d=>(d.1,(qYg d),(qRm d))) (e1 vAp) zG
def vEk:=zJ 169 [.c .i] (.c .bool) (fun k d=>yW6 k d.1) (fun x=>(x,()))
theorem yRl:zD prog vEk:=fA (rs:=.c .bool) f169 n0 (fun d=>d.1) (e1 gG) zG
def yMy:zF:=⟨[(0,.c (.dat false .i)),(1,.c (.lit (.fn 169 []))),(7,.c .i),(8,.c .i)],[],[]⟩
def yX3:zF:=⟨[],[],[]⟩
def vA3:zF:=⟨[(4,.c .i)],[],[]⟩
def yXg (f:qYi)(d:yMy.den):=f d.1.1.1 d.1.2.2.1.1 d.1.2.2.2.1.1
def qLa:zV:=⟨[yMy],[(.exit 0,yX3),(.ret,vA3)],(Unit⊕Int),fun k d=>yXg (Pb k k) d,fun b x _ K=>match x with|.inl x=>K (.exit 0) (zN b yX3 ((),()))|.inr x=>K .ret (zN b vA3 (((x,()),()),()))⟩
def yGf:zZ:=⟨[],[(2,qLa)],[],false⟩
theorem vVz:zU prog 1000 0 19 (zR (zS f220) 0) qLa:=lp (A:=yGf) qLa (fun d=>match d with|.inl d=>.inl ()|.inr d=>.inr d.1.1.1) yXg Pb yOr (e1 yRl) zG
def aad:=zJ 220 [.c (.dat false .i),.c (.fn 169)] (.c .i) (fun k d=>yUp k d.1) (fun x=>(x,()))
theorem vKb:zD prog aad:=fA (rs:=.c .i) f220 yGf (fun d=>d.1) (e1 yRl) (qE vVz)
def vKu:=zJ 168 [.c (.dat false .i),.c (.fn 169)] (.c .bool) (fun k d=>yRe k d.1) (fun x=>(x,()))
theorem yA7:zD prog vKu:=fA (rs:=.c .bool) f168 ⟨[],[],[],false⟩ (fun d=>d.1) (e1 vKb) zG
def vV8:=zJ 171 [.c .i] (.c .bool) (fun k d=>yQ7 k d.1) (fun x=>(x,()))
theorem yE5:zD prog vV8:=fA (rs:=.c .bool) f171 n0 (fun d=>d.1) e0 zG
def yUj:zF:=⟨[(0,.c (.dat false .i)),(1,.c (.lit (.fn 171 []))),(7,.c .i),(8,.c .i)],[],[]⟩
def yCs:zF:=⟨[],[],[]⟩
def vAm:zF:=⟨[(4,.c .i)],[],[]⟩
def yQ5 (f:qP0)(d:yUj.den):=f d.1.1.1 d.1.2.2.1.1 d.1.2.2.2.1.1
def qMu:zV:=⟨[yUj],[(.exit 0,yCs),(.ret,vAm)],(Unit⊕Int),fun k d=>yQ5 (Pc k k) d,fun b x _ K=>match x with|.inl x=>K (.exit 0) (zN b yCs ((),()))|.inr x=>K .ret (zN b vAm (((x,()),()),()))⟩
def yFs:zZ:=⟨[],[(2,qMu)],[],false⟩
theorem aae:zU prog 1000 0 19 (zR (zS f220) 0) qMu:=lp (A:=yFs) qMu (fun d=>match d with|.inl d=>.inl ()|.inr d=>.inr d.1.1.1) yQ5 Pc yX7 (e1 yE5) zG
def vKt:=zJ 220 [.c (.dat false .i),.c (.fn 171)] (.c .i) (fun k d=>yDo k d.1) (fun x=>(x,()))
theorem vNv:zD prog vKt:=fA (rs:=.c .i) f220 yFs (fun d=>d.1) (e1 yE5) (qE aae)
def vG7:=zJ 168 [.c (.dat false .i),.c (.fn 171)] (.c .bool) (fun k d=>vA2 k d.1) (fun x=>(x,()))
theorem yUk:zD prog vG7:=fA (rs:=.c .bool) f168 ⟨[],[],[],false⟩ (fun d=>d.1) (e1 vNv) zG
def yR2:zF:=⟨[(2,.c (.lit (.ptr 1001000 0))),(3,.c (.lit (.ptr 1001001 0))),(28,.c (.dat false (.sl .i))),(29,.c .i),(30,.c .i)],[.box true oU,.box true Pd],[]⟩
def yOx:zF:=⟨[],[],[]⟩
def vBb:zF:=⟨[(4,.c .bool)],[],[]⟩
def yP2 (f:qNz)(d:yR2.den):=f d.1.2.2.1.1 d.1.2.2.2.1.1 d.1.2.2.2.2.1.1 (yF d.2.1) (qW d.2.2.1)
def qLy:zV:=⟨[yR2],[(.exit 0,yOx),(.ret,vBb)],(Unit⊕Bool),fun k d=>yP2 (qIj k k) d,fun b x _ K=>match x with|.inl x=>K (.exit 0) (zN b yOx ((),()))|.inr x=>K .ret (zN b vBb (((x,()),()),()))⟩
def yHt:zZ:=⟨[],[(6,qLy)],[],true⟩
theorem vS5:zU prog 1000 0 66 (zR (zS f109) 0) qLy:=lp (A:=yHt) qLy (fun d=>match d with|.inl d=>.inl ()|.inr d=>.inr d.1.1.1) yP2 qIj yWe (e3 yA7 wz yUk) zG
def vFd:=zJ 109 [.agg iS,.agg qz] (.c .bool) (fun k d=>yLs k (yF d) (qu d)) (fun x=>(x,()))
theorem yJ3:zD prog vFd:=fA (rs:=.c .bool) f109 yHt (fun d=>d.1) (e3 yA7 wz yUk) (qE vS5)
def yS1:zF:=⟨[(0,.c (.dat false zH)),(1,.c (.lit (.fn 224 []))),(5,.c .i)],[],[]⟩
def yMt:zF:=⟨[],[],[]⟩
def ySb:zF:=⟨[(4,.c .bool)],[],[]⟩
def yZh (f:qIm)(d:yS1.den):=f d.1.1.1 d.1.2.2.1.1
def qRw:zV:=⟨[yS1],[(.exit 0,yMt),(.ret,ySb)],(Unit⊕Bool),fun k d=>yZh (qPv k k) d,fun b x _ K=>match x with|.inl x=>K (.exit 0) (zN b yMt ((),()))|.inr x=>K .ret (zN b ySb (((x,()),()),()))⟩
def yCo:zZ:=⟨[],[(2,qRw)],[],true⟩
theorem aaf:zU prog 1000 0 25 (zR (zS f223) 0) qRw:=lp (A:=yCo) qRw (fun d=>match d with|.inl d=>.inl ()|.inr d=>.inr d.1.1.1) yZh qPv yHw (e1 FQ) zG
def vP7:=zJ 223 [.c (.dat false zH),.c (.fn 224)] (.c .bool) (fun k d=>yGl k d.1) (fun x=>(x,()))
theorem yC5:zD prog vP7:=fA (rs:=.c .bool) f223 yCo (fun d=>d.1) (e1 FQ) (qE aaf)
def yF0:zF:=⟨[(0,.c (.dat false zH)),(5,.c (.dat false zH)),(6,.c .i),(7,.c .i)],[],[]⟩
def yFt:zF:=⟨[(0,.c (.dat false zH))],[],[]⟩
def yJh:zF:=⟨[(2,.c .bool)],[],[]⟩
def vA9 (f:qQf)(d:yF0.den):=f d.1.1.1 d.1.2.1.1 d.1.2.2.1.1 d.1.2.2.2.1.1
def qOx:zV:=⟨[yF0],[(.exit 0,yFt),(.ret,yJh)],qYx,fun k d=>vA9 (Pe k k) d,fun b x _ K=>match x with|.inl x=>K (.exit 0) (zN b yFt (((x,()),()),()))|.inr x=>K .ret (zN b yJh (((x,()),()),()))⟩
def yVk:zZ:=⟨[],[(2,qOx)],[],false⟩
theorem vZ4:zU prog 1000 0 26 (zR (zS f175) 0) qOx:=lp (A:=yVk) qOx (fun d=>match d with|.inl d=>.inl d.1.1.1|.inr d=>.inr d.1.1.1) vA9 Pe vA5 (e2 wx yC5) zG
def vI4:=zJ 175 [.c (.dat false zH)] (.c .bool) (fun k d=>yMk k d.1) (fun x=>(x,()))
theorem vZs:zD prog vI4:=fA (rs:=.c .bool) f175 yVk (fun d=>d.1) (e2 wx yC5) (qE vZ4)
def vAt:zF:=⟨[(0,.c (.dat false .i)),(3,.c .i),(6,.c (.dat false .i)),(7,.c .i),(8,.c .i)],[],[]⟩
def yAz:zF:=⟨[(0,.c (.dat false .i))],[],[]⟩
def yN6:zF:=⟨[(2,.c .bool)],[],[]⟩
def yTa (f:qMz)(d:vAt.den):=f d.1.1.1 d.1.2.1.1 d.1.2.2.1.1 d.1.2.2.2.1.1 d.1.2.2.2.2.1.1
def qHn:zV:=⟨[vAt],[(.exit 0,yAz),(.ret,yN6)],(AC⊕Bool),fun k d=>yTa (qHy k k) d,fun b x _ K=>match x with|.inl x=>K (.exit 0) (zN b yAz (((x,()),()),()))|.inr x=>K .ret (zN b yN6 (((x,()),()),()))⟩
def qZn:zZ:=⟨[],[(3,qHn)],[],true⟩
theorem vSz:zU prog 1000 0 20 (zR (zS f176) 0) qHn:=lp (A:=qZn) qHn (fun d=>match d with|.inl d=>.inl d.1.1.1|.inr d=>.inr d.1.1.1) yTa qHy yLl e0 zG
def vE3:=zJ 176 [.c (.dat false .i)] (.c .bool) (fun k d=>yNd k d.1) (fun x=>(x,()))
theorem vB9:zD prog vE3:=fA (rs:=.c .bool) f176 qZn (fun d=>d.1) e0 (qE vSz)
def vNy:=zJ 174 [.c (.dat false .i),.c .i] (.c .bool) (fun k d=>yDi k d.1 d.2.1) (fun x=>(x,()))
theorem vIt:zD prog vNy:=fA (rs:=.c .bool) f174 n0 (fun d=>d.1) (e1 vAz) zG
def aag:=zJ 172 [.agg vD,.ptr qz] (.c .bool) (fun k d=>qZd k (wD d) (vHo d)) (fun x=>(x,()))
theorem yAi:zD prog aag:=fA (rs:=.c .bool) f172 n0 (fun d=>d.1) (e3 Zk gG vIt) zG
def yEg:zF:=⟨[(0,.c (.dat false zH)),(1,.c (.lit (.fn 172 [1001000]))),(7,.c .i),(8,.c .i)],[.robox Pd],[]⟩
def yDf:zF:=⟨[],[],[]⟩
def vBh:zF:=⟨[(4,.c .i)],[],[]⟩
def yVa (f:qOy)(d:yEg.den):=(rj (f d.1.1.1 d.1.2.2.1.1 d.1.2.2.2.1.1) d.2.1)
def qHk:zV:=⟨[yEg],[(.exit 0,yDf),(.ret,vBh)],(Unit⊕Int),fun k d=>yVa (Pf k k) d,fun b x _ K=>match x with|.inl x=>K (.exit 0) (zN b yDf ((),()))|.inr x=>K .ret (zN b vBh (((x,()),()),()))⟩
def yN4:zZ:=⟨[],[(2,qHk)],[],false⟩
theorem aah:zU prog 1000 0 19 (zR (zS f148) 0) qHk:=lp (A:=yN4) qHk (fun d=>match d with|.inl d=>.inl ()|.inr d=>.inr d.1.1.1) yVa Pf yX4 (e1 yAi) zG
def vYq:=zJ 148 [.c (.dat false zH),.fn 172 [qz]] (.c .i) (fun k d=>(JW (yP4 k) d)) (fun x=>(x,()))
theorem vRy:zD prog vYq:=fA (rs:=.c .i) f148 yN4 (fun d=>d.1) (e1 yAi) (qE aah)
def vKe:=zJ 177 [.c (.dat false zH),.fn 172 [qz]] (.c .bool) (fun k d=>(JW (yLp k) d)) (fun x=>(x,()))
theorem vDr:zD prog vKe:=fA (rs:=.c .bool) f177 ⟨[],[],[],false⟩ (fun d=>d.1) (e1 vRy) zG
def vT4:=zJ 110 [.agg qz] (.c .bool) (fun k d=>yP5 k (qW d)) (fun x=>(x,()))
theorem yBw:zD prog vT4:=fA (rs:=.c .bool) f110 n0 (fun d=>d.1) (e3 vZs vB9 vDr) zG
def yI5:zF:=⟨[(2,.c (.lit (.ptr 1001000 0))),(3,.c (.lit (.ptr 1001001 0))),(5,.c (.lit (.osl 1001002 none))),(44,.c (.dat false qX)),(45,.c .i),(46,.c .i)],[.box true oU,.box true Pd,.arr true .i],[(5,none,.i,false)]⟩
def yCd:zF:=⟨[(2,.c (.lit (.ptr 1001000 0))),(3,.c (.lit (.ptr 1001001 0))),(5,.c (.lit (.osl 1001002 none)))],[.box true oU,.box true Pd,.arr true .i],[]⟩
def yY5 (f:qLv)(d:yI5.den):=f d.1.2.2.2.1.1 d.1.2.2.2.2.1.1 d.1.2.2.2.2.2.1.1 (yF d.2.1) (qW d.2.2.1) d.2.2.2.1
def qH2:zV:=⟨[yI5],[(.exit 0,yCd)],qP5,fun k d=>yY5 (qPq k k) d,fun b x _ K=>K (.exit 0) (zN b yCd (((),(),(),()),((wS x.1 ()),(vU x.2.1 ()),x.2.2,())))⟩
def yGi:zZ:=⟨[],[(5,qH2)],[],true⟩
theorem vTc:zU prog 1000 0 92 (zR (zS f59) 0) qH2:=lp (A:=yGi) qH2 (fun d=>((yF d.2.1),(qW d.2.2.1),d.2.2.2.1)) yY5 qPq yF1 (e6 gG OY yJ3 yBw OQ OT) zG
def vJc:=zJ 59 [.agg iS,.agg qz] (.c .bool) (fun k d=>Pg k (yF d) (qu d)) (fun x=>(x,()))
theorem Ph:zD prog vJc:=fA (rs:=.c .bool) f59 yGi (fun d=>d.1) (e6 gG OY yJ3 yBw OQ OT) (qE vTc)
def yC7:zF:=⟨[(1,.c (.lit (.ptr 1001000 0))),(2,.c .i),(3,.c (.lit (.ptr 1001003 0))),(12,.c .bool),(13,.c (.lit (.ptr 1001004 0))),(17,.c (.lit (.ptr 1001005 0))),(72,.c (.dat true (.sl (.int .u8)))),(73,.c .i),(74,.c .i)],[.box true yU9,.arr true (.int .u8),.arr true (.int .u8),.box true w6,.box true [.lit (.ptr 1001000 0),.i,.i,.i,.bool],.box true fP],[(17,some 1,.bool,true),(17,some 2,.bool,true),(17,some 3,.bool,true),(17,some 4,.bool,true),(17,some 5,.bool,true),(17,some 6,.bool,true),(17,some 7,.bool,true),(17,some 8,.bool,true)]⟩
def yNs:zF:=⟨[(1,.c (.lit (.ptr 1001000 0))),(2,.c .i),(3,.c (.lit (.ptr 1001003 0))),(12,.c .bool),(13,.c (.lit (.ptr 1001004 0))),(17,.c (.lit (.ptr 1001005 0)))],[.box true yU9,.arr true (.int .u8),.arr true (.int .u8),.box true w6,.box true [.lit (.ptr 1001000 0),.i,.i,.i,.bool],.box true fP],[]⟩
def yXd (f:qOv)(d:yC7.den):=f d.1.2.1.1 d.1.2.2.2.1.1 d.1.2.2.2.2.2.2.1.1 d.1.2.2.2.2.2.2.2.1.1 d.1.2.2.2.2.2.2.2.2.1.1 (ma d.2.1) d.2.2.1 d.2.2.2.1 (yF d.2.2.2.2.1) (wK d.2.2.2.2.2.1) (qW d.2.2.2.2.2.2.1)
def qQd:zV:=⟨[yC7],[(.exit 0,yNs)],qKy,fun k d=>yXd (JY k k) d,fun b x _ K=>K (.exit 0) (zN b yNs (((),(x.1,()),(),(x.2.1,()),(),(),()),((FO x.2.2.1 ()),x.2.2.2.1,x.2.2.2.2.1,(wS x.2.2.2.2.2.1 ()),(jO x.2.2.2.2.2.2.1 ()),(vU x.2.2.2.2.2.2.2 ()),())))⟩
def yV4:zZ:=⟨[],[(11,qQd)],[],true⟩
theorem vH8:zU prog 1000 2 112 (zR (zS f27) 0) qQd:=lp (A:=yV4) qQd (fun d=>(d.1.2.1.1,d.1.2.2.2.1.1,(ma d.2.1),d.2.2.1,d.2.2.2.1,(yF d.2.2.2.2.1),(wK d.2.2.2.2.2.1),(qW d.2.2.2.2.2.2.1))) yXd JY yO0 (Of Og W8 Oo tC yIn OC OF JX O9 Ph) zG
def aai:=Lr 27 [.agg FH,.ptr true kA,.c (.p .i)] (.tup [(false,[.link 1]),(false,qI)]) [vQ,yNe,Ow] 2 (.tup [(false,[.nilp]),(false,qI)]) [vQ] 0 (fun k d=>qw k (yF d) (O8 d) d.2.2.2.2.2.2.2.2.2.2.2.2.2.2.2.1) (fun x=>((),x.1,(gF x.2.1 ((),(wZ x.2.2.1 ((),(jO x.2.2.2 ()))))))) (fun x=>((),x.1,(gF x.2 ())))
theorem yJ7:zD prog aai:=fN (rs:=.tup [(false,[.link 1]),(false,qI)]) (os:=[vQ,yNe,Ow]) (ns:=2) (rs2:=.tup [(false,[.nilp]),(false,qI)]) (os2:=[vQ]) (ns2:=0) f27 yV4 2 (fun d=>(d.2.1,(yGv d),(vKn d),(vRi d))) (fun d=>(d.2.1,(yGv d))) (Of Og W8 Oo tC yIn OC OF JX O9 Ph) (qE vH8)
def vNl:=yK 31 [.chn [Pj,Pk,kA]] (.c .bool) [w7,w8,vQ] 0 (fun k d=>zx k (iT d) (Pl d) (Pm d)) (fun x=>(x.1,(),(wZ x.2.1 ((),(jO x.2.2.1 (gF x.2.2.2 ()))))))
theorem qMk:zD prog vNl:=fX (rs:=.c .bool) (os:=[w7,w8,vQ]) (ns:=0) f31 n0 0 (fun d=>(d.1,(qLl d),(qXo d),(qR4 d))) e0 zG
def vIs:=zJ 62 [.c .i,.c .i] (.c (.own qN)) (fun k d=>JZ k d.1 d.2.1) (fun x=>(x,()))
theorem yVo:zD prog vIs:=fA (rs:=.c (.own qN)) f62 n0 (fun d=>d.1) e0 zG
def vO5:=zJ 114 [.agg vD] (.c (.own (.int .u8))) (fun k d=>UJ k (wD d)) (fun x=>(x,()))
theorem vXo:zD prog vO5:=fA (rs:=.c (.own (.int .u8))) f114 ⟨[1],[],[],true⟩ (fun d=>d.1) (e3 yMi OD Oq) zG
def vFc:=zJ 64 [.agg AU] (.c (.own (.int .u8))) (fun k d=>Nd k (ma d)) (fun x=>(x,()))
theorem vWo:zD prog vFc:=fA (rs:=.c (.own (.int .u8))) f64 n0 (fun d=>d.1) (e2 vXo Oq) zG
def vM0:=yK 113 [.chn [qRn,kA],.c (.p (.dat false (.int .u8)))] (.c .i) [FW,vQ] 0 (fun k d=>yr k (O7 d) (O8 d) d.2.2.2.2.2.2.2.2.2.2.2.2.2.2.2.1) (fun x=>(x.1,(),(jO x.2.1 (gF x.2.2 ()))))
theorem vCc:zD prog vM0:=fX (rs:=.c .i) (os:=[FW,vQ]) (ns:=0) f113 n0 0 (fun d=>(d.1,(qYg d),(qRm d))) (e3 yEz qZl yBq) zG
def vVf:=yK 63 [.chn [Pj,Pk,kA],.c (.p (.dat false (.int .u8)))] (.c .i) [w7,w8,vQ] 0 (fun k d=>Nf k (iT d) (Pl d) (Pm d) d.2.2.2.2.2.2.2.2.2.2.2.2.2.2.2.2.2.2.2.2.2.2.2.2.2.2.2.2.2.2.2.2.2.2.1) (fun x=>(x.1,(),(wZ x.2.1 ((),(jO x.2.2.1 (gF x.2.2.2 ()))))))
theorem vB8:zD prog vVf:=fX (rs:=.c .i) (os:=[w7,w8,vQ]) (ns:=0) f63 n0 0 (fun d=>(d.1,(qLl d),(qXo d),(qR4 d))) (e3 vCc tC O9) zG
def vH5:=yK 65 [.chn [qRn,kA]] (.c .i) [FW,vQ] 0 (fun k d=>Ng k (O7 d) (O8 d)) (fun x=>(x.1,(),(jO x.2.1 (gF x.2.2 ()))))
theorem aaj:zD prog vH5:=fX (rs:=.c .i) (os:=[FW,vQ]) (ns:=0) f65 n0 0 (fun d=>(d.1,(qYg d),(qRm d))) e0 zG
def vPy:=yK 28 [.chn [Pj,Pk,kA],.c (.p .i),.c (.p (.dat false (.int .u8)))] (.c (.own qN)) [w7,w8,vQ] 0 (fun k d=>I3 k (iT d) (Pl d) (Pm d) d.2.2.2.2.2.2.2.2.2.2.2.2.2.2.2.2.2.2.2.2.2.2.2.2.2.2.2.2.2.2.2.2.2.2.1 d.2.2.2.2.2.2.2.2.2.2.2.2.2.2.2.2.2.2.2.2.2.2.2.2.2.2.2.2.2.2.2.2.2.2.2.1) (fun x=>(x.1,(),(wZ x.2.1 ((),(jO x.2.2.1 (gF x.2.2.2 ()))))))
theorem yOg:zD prog vPy:=fX (rs:=.c (.own qN)) (os:=[w7,w8,vQ]) (ns:=0) f28 n0 0 (fun d=>(d.1,(qLl d),(qXo d),(qR4 d))) (e9 qMk JO yVo JX vWo vB8 aaj tC O9) zG
def vJ8:=zJ 69 [.agg AU] (.c .bool) (fun k d=>Nn k (ma d)) (fun x=>(x,()))
theorem yUm:zD prog vJ8:=fA (rs:=.c .bool) f69 n0 (fun d=>d.1) e0 zG
def yFc:zF:=⟨[(0,.c (.dat false qN)),(1,.c (.lit (.fn 69 []))),(7,.c .i),(8,.c .i)],[],[]⟩
def yRt:zF:=⟨[],[],[]⟩
def yWo:zF:=⟨[(4,.c .i)],[],[]⟩
def yDx (f:qX6)(d:yFc.den):=f d.1.1.1 d.1.2.2.1.1 d.1.2.2.2.1.1
def qUx:zV:=⟨[yFc],[(.exit 0,yRt),(.ret,yWo)],(Unit⊕Int),fun k d=>yDx (I9 k k) d,fun b x _ K=>match x with|.inl x=>K (.exit 0) (zN b yRt ((),()))|.inr x=>K .ret (zN b yWo (((x,()),()),()))⟩
def yRq:zZ:=⟨[],[(2,qUx)],[],true⟩
theorem vGq:zU prog 1000 0 19 (zR (zS f116) 0) qUx:=lp (A:=yRq) qUx (fun d=>match d with|.inl d=>.inl ()|.inr d=>.inr d.1.1.1) yDx I9 vt (e1 yUm) zG
def vXm:=zJ 116 [.c (.dat false qN),.c (.fn 69)] (.c .i) (fun k d=>U5 k d.1) (fun x=>(x,()))
theorem vZn:zD prog vXm:=fA (rs:=.c .i) f116 yRq (fun d=>d.1) (e1 yUm) (qE vGq)
def aak:=zJ 68 [.c (.dat false qN),.c (.fn 69)] (.c .bool) (fun k d=>U4 k d.1) (fun x=>(x,()))
theorem vKy:zD prog aak:=fA (rs:=.c .bool) f68 n0 (fun d=>d.1) (e1 vZn) zG
def vJt:=zJ 30 [.c (.dat false qN)] (.c .bool) (fun k d=>EP k d.1) (fun x=>(x,()))
theorem yFi:zD prog vJt:=fA (rs:=.c .bool) f30 n0 (fun d=>d.1) (e1 vKy) zG
def vEc:=yK 32 [.ptr true kA,.agg [.i,.i]] (.tup []) [vQ] 0 (fun k d=>qKl k (eW d) (d.2.2.2.2.2.2.2.2.2.2.1,d.2.2.2.2.2.2.2.2.2.2.2.1)) (fun x=>(gF x ()))
theorem yW7:zD prog vEc:=fX (rs:=.tup []) (os:=[vQ]) (ns:=0) f32 n0 1 (fun d=>(eW d)) e0 zG
def vMd:=yK 33 [.ptr true kA] (.tup []) [vQ] 0 (fun k d=>qS6 k (eW d)) (fun x=>(gF x ()))
theorem yKa:zD prog vMd:=fX (rs:=.tup []) (os:=[vQ]) (ns:=0) f33 ⟨[],[],[(2,3)],true⟩ 1 (fun d=>(eW d)) e0 (B3 (n:=1) (by kernel_rfl) fun i hi=>match i,hi with|0,_=>.inr ⟨by kernel_rfl,zG⟩|i+1,hi=>absurd hi (by omega))
def vP4:=zJ 31 [.c (.nilp)] (.c .bool) (fun k d=>J0 k) (fun x=>(x,()))
theorem qMl:zD prog vP4:=fA (rs:=.c .bool) f31 n0 (fun d=>d.1) e0 zG
def vQ4:=zJ 28 [.c (.nilp),.c .i,.c (.dat false (.int .u8))] (.c (.own qN)) (fun k d=>yEp k d.2.1 d.2.2.1) (fun x=>(x,()))
theorem ySu:zD prog vQ4:=fA (rs:=.c (.own qN)) f28 n0 (fun d=>d.1) (e3 qMl JO yVo) zG
def vB7:=zJ 34 [.c (.nilp)] (.agg FK) (fun k d=>qQ6 k) (fun x=>(vU x ()))
theorem yT5:zD prog vB7:=fA (rs:=.agg FK) f34 n0 (fun d=>(qW d)) e0 zG
def vSb:=yK 34 [.chn [Pj,Pk,kA]] (.agg kz) [w7,w8,vQ] 0 (fun k d=>qTn k (iT d) (Pl d) (Pm d)) (fun x=>(vU x.1 ((),(wZ x.2.1 ((),(jO x.2.2.1 (gF x.2.2.2 ())))))))
theorem yJn:zD prog vSb:=fX (rs:=.agg kz) (os:=[w7,w8,vQ]) (ns:=0) f34 n0 0 (fun d=>((qW d),(aal d),(vLc d),(vSr d))) e0 zG
def vIl:=zJ 152 [.c (.nilp),.c .i] (.c (.own (.int .u8))) (fun k d=>yEe k d.2.1) (fun x=>(x,()))
theorem aam:zD prog vIl:=fA (rs:=.c (.own (.int .u8))) f152 n0 (fun d=>d.1) e0 zG
def vPx:=zJ 99 [.c (.nilp),.c .i] (.tup [(false,qI),(false,nN),(false,rf)]) (fun k d=>Pn k d.2.1) (fun x=>(x.1,x.2.1,x.2.2,()))
theorem vXr:zD prog vPx:=fA (rs:=.tup [(false,qI),(false,nN),(false,rf)]) f99 n0 (fun d=>(d.1,d.2.1,d.2.2.1)) (e3 aam yLf JL) zG
def vZc:=zJ 55 [.c (.nilp)] (.tup [(false,qI),(false,qI),(false,nN),(false,rf),(false,[.bool])]) (fun k d=>yL3 k) (fun x=>(wS x ()))
theorem yGs:zD prog vZc:=fA (rs:=.tup [(false,qI),(false,qI),(false,nN),(false,rf),(false,[.bool])]) f55 ⟨[],[],[(2,3)],true⟩ (fun d=>(d.1,d.2.1,d.2.2.1,d.2.2.2.1,d.2.2.2.2.1)) (e1 vXr) (B3 (n:=1) (by kernel_rfl) fun i hi=>match i,hi with|0,_=>.inr ⟨by kernel_rfl,zG⟩|i+1,hi=>absurd hi (by omega))
def vCz:=yK 56 [.c (.p (.nilp)),.c (.p (.dat false (.int .u8)))] (.tup [(false,[.nilp]),(false,[.own (.int .u8)]),(false,[.own (.sl (.int .u8))]),(false,qI)]) [] 0 (fun k d=>yEh k d.2.1) (fun x=>((),x.1,x.2.1,x.2.2,()))
theorem yQk:zD prog vCz:=fX (rs:=.tup [(false,[.nilp]),(false,[.own (.int .u8)]),(false,[.own (.sl (.int .u8))]),(false,qI)]) (os:=[]) (ns:=0) f56 n0 0 (fun d=>(d.2.1,d.2.2.1,d.2.2.2.1)) e0 zG
def vRj:=zJ 61 [.c (.nilp),.c (.dat false (.int .u8))] (.c .i) (fun k d=>Po k d.2.1) (fun x=>(x,()))
theorem yLm:zD prog vRj:=fA (rs:=.c .i) f61 n0 (fun d=>d.1) e0 zG
def yH1:zF:=⟨[(2,.c .i),(3,.c (.lit (.ptr 1001000 0))),(12,.c .bool),(13,.c (.lit .nilp)),(17,.c (.lit (.ptr 1001001 0))),(72,.c (.lit (.osl 1001002 none))),(73,.c .i),(74,.c .i)],[.box true w6,.box true fP,.arr true (.sl (.int .u8))],[(17,some 1,.bool,true),(17,some 2,.bool,true),(17,some 3,.bool,true),(17,some 4,.bool,true),(17,some 5,.bool,true),(17,some 6,.bool,true),(17,some 7,.bool,true),(17,some 8,.bool,true)]⟩
def yNo:zF:=⟨[(2,.c .i),(3,.c (.lit (.ptr 1001000 0))),(12,.c .bool),(13,.c (.lit .nilp)),(17,.c (.lit (.ptr 1001001 0)))],[.box true w6,.box true fP],[]⟩
def yAx (f:qHq)(d:yH1.den):=f d.1.1.1 d.1.2.2.1.1 d.1.2.2.2.2.2.2.1.1 d.1.2.2.2.2.2.2.2.1.1 (yF d.2.1) (qW d.2.2.1) d.2.2.2.1
def qKg:zV:=⟨[yH1],[(.exit 0,yNo)],qX3,fun k d=>yAx (J1 k k) d,fun b x _ K=>K (.exit 0) (zN b yNo (((x.1,()),(),(x.2.1,()),(),(),()),((wS x.2.2.1 ()),(vU x.2.2.2 ()),())))⟩
def yC9:zZ:=⟨[],[(11,qKg)],[],true⟩
theorem vTu:zU prog 1000 0 112 (zR (zS f27) 0) qKg:=lp (A:=yC9) qKg (fun d=>(d.1.1.1,d.1.2.2.1.1,(yF d.2.1),(qW d.2.2.1))) yAx J1 qY8 (Of Og yGs Oo tC yQk OC OF JX yLm Ph) zG
def vTs:=yK 27 [.agg FH,.c (.p (.nilp)),.c (.p .i)] (.tup [(false,[.nilp]),(false,qI)]) [] 0 (fun k d=>yWv k (yF d) d.2.2.2.2.2.2.1) (fun x=>((),x,()))
theorem yW4:zD prog vTs:=fX (rs:=.tup [(false,[.nilp]),(false,qI)]) (os:=[]) (ns:=0) f27 yC9 0 (fun d=>d.2.1) (Of Og yGs Oo tC yQk OC OF JX yLm Ph) (qE vTu)
def yF9:zF:=⟨[(2,.c .i),(4,.c (.lit (.ptr 1001000 0))),(8,.c (.lit (.ptr 1001001 0))),(9,.c (.lit (.ptr 1001002 0))),(10,.c (.lit (.ptr 1001005 0))),(12,.c (.lit (.ptr 1001007 0))),(30,.c (.dat false (.pair .i (.pair .i FI)))),(31,.c .i),(32,.c .i)],[.box true w6,.box true Pp,.box true yMj,.arr true (.int .u8),.arr true (.int .u8),.box true [.lit (.ptr 1001006 0),.i,.dat true wB,.i,.i,.i,.i,.dat true qX,.dat true (.sl .i),.dat true .i,.dat true (.sl .i),.dat true .i,.dat true (.sl .i),.dat true zH,.dat true .i,.i,.bool,.i,.bool],.box true [.lit (.ptr 1001002 0),.i,.i,.i,.bool],.box true [.lit (.osl 1001008 none),.lit (.osl 1001009 none),.i,.lit .nsl,.lit .nsl,.lit .nsl,.lit .nsl,.lit .nsl,.lit .nsl,.lit .nsl,.lit .nsl,.i,.bool,.bool],.arr true (.sl qN),.arr true qN],[(12,some 0,(.sl qN),false),(12,some 1,qN,false)]⟩
def yUh:zF:=⟨[(2,.c .i),(4,.c (.lit (.ptr 1001000 0))),(8,.c (.lit (.ptr 1001001 0))),(9,.c (.lit (.ptr 1001002 0))),(10,.c (.lit .nilp)),(12,.c (.lit (.ptr 1001005 0))),(30,.c (.dat false (.pair .i (.pair .i FI)))),(31,.c .i),(32,.c .i)],[.box true w6,.box true Pp,.box true yMj,.arr true (.int .u8),.arr true (.int .u8),.box true [.lit (.osl 1001006 none),.lit (.osl 1001007 none),.i,.lit .nsl,.lit .nsl,.lit .nsl,.lit .nsl,.lit .nsl,.lit .nsl,.lit .nsl,.lit .nsl,.i,.bool,.bool],.arr true (.sl qN),.arr true qN],[(12,some 0,(.sl qN),false),(12,some 1,qN,false)]⟩
def yK2:zF:=⟨[(8,.c (.lit (.ptr 1001000 0))),(10,.c (.lit .nilp)),(12,.c (.lit (.ptr 1001001 0)))],[.box true Pp,.box true [.lit (.osl 1001002 none),.lit (.osl 1001003 none),.i,.lit .nsl,.lit .nsl,.lit .nsl,.lit .nsl,.lit .nsl,.lit .nsl,.lit .nsl,.lit .nsl,.i,.bool,.bool],.arr true (.sl qN),.arr true qN],[]⟩
def yQ9:zF:=⟨[(8,.c (.lit (.ptr 1001000 0))),(10,.c (.lit (.ptr 1001001 0))),(12,.c (.lit (.ptr 1001006 0)))],[.box true Pp,.box true [.lit (.ptr 1001002 0),.i,.dat true wB,.i,.i,.i,.i,.dat true qX,.dat true (.sl .i),.dat true .i,.dat true (.sl .i),.dat true .i,.dat true (.sl .i),.dat true zH,.dat true .i,.i,.bool,.i,.bool],.box true [.lit (.ptr 1001003 0),.i,.i,.i,.bool],.box true [.i,.lit (.osl 1001004 none),.i,.lit (.osl 1001005 none),.i,.i,.i,.bool,.bool,.i],.arr true (.int .u8),.arr true (.int .u8),.box true [.lit (.osl 1001007 none),.lit (.osl 1001008 none),.i,.lit .nsl,.lit .nsl,.lit .nsl,.lit .nsl,.lit .nsl,.lit .nsl,.lit .nsl,.lit .nsl,.i,.bool,.bool],.arr true (.sl qN),.arr true qN],[]⟩
def yR5 (f:Hu)(d:pw [yF9,yUh]):Option Pq:=match d with|.inl d=>f (.inl (d.1.1.1,d.1.2.2.2.2.2.2.1.1,d.1.2.2.2.2.2.2.2.1.1,d.1.2.2.2.2.2.2.2.2.1.1,(yF d.2.1),(wK d.2.2.1),(ma d.2.2.2.1),d.2.2.2.2.1,d.2.2.2.2.2.1,(jQ d.2.2.2.2.2.2.1),(wK d.2.2.2.2.2.2.2.1),(wK d.2.2.2.2.2.2.2.2.1),d.2.2.2.2.2.2.2.2.2.1,d.2.2.2.2.2.2.2.2.2.2.1))|.inr d=>f (.inr (d.1.1.1,d.1.2.2.2.2.2.2.1.1,d.1.2.2.2.2.2.2.2.1.1,d.1.2.2.2.2.2.2.2.2.1.1,(yF d.2.1),(wK d.2.2.1),(ma d.2.2.2.1),d.2.2.2.2.1,d.2.2.2.2.2.1,(wK d.2.2.2.2.2.2.1),d.2.2.2.2.2.2.2.1,d.2.2.2.2.2.2.2.2.1))
def qV6:zV:=⟨[yF9,yUh],[(.exit 0,yK2),(.exit 0,yQ9)],Pq,fun k d=>yR5 (Au k k) d,fun b x _ K=>match x with|.inl x=>K (.exit 0) (zN b yK2 (((),(),(),()),((jO x.1 ()),(jO x.2.1 ()),x.2.2.1,x.2.2.2,())))|.inr x=>K (.exit 0) (zN b yQ9 (((),(),(),()),((jO x.1 ()),(wZ x.2.1 ()),(jO x.2.2.1 ()),(FO x.2.2.2.1 ()),x.2.2.2.2.1,x.2.2.2.2.2.1,(jO x.2.2.2.2.2.2.1 ()),x.2.2.2.2.2.2.2.1,x.2.2.2.2.2.2.2.2,())))⟩
def yS5:zZ:=⟨[],[(7,qV6)],[],true⟩
theorem vYg:zU prog 1000 0 110 (zR (zS f9) 0) qV6:=lp (A:=yS5) qV6 (fun d=>match d with|.inl d=>.inl ((wK d.2.1),(wK d.2.2.1),d.2.2.2.1,d.2.2.2.2.1)|.inr d=>.inr ((wK d.2.1),(jQ d.2.2.1),(wK d.2.2.2.1),(ma d.2.2.2.2.1),d.2.2.2.2.2.1,d.2.2.2.2.2.2.1,(wK d.2.2.2.2.2.2.2.1),d.2.2.2.2.2.2.2.2.1,d.2.2.2.2.2.2.2.2.2.1)) yR5 Au yl (e13 F2q yJ7 yOg JO yFi qMk yW7 yKa ySu qMl yT5 yJn yW4) zG (hs:=by intro k rec d;rcases d with d|d<;>kernel_rfl) (h0:=by intro k d;rcases d with d|d<;>rfl)
def qX9:=zJ 9 [.agg FH,.c .i,.c .i,.c (.dat false (.pair .i (.pair .i FI)))] (.agg qZm) (fun k d=>Av k (yF d) d.2.2.2.2.2.1 d.2.2.2.2.2.2.1 d.2.2.2.2.2.2.2.1) (fun x=>(O0 x ()))
theorem yNa:zD prog qX9:=fA (rs:=.agg qZm) f9 yS5 (fun d=>(qMq d)) (e13 F2q yJ7 yOg JO yFi qMk yW7 yKa ySu qMl yT5 yJn yW4) (qE vYg)
def yN5:zF:=⟨[(0,.c .i),(1,.c .i),(5,.c (.lit (.osl 1001000 none))),(6,.c .i)],[.arr true .i],[]⟩
def yUc:zF:=⟨[(5,.c (.lit (.osl 1001000 none)))],[.arr true .i],[]⟩
def yK1 (f:qYk)(d:yN5.den):=f d.1.1.1 d.1.2.1.1 d.1.2.2.2.1.1 d.2.1
def qXk:zV:=⟨[yN5],[(.exit 0,yUc)],AC,fun k d=>yK1 (Pr k k) d,fun b x _ K=>K (.exit 0) (zN b yUc (((),()),(x,())))⟩
def yTd:zZ:=⟨[],[(5,qXk)],[],false⟩
theorem vJs:zU prog 1000 0 25 (zR (zS f36) 0) qXk:=lp (A:=yTd) qXk (fun d=>d.2.1) yK1 Pr yA6 e0 zG
def aan:=zJ 36 [.c .i,.c .i] (.c (.own .i)) (fun k d=>qOf k d.1 d.2.1) (fun x=>(x,()))
theorem J2:zD prog aan:=fA (rs:=.c (.own .i)) f36 yTd (fun d=>d.1) e0 (qE vJs)
def yM5:zF:=⟨[(0,.c .i),(1,.c .i),(5,.c (.lit (.osl 1001000 none))),(6,.c .i)],[.mat],[(5,none,(.sl .i),true)]⟩
def yTc:zF:=⟨[(5,.c (.lit (.osl 1001000 none)))],[.mat],[]⟩
def yBn (f:qYr)(d:yM5.den):=f d.1.1.1 d.1.2.1.1 d.1.2.2.2.1.1 d.2.1
def qIi:zV:=⟨[yM5],[(.exit 0,yTc)],EQ,fun k d=>yBn (Ps k k) d,fun b x _ K=>K (.exit 0) (zN b yTc (((),()),(x,())))⟩
def yOt:zZ:=⟨[22,23],[(5,qIi)],[],false⟩
theorem vGd:zU prog 1000 0 25 (zR (zS f35) 0) qIi:=lp (A:=yOt) qIi (fun d=>d.2.1) yBn Ps yE2 (e1 J2) zG
def vPo:=zJ 35 [.c .i,.c .i] (.c (.mat)) (fun k d=>qIf k d.1 d.2.1) (fun x=>(x,()))
theorem qRd:zD prog vPo:=fA (rs:=.c (.mat)) f35 yOt (fun d=>d.1) (e1 J2) (qE vGd)
def yM1:zF:=⟨[(1,.c (.lit (.ptr 1001000 0))),(2,.c (.lit (.ptr 1001001 0))),(3,.c .i),(4,.c (.lit (.ptr 1001002 0))),(5,.c .i)],[.box true oU,.box true eX,.box true Ol,.arr true qX,.mat,.arr true .i,.mat,.arr true .i],[(4,some 5,.i,false)]⟩
def yCx:zF:=⟨[(1,.c (.lit (.ptr 1001000 0))),(2,.c (.lit (.ptr 1001001 0))),(3,.c .i),(4,.c (.lit (.ptr 1001002 0)))],[.box true oU,.box true eX,.box true Ol,.arr true qX,.mat,.arr true .i,.mat,.arr true .i],[]⟩
def yHy (f:qRo)(d:yM1.den):=f d.1.2.2.1.1 d.1.2.2.2.2.1.1 (yF d.2.1) (d.2.2.1.1,d.2.2.1.2.1,d.2.2.1.2.2.1) (d.2.2.2.1.1,d.2.2.2.1.2.1,d.2.2.2.1.2.2.1) d.2.2.2.2.1 d.2.2.2.2.2.1 d.2.2.2.2.2.2.1 d.2.2.2.2.2.2.2.1 d.2.2.2.2.2.2.2.2.1
def Pt:zV:=⟨[yM1],[(.exit 0,yCx)],qSc,fun k d=>yHy (qXw k k) d,fun b x _ K=>K (.exit 0) (zN b yCx (((),(),(x.1,()),(),()),((wS x.2.1 ()),(x.2.2.1.1,x.2.2.1.2.1,x.2.2.1.2.2,()),(x.2.2.2.1.1,x.2.2.2.1.2.1,x.2.2.2.1.2.2,()),x.2.2.2.2.1,x.2.2.2.2.2.1,x.2.2.2.2.2.2.1,x.2.2.2.2.2.2.2.1,x.2.2.2.2.2.2.2.2,())))⟩
def yPq:zF:=⟨[(1,.c (.lit (.ptr 1001000 0))),(2,.c (.lit (.ptr 1001001 0))),(3,.c .i),(4,.c (.lit (.ptr 1001002 0))),(6,.c .i)],[.box true oU,.box true eX,.box true yGd,.arr true qX,.mat,.arr true .i,.mat,.arr true .i,.mat],[(4,some 6,(.sl .i),true)]⟩
def yU1:zF:=⟨[(2,.c (.lit (.ptr 1001000 0))),(4,.c (.lit (.ptr 1001001 0)))],[.box true eX,.box true yBp,.arr true qX,.mat,.arr true .i,.mat,.arr true .i,.mat],[]⟩
def yA5 (f:qWl)(d:yPq.den):=f d.1.2.2.1.1 d.1.2.2.2.2.1.1 (yF d.2.1) (d.2.2.1.1,d.2.2.1.2.1,d.2.2.1.2.2.1) (d.2.2.2.1.1,d.2.2.2.1.2.1,d.2.2.2.1.2.2.1) d.2.2.2.2.1 d.2.2.2.2.2.1 d.2.2.2.2.2.2.1 d.2.2.2.2.2.2.2.1 d.2.2.2.2.2.2.2.2.1 d.2.2.2.2.2.2.2.2.2.1
def Pu:zV:=⟨[yPq],[(.exit 2,yU1)],qRf,fun k d=>yA5 (qQc k k) d,fun b x _ K=>K (.exit 2) (zN b yU1 (((),(),()),((x.1.1,x.1.2.1,x.1.2.2,()),(x.2.1.1,x.2.1.2.1,x.2.1.2.2,()),x.2.2.1,x.2.2.2.1,x.2.2.2.2.1,x.2.2.2.2.2.1,x.2.2.2.2.2.2.1,x.2.2.2.2.2.2.2,())))⟩
def qHc:zZ:=⟨[48,49],[(4,Pt),(8,Pu)],[],true⟩
theorem aao:zU prog 1000 0 52 (zR (zS f10) 0) Pt:=lp (A:=qHc) Pt (fun d=>(d.1.2.2.1.1,(yF d.2.1),(d.2.2.1.1,d.2.2.1.2.1,d.2.2.1.2.2.1),(d.2.2.2.1.1,d.2.2.2.1.2.1,d.2.2.2.1.2.2.1),d.2.2.2.2.1,d.2.2.2.2.2.1,d.2.2.2.2.2.2.1,d.2.2.2.2.2.2.2.1,d.2.2.2.2.2.2.2.2.1)) yHy qXw yRm (e2 qRd J2) zG
theorem vYz:zU prog 1000 0 52 (zR (zS f10) 1) Pu:=lp (A:=qHc) Pu (fun d=>((d.2.1.1,d.2.1.2.1,d.2.1.2.2.1),(d.2.2.1.1,d.2.2.1.2.1,d.2.2.1.2.2.1),d.2.2.2.1,d.2.2.2.2.1,d.2.2.2.2.2.1,d.2.2.2.2.2.2.1,d.2.2.2.2.2.2.2.1,d.2.2.2.2.2.2.2.2.1)) yA5 qQc yXx (e2 qRd J2) zG
def qXt:=zJ 10 [.agg iS] (.agg FK) (fun k d=>JF k (yF d)) (fun x=>(vU x ()))
theorem yNt:zD prog qXt:=fA (rs:=.agg FK) f10 qHc (fun d=>(qW d)) (e2 qRd J2) (loopsOK_of (n:=2) (by kernel_rfl) fun i hi=>match i,hi with|0,_=>⟨Pt,by kernel_rfl,aao⟩|1,_=>⟨Pu,by kernel_rfl,vYz⟩|i+2,hi=>absurd hi (by omega))
def vD2:=zJ 38 [.c .i] (.c .i) (fun k d=>Cp k d.1) (fun x=>(x,()))
theorem WE:zD prog vD2:=fA (rs:=.c .i) f38 n0 (fun d=>d.1) e0 zG
def aap:=zJ 71 [.c .i] (.c .bool) (fun k d=>NU k d.1) (fun x=>(x,()))
theorem vJf:zD prog aap:=fA (rs:=.c .bool) f71 n0 (fun d=>d.1) e0 zG
def vA6:zF:=⟨[(1,.c (.lit (.ptr 1001000 0))),(3,.c .i),(4,.c .i)],[.box true wL],[]⟩
def yCl:zF:=⟨[(3,.c .i)],[],[]⟩
def yL2:zF:=⟨[(2,.c .bool)],[],[]⟩
def yPg (f:qS4)(d:vA6.den):=f d.1.2.1.1 d.1.2.2.1.1 (wD d.2.1)
def qS7:zV:=⟨[vA6],[(.exit 0,yCl),(.ret,yL2)],(Int⊕Bool),fun k d=>yPg (wg k k) d,fun b x _ K=>match x with|.inl x=>K (.exit 0) (zN b yCl (((x,()),()),()))|.inr x=>K .ret (zN b yL2 (((x,()),()),()))⟩
def yO8:zZ:=⟨[],[(3,qS7)],[],true⟩
theorem vU2:zU prog 1000 0 21 (zR (zS f72) 0) qS7:=lp (A:=yO8) qS7 (fun d=>match d with|.inl d=>.inl d.1.1.1|.inr d=>.inr d.1.1.1) yPg wg VE (e1 WE) zG
def vJa:=zJ 72 [.agg vD] (.c .bool) (fun k d=>tA k (wD d)) (fun x=>(x,()))
theorem yHn:zD prog vJa:=fA (rs:=.c .bool) f72 yO8 (fun d=>d.1) (e1 WE) (qE vU2)
def vS0:=zJ 73 [.c .i] (.c .bool) (fun k d=>NV k d.1) (fun x=>(x,()))
theorem vUv:zD prog vS0:=fA (rs:=.c .bool) f73 n0 (fun d=>d.1) e0 zG
def vCh:=zJ 39 [.agg iS,.agg AU] (.c .bool) (fun k d=>AJ k (yF d) (vKo d)) (fun x=>(x,()))
theorem vPl:zD prog vCh:=fA (rs:=.c .bool) f39 n0 (fun d=>d.1) (e3 vJf yHn vUv) zG
def yNk:zF:=⟨[(0,.c (.dat false zH)),(1,.c .i),(5,.c (.lit (.osl 1001000 none))),(6,.c .i)],[.arr true zH],[(5,none,zH,false)]⟩
def yQx:zF:=⟨[(5,.c (.lit (.osl 1001000 none)))],[.arr true zH],[]⟩
def yIx (f:qLw)(d:yNk.den):=f d.1.1.1 d.1.2.1.1 d.1.2.2.2.1.1 d.2.1
def qVz:zV:=⟨[yNk],[(.exit 0,yQx)],qYp,fun k d=>yIx (Ik k k) d,fun b x _ K=>K (.exit 0) (zN b yQx (((),()),(x,())))⟩
def yH2:zZ:=⟨[],[(3,qVz)],[],false⟩
theorem vH7:zU prog 1000 0 28 (zR (zS f40) 0) qVz:=lp (A:=yH2) qVz (fun d=>d.2.1) yIx Ik Dz e0 zG
def qLg:=zJ 40 [.c (.dat false zH),.c .i] (.c (.own zH)) (fun k d=>sQ k d.1 d.2.1) (fun x=>(x,()))
theorem wo:zD prog qLg:=fA (rs:=.c (.own zH)) f40 yH2 (fun d=>d.1) e0 (qE vH7)
def qY4:zF:=⟨[(1,.c (.dat false .i)),(4,.c (.lit (.ptr 1001000 0))),(5,.c (.lit (.ptr 1001001 0))),(6,.c .i)],[.box true wL,.box true wL],[]⟩
def yUu:zF:=⟨[(4,.c (.lit (.ptr 1001000 0))),(5,.c (.lit (.ptr 1001001 0)))],[.box true wL,.box true wL],[]⟩
def yIq (f:qM4)(d:qY4.den):=(lk (lk (f d.1.1.1 d.1.2.2.2.1.1) d.2.1) d.2.2.1)
def qGv:zV:=⟨[qY4],[(.exit 0,yUu)],qGq,fun k d=>yIq (Pv k k) d,fun b x _ K=>K (.exit 0) (zN b yUu (((),(),()),((iR x ()),(yDg x ()),())))⟩
def yRs:zZ:=⟨[],[(3,qGv)],[],false⟩
theorem aaq:zU prog 1000 0 27 (zR (zS f13) 0) qGv:=lp (A:=yRs) qGv (fun d=>(iR d.2.1 (wD d.2.2.1))) yIq Pv yB8 e0 zG
def vOn:=zJ 13 [.c .i,.c (.dat false .i)] (.agg fQ) (fun k d=>fq k d.1 d.2.1) (fun x=>(gb x ()))
theorem wq:zD prog vOn:=fA (rs:=.agg fQ) f13 yRs (fun d=>(wD d)) e0 (qE aaq)
def aar:=zJ 74 [.agg iS,.c .i] (.c .bool) (fun k d=>NT k (yF d) d.2.2.2.2.2.1) (fun x=>(x,()))
theorem Pw:zD prog aar:=fA (rs:=.c .bool) f74 n0 (fun d=>d.1) e0 zG
def vN9:=zJ 75 [.agg vD,.c .i] (.c .bool) (fun k d=>(lj (Vz k) d)) (fun x=>(x,()))
theorem Px:zD prog vN9:=fA (rs:=.c .bool) f75 ⟨[],[],[],false⟩ (fun d=>d.1) e0 zG
def yXb:zF:=⟨[(0,.c (.dat false zH)),(1,.c .i),(5,.c .i)],[],[]⟩
def yXy:zF:=⟨[],[],[]⟩
def yF2:zF:=⟨[(4,.c .i)],[],[]⟩
def yBo (f:qJr)(d:yXb.den):=f d.1.1.1 d.1.2.1.1 d.1.2.2.1.1
def qKm:zV:=⟨[yXb],[(.exit 0,yXy),(.ret,yF2)],(Unit⊕Int),fun k d=>yBo (DH k k) d,fun b x _ K=>match x with|.inl x=>K (.exit 0) (zN b yXy ((),()))|.inr x=>K .ret (zN b yF2 (((x,()),()),()))⟩
def yE0:zZ:=⟨[],[(2,qKm)],[],false⟩
theorem vW8:zU prog 1000 0 20 (zR (zS f44) 0) qKm:=lp (A:=yE0) qKm (fun d=>match d with|.inl d=>.inl ()|.inr d=>.inr d.1.1.1) yBo DH DI e0 zG
def vD0:=zJ 44 [.c (.dat false zH),.c .i] (.c .i) (fun k d=>lS k d.1 d.2.1) (fun x=>(x,()))
theorem Od:zD prog vD0:=fA (rs:=.c .i) f44 yE0 (fun d=>d.1) e0 (qE vW8)
def vZu:=zJ 76 [.c (.dat true zH),.c .i] (.tup [(false,vK),(true,fQ),(false,qI)]) (fun k d=>mJ k d.1 d.2.1) (fun x=>(OK x ()))
theorem ll:zD prog vZu:=fA (rs:=.tup [(false,vK),(true,fQ),(false,qI)]) f76 ⟨[],[],[],false⟩ (fun d=>(OM d)) (e1 Od) zG
def vE8:=zJ 77 [.agg iS,.c .i] (.c .bool) (fun k d=>JB k (yF d) d.2.2.2.2.2.1) (fun x=>(x,()))
theorem Py:zD prog vE8:=fA (rs:=.c .bool) f77 n0 (fun d=>d.1) e0 zG
def vMh:=zJ 232 [.agg vD,.c .i] (.c .bool) (fun k d=>(lj (TS k) d)) (fun x=>(x,()))
theorem yHg:zD prog vMh:=fA (rs:=.c .bool) f232 ⟨[],[],[],false⟩ (fun d=>d.1) e0 zG
def yZn:zF:=⟨[(0,.c (.dat false zH)),(1,.c .i),(5,.c (.lit (.osl 1001000 none))),(6,.c .i)],[.arr true zH],[(5,none,zH,false)]⟩
def yQ6:zF:=⟨[(5,.c (.lit (.osl 1001000 none)))],[.arr true zH],[]⟩
def yE9 (f:qXh)(d:yZn.den):=f d.1.1.1 d.1.2.1.1 d.1.2.2.2.1.1 d.2.1
def qH9:zV:=⟨[yZn],[(.exit 0,yQ6)],qXi,fun k d=>yE9 (Ij k k) d,fun b x _ K=>K (.exit 0) (zN b yQ6 (((),()),(x,())))⟩
def yFj:zZ:=⟨[],[(3,qH9)],[],false⟩
theorem vN6:zU prog 1000 0 27 (zR (zS f191) 0) qH9:=lp (A:=yFj) qH9 (fun d=>d.2.1) yE9 Ij Dy (e1 yHg) zG
def qM7:=zJ 191 [.c (.dat false zH),.c .i] (.c (.own zH)) (fun k d=>Dx k d.1 d.2.1) (fun x=>(x,()))
theorem A0:zD prog qM7:=fA (rs:=.c (.own zH)) f191 yFj (fun d=>d.1) (e1 yHg) (qE vN6)
def yW5:zF:=⟨[(5,.c (.lit (.osl 1001000 none))),(6,.c (.lit (.osl 1001001 none))),(7,.c .i),(8,.c (.lit (.osl 1001002 none))),(9,.c .bool),(10,.c .i)],[.arr true zH,.arr true zH,.arr true zH],[]⟩
def yNy:zF:=⟨[(5,.c (.lit (.osl 1001000 none))),(6,.c (.lit (.osl 1001001 none))),(7,.c .i),(8,.c (.lit (.osl 1001002 none))),(9,.c .bool)],[.arr true zH,.arr true zH,.arr true zH],[]⟩
def yMs (f:qOc)(d:yW5.den):=f d.1.2.2.1.1 d.1.2.2.2.2.1.1 d.1.2.2.2.2.2.1.1 d.2.1 d.2.2.1 d.2.2.2.1
def qYq:zV:=⟨[yW5],[(.exit 2,yNy)],qJs,fun k d=>yMs (DA k k) d,fun b x _ K=>K (.exit 2) (zN b yNy (((),(),(x.1,()),(),(x.2.1,()),()),(x.2.2.1,x.2.2.2.1,x.2.2.2.2,())))⟩
def yWj:zF:=⟨[(5,.c (.lit (.osl 1001000 none))),(6,.c (.lit (.osl 1001001 none))),(7,.c .i)],[.arr true zH,.arr true zH],[(6,none,zH,false)]⟩
def yQ2:zF:=⟨[(6,.c (.lit (.osl 1001000 none)))],[.arr true zH],[]⟩
def yK9 (f:qN8)(d:yWj.den):=f d.1.2.2.1.1 d.2.1 d.2.2.1
def qJf:zV:=⟨[yWj],[(.exit 0,yQ2)],qKd,fun k d=>yK9 (Im k k) d,fun b x _ K=>K (.exit 0) (zN b yQ2 (((),()),(x,())))⟩
def vIf:Env:=⟨prog,fun t=>[142].any (Nat.beq t),eQ [qM7,qLg]⟩
theorem qP8:jA vIf:=Lp (l:=[qM7,qLg]) (eqT:=fun t=>[142].any (Nat.beq t)) (QV (fun t h=>Sm (p:=fun t=>prog.keyTypeAt 8 t&& !prog.eqGuardType prog.depth t) (l:=[142]) (List.forall_mem_cons.2 ⟨by kernel_rfl,List.forall_mem_nil _⟩) t h)) gh ⟨A0,wo,trivial⟩
def qNk:zZ:=⟨[],[(9,qYq),(4,qJf)],[],false⟩
theorem aas:zU prog 1000 0 61 (zR (zR (zS f263) 0) 0) qYq:=lp (A:=qNk) qYq (fun d=>(d.1.2.2.1.1,d.1.2.2.2.2.1.1,d.2.1,d.2.2.1,d.2.2.2.1)) yMs DA DB qP8 zG
theorem vNc:zU prog 1000 0 61 (zR (zS f263) 0) qJf:=lp (A:=qNk) qJf (fun d=>d.2.1) yK9 Im DC qP8 (qE aas)
def vS4:=zJ 263 [.c (.dat false zH),.c .i] (.c (.own zH)) (fun k d=>Il k d.1 d.2.1) (fun x=>(x,()))
theorem J3:zD prog vS4:=fA (rs:=.c (.own zH)) f263 qNk (fun d=>d.1) qP8 (qE vNc)
def vWq:=zJ 266 [.agg jJ,.agg vD] (.c .bool) (fun k d=>(rj (Tu k) d)) (fun x=>(x,()))
theorem yN0:zD prog vWq:=fA (rs:=.c .bool) f266 ⟨[],[],[],false⟩ (fun d=>d.1) e0 zG
def yKo:zF:=⟨[(1,.c (.dat false zH)),(2,.c (.lit (.ptr 1001000 0))),(5,.c .i)],[.box true jN],[]⟩
def yQ0:zF:=⟨[(1,.c (.dat false zH))],[],[]⟩
def yRd:zF:=⟨[(4,.c .bool)],[],[]⟩
def yVi (f:qLr)(d:yKo.den):=(yZ (f d.1.1.1 d.1.2.2.1.1) d.2.1)
def qPe:zV:=⟨[yKo],[(.exit 0,yQ0),(.ret,yRd)],qYf,fun k d=>yVi (HZ k k) d,fun b x _ K=>match x with|.inl x=>K (.exit 0) (zN b yQ0 (((x,()),()),()))|.inr x=>K .ret (zN b yRd (((x,()),()),()))⟩
def yPm:zZ:=⟨[],[(2,qPe)],[],false⟩
theorem vMe:zU prog 1000 0 22 (zR (zS f233) 0) qPe:=lp (A:=yPm) qPe (fun d=>match d with|.inl d=>.inl d.1.1.1|.inr d=>.inr d.1.1.1) yVi HZ CU (e1 yN0) zG
def vM2:=zJ 233 [.agg jJ,.c (.dat false zH)] (.c .bool) (fun k d=>(kC (HY k) d)) (fun x=>(x,()))
theorem Pz:zD prog vM2:=fA (rs:=.c .bool) f233 yPm (fun d=>d.1) (e1 yN0) (qE vMe)
def yDj:zF:=⟨[(0,.c (.dat false (.sl .i))),(3,.c (.lit (.osl 1001000 none))),(4,.c .i)],[.mat],[(3,none,(.sl .i),true)]⟩
def yBs:zF:=⟨[(3,.c (.lit (.osl 1001000 none)))],[.mat],[]⟩
def yZd (f:qLu)(d:yDj.den):=f d.1.1.1 d.1.2.2.1.1 d.2.1
def qTx:zV:=⟨[yDj],[(.exit 0,yBs)],EQ,fun k d=>yZd (HN k k) d,fun b x _ K=>K (.exit 0) (zN b yBs (((),()),(x,())))⟩
def yOe:zZ:=⟨[18,19],[(3,qTx)],[],false⟩
theorem vXk:zU prog 1000 0 21 (zR (zS f183) 0) qTx:=lp (A:=yOe) qTx (fun d=>d.2.1) yZd HN CM e0 zG
def vGy:=zJ 183 [.c (.dat false (.sl .i))] (.c (.mat)) (fun k d=>HO k d.1) (fun x=>(x,()))
theorem aat:zD prog vGy:=fA (rs:=.c (.mat)) f183 yOe (fun d=>d.1) e0 (qE vXk)
def vKl:=zJ 126 [.agg jJ] (.agg ON) (fun k d=>(yZ (nC k) d)) (fun x=>(jO x ()))
theorem wj:zD prog vKl:=fA (rs:=.agg ON) f126 ⟨[],[],[],false⟩ (fun d=>(wK d)) (e1 aat) zG
def yBb:zF:=⟨[(0,.c (.dat false zH)),(1,.c .i),(6,.c .i),(7,.c .i),(8,.c .i)],[],[]⟩
def yXr:zF:=⟨[(6,.c .i),(7,.c .i)],[],[]⟩
def yQp (f:qLd)(d:yBb.den):=f d.1.1.1 d.1.2.1.1 d.1.2.2.1.1 d.1.2.2.2.1.1 d.1.2.2.2.2.1.1
def qWi:zV:=⟨[yBb],[(.exit 0,yXr)],vJ,fun k d=>yQp (H3 k k) d,fun b x _ K=>K (.exit 0) (zN b yXr (((x.1,()),(x.2,()),()),()))⟩
def yBy:zZ:=⟨[],[(3,qWi)],[],false⟩
theorem vM7:zU prog 1000 0 46 (zR (zS f267) 0) qWi:=lp (A:=yBy) qWi (fun d=>(d.1.1.1,d.1.2.1.1)) yQp H3 CZ e0 zG
def vHy:=zJ 267 [.c (.dat false zH),.c .i] (.tup [(false,qI),(false,qI)]) (fun k d=>H2 k d.1 d.2.1) (fun x=>(x.1,x.2,()))
theorem qOq:zD prog vHy:=fA (rs:=.tup [(false,qI),(false,qI)]) f267 yBy (fun d=>(d.1,d.2.1)) e0 (qE vM7)
def vVu:=zJ 235 [.c (.dat false zH),.c .i] (.c .i) (fun k d=>L9 k d.1 d.2.1) (fun x=>(x,()))
theorem qPk:zD prog vVu:=fA (rs:=.c .i) f235 ⟨[],[],[],false⟩ (fun d=>d.1) (e1 qOq) zG
def vY3:=zJ 234 [.agg mM,.c .i] (.c .i) (fun k d=>(yZ (C3 k) d)) (fun x=>(x,()))
theorem J4:zD prog vY3:=fA (rs:=.c .i) f234 ⟨[],[],[],false⟩ (fun d=>d.1) e0 zG
def yH0:zF:=⟨[(0,.c (.dat false zH)),(1,.c .i),(2,.c .i),(7,.c .i),(8,.c .i)],[],[]⟩
def yNw:zF:=⟨[(7,.c .i)],[],[]⟩
def yP0 (f:qOj)(d:yH0.den):=f d.1.1.1 d.1.2.1.1 d.1.2.2.1.1 d.1.2.2.2.1.1 d.1.2.2.2.2.1.1
def qRi:zV:=⟨[yH0],[(.exit 0,yNw)],Int,fun k d=>yP0 (H0 k k) d,fun b x _ K=>K (.exit 0) (zN b yNw (((x,()),()),()))⟩
def yN7:zZ:=⟨[],[(3,qRi)],[],false⟩
theorem vMf:zU prog 1000 0 39 (zR (zS f268) 0) qRi:=lp (A:=yN7) qRi (fun d=>d.1.1.1) yP0 H0 CY e0 zG
def vE4:=zJ 268 [.c (.dat false zH),.c .i,.c .i] (.c .i) (fun k d=>uS k d.1 d.2.1 d.2.2.1) (fun x=>(x,()))
theorem qU8:zD prog vE4:=fA (rs:=.c .i) f268 yN7 (fun d=>d.1) e0 (qE vMf)
def vVh:=zJ 236 [.c (.dat false zH),.c .i,.c .i] (.c .i) (fun k d=>L7 k d.1 d.2.1 d.2.2.1) (fun x=>(x,()))
theorem qRx:zD prog vVh:=fA (rs:=.c .i) f236 ⟨[],[],[],false⟩ (fun d=>d.1) (e1 qU8) zG
def yW0:zF:=⟨[(0,.c (.dat false (.sl .i))),(1,.c .i),(5,.c .i)],[],[]⟩
def yEq:zF:=⟨[],[],[]⟩
def yWp:zF:=⟨[(4,.c .bool)],[],[]⟩
def qZt (f:qUe)(d:yW0.den):=f d.1.1.1 d.1.2.1.1 d.1.2.2.1.1
def qKo:zV:=⟨[yW0],[(.exit 0,yEq),(.ret,yWp)],(Unit⊕Bool),fun k d=>qZt (HE k k) d,fun b x _ K=>match x with|.inl x=>K (.exit 0) (zN b yEq ((),()))|.inr x=>K .ret (zN b yWp (((x,()),()),()))⟩
def yV9:zZ:=⟨[],[(4,qKo)],[],false⟩
theorem aau:zU prog 1000 0 22 (zR (zS f269) 0) qKo:=lp (A:=yV9) qKo (fun d=>match d with|.inl d=>.inl ()|.inr d=>.inr d.1.1.1) qZt HE Cz e0 zG
def vE0:=zJ 269 [.c (.dat false (.sl .i)),.c .i] (.c .bool) (fun k d=>HD k d.1 d.2.1) (fun x=>(x,()))
theorem qM8:zD prog vE0:=fA (rs:=.c .bool) f269 yV9 (fun d=>d.1) e0 (qE aau)
def vOg:=zJ 186 [.agg mM] (.c .bool) (fun k d=>HB k d.1 d.2.1 d.2.2.1) (fun x=>(x,()))
theorem Oc:zD prog vOg:=fA (rs:=.c .bool) f186 ⟨[],[],[],false⟩ (fun d=>d.1) e0 zG
def vFu:=zJ 270 [.c .i] (.c .bool) (fun k d=>HC k d.1) (fun x=>(x,()))
theorem qTp:zD prog vFu:=fA (rs:=.c .bool) f270 ⟨[],[],[],false⟩ (fun d=>d.1) e0 zG
def yQm:zF:=⟨[(1,.c (.lit (.ptr 1001000 0))),(3,.c .i),(4,.c .i),(5,.c .i)],[.box true jN],[]⟩
def yT0:zF:=⟨[(1,.c (.lit (.ptr 1001000 0))),(3,.c .i),(4,.c .i)],[.box true jN],[]⟩
def yYv:zF:=⟨[(2,.c .bool)],[],[]⟩
def yKi (f:qQ7)(d:yQm.den):=(yZ (f d.1.2.1.1 d.1.2.2.1.1 d.1.2.2.2.1.1) d.2.1)
def qL8:zV:=⟨[yQm],[(.exit 2,yT0),(.ret,yYv)],qP3,fun k d=>yKi (CA k k) d,fun b x _ K=>match x with|.inl x=>K (.exit 2) (zN b yT0 (((),(x.1,()),(x.2.1,()),()),((zy x ()),())))|.inr x=>K .ret (zN b yYv (((x,()),()),()))⟩
def yDv:zF:=⟨[(1,.c (.lit (.ptr 1001000 0))),(3,.c .i),(4,.c .i)],[.box true jN],[]⟩
def yWn:zF:=⟨[],[],[]⟩
def yLi:zF:=⟨[(2,.c .bool)],[],[]⟩
def yUf (f:qRb)(d:yDv.den):=(yZ (f d.1.2.1.1 d.1.2.2.1.1) d.2.1)
def qLq:zV:=⟨[yDv],[(.exit 0,yWn),(.ret,yLi)],(Unit⊕Bool),fun k d=>yUf (CC k k) d,fun b x _ K=>match x with|.inl x=>K (.exit 0) (zN b yWn ((),()))|.inr x=>K .ret (zN b yLi (((x,()),()),()))⟩
def qHp:zZ:=⟨[],[(10,qL8),(5,qLq)],[],false⟩
theorem vYb:zU prog 1000 0 114 (zR (zR (zS f237) 0) 0) qL8:=lp (A:=qHp) qL8 (fun d=>match d with|.inl d=>.inl (d.1.2.1.1,d.1.2.2.1.1,(wK d.2.1))|.inr d=>.inr d.1.1.1) yKi CA CB (e3 qM8 Oc qTp) zG
theorem vKj:zU prog 1000 0 114 (zR (zS f237) 0) qLq:=lp (A:=qHp) qLq (fun d=>match d with|.inl d=>.inl ()|.inr d=>.inr d.1.1.1) yUf CC CD (e3 qM8 Oc qTp) (qE vYb)
def vMy:=zJ 237 [.agg jJ] (.c .bool) (fun k d=>(yZ (LO k) d)) (fun x=>(x,()))
theorem qHz:zD prog vMy:=fA (rs:=.c .bool) f237 qHp (fun d=>d.1) (e3 qM8 Oc qTp) (qE vKj)
def yJw:zF:=⟨[(1,.c (.dat false zH)),(2,.c (.lit (.ptr 1001000 0))),(4,.c (.lit (.ptr 1001001 0))),(6,.c (.lit (.ptr 1001002 0))),(7,.c .i),(8,.c .i)],[.box true vV,.box true mN,.box true qy,.arr true qX,.mat,.arr true .i,.mat],[]⟩
def yZ9:zF:=⟨[(1,.c (.dat false zH)),(2,.c (.lit (.ptr 1001000 0))),(4,.c (.lit (.ptr 1001001 0))),(6,.c (.lit (.ptr 1001002 0))),(7,.c .i)],[.box true vV,.box true mN,.box true qy,.arr true qX,.mat,.arr true .i,.mat],[]⟩
def yYu (f:qXp)(d:yJw.den):=(yZ (f d.1.1.1 d.1.2.2.2.2.1.1 d.1.2.2.2.2.2.1.1) d.2.1) d.2.2.2.2.1 d.2.2.2.2.2.1 d.2.2.2.2.2.2.1 d.2.2.2.2.2.2.2.1
def qG2:zV:=⟨[yJw],[(.exit 2,yZ9)],qGr,fun k d=>yYu (C4 k k) d,fun b x _ K=>K (.exit 2) (zN b yZ9 (((x.1,()),(),(),(),(x.2.1,()),()),((OG x ()),(),(),x.2.2.2.2.2.2.1,x.2.2.2.2.2.2.2.1,x.2.2.2.2.2.2.2.2.1,x.2.2.2.2.2.2.2.2.2,())))⟩
def yPu:zF:=⟨[(1,.c (.dat false zH)),(2,.c (.lit (.ptr 1001000 0))),(4,.c (.lit (.ptr 1001001 0))),(6,.c (.lit (.ptr 1001002 0))),(7,.c .i)],[.box true vV,.box true mN,.box true qy,.arr true qX,.mat,.arr true .i,.mat],[]⟩
def yKq:zF:=⟨[(2,.c (.lit (.ptr 1001000 0))),(4,.c (.lit (.ptr 1001001 0))),(6,.c (.lit (.ptr 1001002 0)))],[.box true vV,.box true mN,.box true qy,.arr true qX,.mat,.arr true .i,.mat],[]⟩
def yNh (f:qL4)(d:yPu.den):=(yZ (f d.1.1.1 d.1.2.2.2.2.1.1) d.2.1) d.2.2.2.2.1 d.2.2.2.2.2.1 d.2.2.2.2.2.2.1 d.2.2.2.2.2.2.2.1
def qNi:zV:=⟨[yPu],[(.exit 0,yKq)],qQi,fun k d=>yNh (C6 k k) d,fun b x _ K=>K (.exit 0) (zN b yKq (((),(),(),()),((vP x ()),(),(),x.2.2.2.2.1,x.2.2.2.2.2.1,x.2.2.2.2.2.2.1,x.2.2.2.2.2.2.2,())))⟩
def qIx:zZ:=⟨[],[(9,qG2),(5,qNi)],[],false⟩
theorem vXn:zU prog 1000 0 84 (zR (zR (zS f192) 0) 0) qG2:=lp (A:=qIx) qG2 (fun d=>(d.1.1.1,d.1.2.2.2.2.1.1,(vP d.2.1 (d.2.2.2.2.1,d.2.2.2.2.2.1,d.2.2.2.2.2.2.1,d.2.2.2.2.2.2.2.1)))) yYu C4 C5 (e6 Pz wj qPk J4 qRx qHz) zG
theorem vJ9:zU prog 1000 0 84 (zR (zS f192) 0) qNi:=lp (A:=qIx) qNi (fun d=>(vP d.2.1 (d.2.2.2.2.1,d.2.2.2.2.2.1,d.2.2.2.2.2.2.1,d.2.2.2.2.2.2.2.1))) yNh C6 C7 (e6 Pz wj qPk J4 qRx qHz) (qE vXn)
def vNp:=zJ 192 [.agg ke,.c (.dat false zH)] (.tup [(true,jC),(false,qI)]) (fun k d=>(kC (yw k) d)) (fun x=>(wS x ()))
theorem qSv:zD prog vNp:=fA (rs:=.tup [(true,jC),(false,qI)]) f192 qIx (fun d=>(yF d)) (e6 Pz wj qPk J4 qRx qHz) (qE vJ9)
def yAu:zF:=⟨[(1,.c .i),(2,.c (.lit (.ptr 1001000 0))),(5,.c .i),(6,.c .i)],[.box true jN],[]⟩
def yT6:zF:=⟨[(5,.c .i)],[],[]⟩
def yM6 (f:qVb)(d:yAu.den):=(yZ (f d.1.1.1 d.1.2.2.1.1 d.1.2.2.2.1.1) d.2.1)
def qOz:zV:=⟨[yAu],[(.exit 0,yT6)],Int,fun k d=>yM6 (C8 k k) d,fun b x _ K=>K (.exit 0) (zN b yT6 (((x,()),()),()))⟩
def yVl:zZ:=⟨[],[(3,qOz)],[],false⟩
theorem vMb:zU prog 1000 0 28 (zR (zS f287) 0) qOz:=lp (A:=yVl) qOz (fun d=>d.1.1.1) yM6 C8 C9 e0 zG
def vZb:=zJ 287 [.agg jJ,.c .i] (.c .i) (fun k d=>(kC (Md k) d)) (fun x=>(x,()))
theorem yAw:zD prog vZb:=fA (rs:=.c .i) f287 yVl (fun d=>d.1) e0 (qE vMb)
def yKe:zF:=⟨[(1,.c (.dat false zH)),(2,.c .i),(3,.c (.lit (.ptr 1001000 0))),(7,.c .i),(8,.c .i),(9,.c .i),(10,.c .i),(11,.c .i)],[.box true jN],[]⟩
def yRr:zF:=⟨[(2,.c .i),(3,.c (.lit (.ptr 1001000 0))),(7,.c .i),(8,.c .i),(9,.c .i),(10,.c .i)],[.box true jN],[]⟩
def vAw:zF:=⟨[(6,.c .bool)],[],[]⟩
def yOw (f:qI5)(d:yKe.den):=(yZ (f d.1.1.1 d.1.2.1.1 d.1.2.2.2.1.1 d.1.2.2.2.2.1.1 d.1.2.2.2.2.2.1.1 d.1.2.2.2.2.2.2.1.1 d.1.2.2.2.2.2.2.2.1.1) d.2.1)
def qVp:zV:=⟨[yKe],[(.exit 0,yRr),(.ret,vAw)],qW1,fun k d=>yOw (qf k k) d,fun b x _ K=>match x with|.inl x=>K (.exit 0) (zN b yRr (((x.1,()),(),(x.2.1,()),(x.2.2.1,()),(x.2.2.2.1,()),(x.2.2.2.2.1,()),()),((aav x ()),())))|.inr x=>K .ret (zN b vAw (((x,()),()),()))⟩
def yDm:zZ:=⟨[],[(7,qVp)],[],false⟩
theorem vIx:zU prog 1000 0 130 (zR (zS f265) 0) qVp:=lp (A:=yDm) qVp (fun d=>match d with|.inl d=>.inl (d.1.1.1,d.1.2.2.1.1,d.1.2.2.2.1.1,d.1.2.2.2.2.1.1,d.1.2.2.2.2.2.1.1,(wK d.2.1))|.inr d=>.inr d.1.1.1) yOw qf Db (e4 qOq yAw qU8 J4) zG
def aaw:=zJ 265 [.agg jJ,.c (.dat false zH),.c .i] (.c .bool) (fun k d=>(iU (Mj k) d)) (fun x=>(x,()))
theorem yAv:zD prog aaw:=fA (rs:=.c .bool) f265 yDm (fun d=>d.1) (e4 qOq yAw qU8 J4) (qE vIx)
def yJu:zF:=⟨[(1,.c (.dat false zH)),(2,.c (.lit (.ptr 1001000 0))),(5,.c (.lit (.osl 1001001 none))),(6,.c .i)],[.box true jN,.arr true .i],[(5,none,.i,false)]⟩
def yV0:zF:=⟨[(5,.c (.lit (.osl 1001000 none)))],[.arr true .i],[]⟩
def yRk (f:qHx)(d:yJu.den):=(yZ (f d.1.1.1 d.1.2.2.2.1.1) d.2.1) d.2.2.1
def qTc:zV:=⟨[yJu],[(.exit 0,yV0)],AC,fun k d=>yRk (sO k k) d,fun b x _ K=>K (.exit 0) (zN b yV0 (((),()),(x,())))⟩
def yHx:zZ:=⟨[],[(3,qTc)],[],false⟩
theorem vJd:zU prog 1000 0 23 (zR (zS f231) 0) qTc:=lp (A:=yHx) qTc (fun d=>d.2.1) yRk sO qg (e1 yAv) zG
def vPd:=zJ 231 [.agg jJ,.c (.dat false zH)] (.c (.own .i)) (fun k d=>(kC (sN k) d)) (fun x=>(x,()))
theorem J5:zD prog vPd:=fA (rs:=.c (.own .i)) f231 yHx (fun d=>d.1) (e1 yAv) (qE vJd)
def vMs:=zJ 264 [.agg jJ,.c (.dat false zH)] (.c .bool) (fun k d=>(kC (H5 k) d)) (fun x=>(x,()))
theorem aax:zD prog vMs:=fA (rs:=.c .bool) f264 ⟨[],[],[],false⟩ (fun d=>d.1) (e2 Pz J5) zG
def vF7:=zJ 229 [.agg ke,.c (.dat false zH)] (.tup [(true,jC),(false,[.bool])]) (fun k d=>(kC (tv k) d)) (fun x=>(wS x ()))
theorem tD:zD prog vF7:=fA (rs:=.tup [(true,jC),(false,[.bool])]) f229 ⟨[],[],[],false⟩ (fun d=>(yF d)) (e2 qSv aax) zG
def yD2:zF:=⟨[(3,.c (.lit (.ptr 1001000 0))),(6,.c (.lit (.ptr 1001001 0))),(8,.c (.lit (.osl 1001002 none))),(9,.c .i)],[.box true vV,.box true wL,.arr true zH],[]⟩
def yCv:zF:=⟨[(6,.c (.lit (.ptr 1001000 0)))],[.box true wL],[]⟩
def yMl:zF:=⟨[(6,.c (.lit (.ptr 1001000 0))),(7,.c .bool)],[.box true wL],[]⟩
def yHp (f:qHj)(d:yD2.den):=(lk (yZ (f d.1.2.2.2.1.1) d.2.1) d.2.2.1) d.2.2.2.1
def qMb:zV:=⟨[yD2],[(.exit 0,yCv),(.ret,yMl)],qRj,fun k d=>yHp (Jr k k) d,fun b x _ K=>match x with|.inl x=>K (.exit 0) (zN b yCv (((),()),((gb x ()),())))|.inr x=>K .ret (zN b yMl (((),(x.1,()),()),((yBe x ()),())))⟩
def vBg:zZ:=⟨[],[(3,qMb)],[],false⟩
theorem aay:zU prog 1000 0 37 (zR (zS f228) 0) qMb:=lp (A:=vBg) qMb (fun d=>match d with|.inl d=>.inl (wD d.2.1)|.inr d=>.inr (d.1.2.1.1,(wD d.2.1))) yHp Jr Fc (e2 J3 tD) zG
def vOb:=zJ 228 [.agg ke,.c (.dat true zH),.c .i] (.tup [(true,fQ),(false,[.bool])]) (fun k d=>(iU (NM k) d)) (fun x=>(FO x ()))
theorem ySd:zD prog vOb:=fA (rs:=.tup [(true,fQ),(false,[.bool])]) f228 vBg (fun d=>(ma d)) (e2 J3 tD) (qE aay)
def yV5:zF:=⟨[(1,.c (.dat true zH)),(2,.c .i),(3,.c (.lit (.ptr 1001000 0))),(6,.c (.lit (.ptr 1001001 0))),(9,.c (.lit (.osl 1001002 none)))],[.box true vV,.box true mN,.arr true zH],[(9,none,zH,false)]⟩
def ySx:zF:=⟨[(6,.c (.lit (.ptr 1001000 0))),(7,.c (.dat true zH)),(8,.c (.lit (.osl 1001001 none)))],[.box true vV,.arr true zH],[]⟩
def yGn (f:qWq)(d:yV5.den):=(yZ (f d.1.1.1 d.1.2.1.1) d.2.1) d.2.2.2.1
def qYj:zV:=⟨[yV5],[(.ret,ySx)],qOr,fun k d=>yGn (Js k k) d,fun b x _ K=>K .ret (zN b ySx (((),(x.1,()),(),()),((gH x ()),x.2.2.2.2.2,())))⟩
def yIw:zZ:=⟨[],[(2,qYj)],[],false⟩
theorem vEl:zU prog 1000 0 43 (zR (zS f187) 0) qYj:=lp (A:=yIw) qYj (fun d=>(d.1.2.1.1,(vP d.2.1 d.2.2.1))) yGn Js Fe (e3 ySd tD ll) zG
def vBx:=zJ 187 [.agg ke,.c (.dat true zH),.c .i] (.tup [(true,jC),(false,vK),(false,[.own zH])]) (fun k d=>(iU (NN k) d)) (fun x=>(mO x ()))
theorem yR9:zD prog vBx:=fA (rs:=.tup [(true,jC),(false,vK),(false,[.own zH])]) f187 yIw (fun d=>(mb d)) (e3 ySd tD ll) (qE vEl)
def yXe:zF:=⟨[(3,.c (.lit (.ptr 1001000 0))),(6,.c (.lit (.ptr 1001001 0))),(7,.c (.lit (.ptr 1001002 0))),(9,.c (.lit (.osl 1001003 none))),(10,.c .i),(11,.c .i)],[.box true vV,.box true wL,.box true wL,.arr true zH],[]⟩
def yRy:zF:=⟨[(3,.c (.lit (.ptr 1001000 0))),(6,.c (.lit (.ptr 1001001 0))),(7,.c (.lit (.ptr 1001002 0))),(9,.c (.lit (.osl 1001003 none))),(10,.c .i)],[.box true vV,.box true wL,.box true wL,.arr true zH],[]⟩
def yJm:zF:=⟨[(6,.c (.lit (.ptr 1001000 0))),(7,.c (.lit (.ptr 1001001 0))),(8,.c .bool)],[.box true wL,.box true wL],[]⟩
def yRo (f:qR6)(d:yXe.den):=(lk (lk (yZ (f d.1.2.2.2.2.1.1 d.1.2.2.2.2.2.1.1) d.2.1) d.2.2.1) d.2.2.2.1) d.2.2.2.2.1
def qW0:zV:=⟨[yXe],[(.exit 2,yRy),(.ret,yJm)],qTr,fun k d=>yRo (Ju k k) d,fun b x _ K=>match x with|.inl x=>K (.exit 2) (zN b yRy (((),(),(),(),(x.1,()),()),((gH x ()),(vT9 x ()),(vIk x ()),x.2.2.2.2.2.2.2.2.2.2.2.2.2.2.2.2.2.2.2,())))|.inr x=>K .ret (zN b yJm (((),(),(x.1,()),()),((qPy x ()),(yQl x ()),())))⟩
def yLq:zF:=⟨[(3,.c (.lit (.ptr 1001000 0))),(6,.c (.lit (.ptr 1001001 0))),(7,.c (.lit (.ptr 1001002 0))),(9,.c (.lit (.osl 1001003 none))),(10,.c .i)],[.box true vV,.box true wL,.box true wL,.arr true zH],[]⟩
def yH4:zF:=⟨[(6,.c (.lit (.ptr 1001000 0))),(7,.c (.lit (.ptr 1001001 0)))],[.box true wL,.box true wL],[]⟩
def yHo:zF:=⟨[(6,.c (.lit (.ptr 1001000 0))),(7,.c (.lit (.ptr 1001001 0))),(8,.c .bool)],[.box true wL,.box true wL],[]⟩
def yVw (f:qSe)(d:yLq.den):=(lk (lk (yZ (f d.1.2.2.2.2.1.1) d.2.1) d.2.2.1) d.2.2.2.1) d.2.2.2.2.1
def qKf:zV:=⟨[yLq],[(.exit 0,yH4),(.ret,yHo)],qHw,fun k d=>yVw (Jv k k) d,fun b x _ K=>match x with|.inl x=>K (.exit 0) (zN b yH4 (((),(),()),((iR x ()),(yDg x ()),())))|.inr x=>K .ret (zN b yHo (((),(),(x.1,()),()),((qPy x ()),(yQl x ()),())))⟩
def qYo:zZ:=⟨[],[(6,qW0),(3,qKf)],[],false⟩
theorem vJ6:zU prog 1000 0 71 (zR (zR (zS f230) 0) 0) qW0:=lp (A:=qYo) qW0 (fun d=>match d with|.inl d=>.inl (d.1.2.2.2.2.1.1,(vP d.2.1 (iR d.2.2.1 (iR d.2.2.2.1 d.2.2.2.2.1))))|.inr d=>.inr (d.1.2.2.1.1,(iR d.2.1 (wD d.2.2.1)))) yRo Ju Ff (e2 J3 tD) zG
theorem vDy:zU prog 1000 0 71 (zR (zS f230) 0) qKf:=lp (A:=qYo) qKf (fun d=>match d with|.inl d=>.inl (iR d.2.1 (wD d.2.2.1))|.inr d=>.inr (d.1.2.2.1.1,(iR d.2.1 (wD d.2.2.1)))) yVw Jv Fg (e2 J3 tD) (qE vJ6)
def vN4:=zJ 230 [.agg ke,.c (.dat true zH),.c .i] (.tup [(true,fQ),(true,fQ),(false,[.bool])]) (fun k d=>(iU (NO k) d)) (fun x=>(yHf x ()))
theorem yOo:zD prog vN4:=fA (rs:=.tup [(true,fQ),(true,fQ),(false,[.bool])]) f230 qYo (fun d=>(yBt d)) (e2 J3 tD) (qE vDy)
def yMx:zF:=⟨[(1,.c (.dat true zH)),(2,.c .i),(3,.c (.lit (.ptr 1001000 0))),(6,.c (.lit (.ptr 1001001 0))),(9,.c (.lit (.osl 1001002 none)))],[.box true vV,.box true mN,.arr true zH],[(9,none,zH,false)]⟩
def qY1:zF:=⟨[(6,.c (.lit (.ptr 1001000 0))),(7,.c (.dat true zH)),(8,.c (.lit (.osl 1001001 none)))],[.box true vV,.arr true zH],[]⟩
def yX1 (f:qOt)(d:yMx.den):=(yZ (f d.1.1.1 d.1.2.1.1) d.2.1) d.2.2.2.1
def qU7:zV:=⟨[yMx],[(.ret,qY1)],qVm,fun k d=>yX1 (Jw k k) d,fun b x _ K=>K .ret (zN b qY1 (((),(x.1,()),(),()),((gH x ()),x.2.2.2.2.2,())))⟩
def yT7:zZ:=⟨[],[(2,qU7)],[],false⟩
theorem vHj:zU prog 1000 0 55 (zR (zS f188) 0) qU7:=lp (A:=yT7) qU7 (fun d=>(d.1.2.1.1,(vP d.2.1 d.2.2.1))) yX1 Jw Fh (e3 yOo tD ll) zG
def aaz:=zJ 188 [.agg ke,.c (.dat true zH),.c .i] (.tup [(true,jC),(false,vK),(false,[.own zH])]) (fun k d=>(iU (NP k) d)) (fun x=>(mO x ()))
theorem yT2:zD prog aaz:=fA (rs:=.tup [(true,jC),(false,vK),(false,[.own zH])]) f188 yT7 (fun d=>(mb d)) (e3 yOo tD ll) (qE vHj)
def yZk:zF:=⟨[(1,.c (.dat true zH)),(2,.c .i),(3,.c (.lit (.ptr 1001000 0))),(6,.c (.lit (.ptr 1001001 0))),(9,.c (.lit (.osl 1001002 none)))],[.box true vV,.box true mN,.arr true zH],[(9,none,zH,false)]⟩
def yDq:zF:=⟨[(6,.c (.lit (.ptr 1001000 0))),(7,.c (.dat true zH)),(8,.c (.lit (.osl 1001001 none)))],[.box true vV,.arr true zH],[]⟩
def yA1 (f:qJp)(d:yZk.den):=(yZ (f d.1.1.1 d.1.2.1.1) d.2.1) d.2.2.2.1
def qG8:zV:=⟨[yZk],[(.ret,yDq)],qIr,fun k d=>yA1 (Jz k k) d,fun b x _ K=>K .ret (zN b yDq (((),(x.1,()),(),()),((gH x ()),x.2.2.2.2.2,())))⟩
def vAb:zZ:=⟨[],[(2,qG8)],[],false⟩
theorem vLa:zU prog 1000 0 45 (zR (zS f130) 0) qG8:=lp (A:=vAb) qG8 (fun d=>(d.1.2.1.1,(vP d.2.1 d.2.2.1))) yA1 Jz Fs (e2 yR9 yT2) zG
def aaA:=zJ 130 [.agg ke,.c (.dat true zH),.c .i] (.tup [(true,jC),(false,vK),(false,[.own zH])]) (fun k d=>(iU (JA k) d)) (fun x=>(mO x ()))
theorem vCa:zD prog aaA:=fA (rs:=.tup [(true,jC),(false,vK),(false,[.own zH])]) f130 vAb (fun d=>(mb d)) (e2 yR9 yT2) (qE vLa)
def yJd:zF:=⟨[(0,.c (.dat false zH)),(1,.c (.dat false .i)),(5,.c (.lit (.osl 1001000 none))),(6,.c .i)],[.arr true zH],[(5,none,zH,false)]⟩
def yF3:zF:=⟨[(5,.c (.lit (.osl 1001000 none)))],[.arr true zH],[]⟩
def yV8 (f:qQy)(d:yJd.den):=f d.1.1.1 d.1.2.1.1 d.1.2.2.2.1.1 d.2.1
def qN7:zV:=⟨[yJd],[(.exit 0,yF3)],qGu,fun k d=>yV8 (Fj k k) d,fun b x _ K=>K (.exit 0) (zN b yF3 (((),()),(x,())))⟩
def yBu:zZ:=⟨[],[(3,qN7)],[],false⟩
theorem vUs:zU prog 1000 0 60 (zR (zS f190) 0) qN7:=lp (A:=yBu) qN7 (fun d=>d.2.1) yV8 Fj Fk (e1 wo) zG
def vXu:=zJ 190 [.c (.dat false zH),.c (.dat false .i)] (.c (.own zH)) (fun k d=>Fi k d.1 d.2.1) (fun x=>(x,()))
theorem FX:zD prog vXu:=fA (rs:=.c (.own zH)) f190 yBu (fun d=>d.1) (e1 wo) (qE vUs)
def yWi:zF:=⟨[(3,.c (.lit (.ptr 1001000 0))),(8,.c (.lit (.osl 1001001 none))),(9,.c (.lit (.osl 1001002 none))),(10,.c .i)],[.box true jN,.arr true zH,.arr true .i],[(9,none,.i,false)]⟩
def yKz:zF:=⟨[(3,.c (.lit (.ptr 1001000 0))),(8,.c (.lit (.osl 1001001 none))),(9,.c (.lit (.osl 1001002 none)))],[.box true jN,.arr true zH,.arr true .i],[]⟩
def yWq (f:qVj)(d:yWi.den):=(yZ (f d.1.2.2.2.1.1) d.2.1) d.2.2.1 d.2.2.2.1
def PA:zV:=⟨[yWi],[(.exit 0,yKz)],qKx,fun k d=>yWq (AH k k) d,fun b x _ K=>K (.exit 0) (zN b yKz (((),(),(),()),((vP x ()),x.2.2.2.2.1,x.2.2.2.2.2,())))⟩
def yPn:zF:=⟨[(3,.c (.lit (.ptr 1001000 0))),(8,.c (.lit (.osl 1001001 none))),(9,.c (.lit (.osl 1001002 none))),(11,.c .i),(12,.c (.lit (.osl 1001003 none))),(13,.c .i)],[.box true jN,.arr true zH,.arr true .i,.arr true .i],[]⟩
def vA7:zF:=⟨[(3,.c (.lit (.ptr 1001000 0))),(8,.c (.lit (.osl 1001001 none))),(9,.c (.lit (.osl 1001002 none))),(11,.c .i)],[.box true jN,.arr true zH,.arr true .i],[]⟩
def yKn (f:qKu)(d:yPn.den):=(yZ (f d.1.2.2.2.1.1 d.1.2.2.2.2.2.1.1) d.2.1) d.2.2.1 d.2.2.2.1 d.2.2.2.2.1
def qVx:zV:=⟨[yPn],[(.exit 4,vA7)],qQ5,fun k d=>yKn (Fm k k) d,fun b x _ K=>K (.exit 4) (zN b vA7 (((),(),(),(x.1,()),()),((gH x ()),x.2.2.2.2.2.1,x.2.2.2.2.2.2,())))⟩
def yIj:zF:=⟨[(3,.c (.lit (.ptr 1001000 0))),(8,.c (.lit (.osl 1001001 none))),(9,.c (.lit (.osl 1001002 none))),(11,.c .i)],[.box true jN,.arr true zH,.arr true .i],[]⟩
def yK4:zF:=⟨[(6,.c (.lit (.osl 1001000 none))),(7,.c .i)],[.arr true .i],[]⟩
def ySl (f:qU1)(d:yIj.den):=(yZ (f d.1.2.2.2.1.1) d.2.1) d.2.2.1 d.2.2.2.1
def PB:zV:=⟨[yIj],[(.ret,yK4)],(Int×AC),fun k d=>ySl (Jx k k) d,fun b x _ K=>K .ret (zN b yK4 (((),(x.1,()),()),(x.2,())))⟩
def PD:zZ:=⟨[],[(4,PA),(13,qVx),(9,PB)],[],false⟩
theorem vW4:zU prog 1000 0 58 (zR (zS f189) 0) PA:=lp (A:=PD) PA (fun d=>(vP d.2.1 (d.2.2.1,d.2.2.2.1))) yWq AH Fl (e4 A0 wo FX J5) zG
theorem vM4:zU prog 1000 0 58 (zR (zR (zS f189) 1) 0) qVx:=lp (A:=PD) qVx (fun d=>(d.1.2.2.2.1.1,(vP d.2.1 (d.2.2.1,d.2.2.2.1)))) yKn Fm Fo (e4 A0 wo FX J5) zG
theorem vL4:zU prog 1000 0 58 (zR (zS f189) 1) PB:=lp (A:=PD) PB (fun d=>(d.1.2.1.1,d.2.1)) ySl Jx Fp (e4 A0 wo FX J5) (qE vM4)
def vRv:=zJ 189 [.agg jJ,.c (.dat false zH),.c .i] (.tup [(false,nM),(false,qI)]) (fun k d=>(iU (NQ k) d)) (fun x=>(x.1,x.2,()))
theorem yN8:zD prog vRv:=fA (rs:=.tup [(false,nM),(false,qI)]) f189 PD (fun d=>(d.1,d.2.1)) (e4 A0 wo FX J5) (loopsOK_of (n:=2) (by kernel_rfl) fun i hi=>match i,hi with|0,_=>⟨PA,by kernel_rfl,vW4⟩|1,_=>⟨PB,by kernel_rfl,vL4⟩|i+2,hi=>absurd hi (by omega))
def ySw:zF:=⟨[(1,.c (.dat true zH)),(6,.c (.lit (.ptr 1001000 0))),(11,.c (.lit (.osl 1001001 none))),(12,.c (.lit (.ptr 1001002 0))),(14,.c .i)],[.box true mN,.arr true zH,.box true vV],[]⟩
def yS8:zF:=⟨[(1,.c (.dat true zH)),(6,.c (.lit (.ptr 1001000 0))),(11,.c (.lit (.osl 1001001 none))),(12,.c (.lit (.ptr 1001002 0)))],[.box true mN,.arr true zH,.box true vV],[]⟩
def yZr (f:qVi)(d:ySw.den):=(yZ (f d.1.1.1 d.1.2.2.2.2.1.1 d.2.2.1) d.2.2.2.1)
def qHm:zV:=⟨[ySw],[(.exit 0,yS8)],qH7,fun k d=>yZr (AI k k) d,fun b x _ K=>K (.exit 0) (zN b yS8 (((x.1,()),(),(),(),()),((),x.2.1,(zy x ()),())))⟩
def yUi:zZ:=⟨[],[(7,qHm)],[],false⟩
theorem vU9:zU prog 1000 0 57 (zR (zS f131) 0) qHm:=lp (A:=yUi) qHm (fun d=>(d.1.1.1,d.2.2.1,(wK d.2.2.2.1))) yZr AI Fq (e5 yN8 A0 FX qSv ll) zG
def vSg:=zJ 131 [.agg ke,.c (.dat true zH),.c .i] (.tup [(true,jC),(false,vK),(false,[.own zH])]) (fun k d=>(iU (Jy k) d)) (fun x=>(mO x ()))
theorem vY2:zD prog vSg:=fA (rs:=.tup [(true,jC),(false,vK),(false,[.own zH])]) f131 yUi (fun d=>(mb d)) (e5 yN8 A0 FX qSv ll) (qE vU9)
def vW3:=zJ 84 [.agg ke,.c (.dat true zH),.c .i,.c .bool] (.tup [(true,jC),(false,vK),(false,[.own zH])]) (fun k d=>(lk (NR k) d)) (fun x=>(mO x ()))
theorem vQr:zD prog vW3:=fA (rs:=.tup [(true,jC),(false,vK),(false,[.own zH])]) f84 ⟨[],[],[],false⟩ (fun d=>(mb d)) (e2 vCa vY2) zG
def yFz:zF:=⟨[(0,.c (.dat false zH)),(3,.c (.lit (.osl 1001000 none))),(4,.c .i)],[.arr true qN],[(3,none,qN,false)]⟩
def yHm:zF:=⟨[(3,.c (.lit (.osl 1001000 none)))],[.arr true qN],[]⟩
def yLa (f:qTt)(d:yFz.den):=f d.1.1.1 d.1.2.2.1.1 d.2.1
def qKn:zV:=⟨[yFz],[(.exit 0,yHm)],qSp,fun k d=>yLa (IU k k) d,fun b x _ K=>K (.exit 0) (zN b yHm (((),()),(x,())))⟩
def yMu:zZ:=⟨[],[(3,qKn)],[],false⟩
theorem vXx:zU prog 1000 0 39 (zR (zS f85) 0) qKn:=lp (A:=yMu) qKn (fun d=>d.2.1) yLa IU Ew (e1 wq) zG
def aaB:=zJ 85 [.c (.dat false zH)] (.c (.own qN)) (fun k d=>M5 k d.1) (fun x=>(x,()))
theorem vZv:zD prog aaB:=fA (rs:=.c (.own qN)) f85 yMu (fun d=>d.1) (e1 wq) (qE vXx)
def vXd:=zJ 43 [.agg wm,.c .bool] (.tup [(true,kz),(false,[.own qN])]) (fun k d=>(JW (mK k) d)) (fun x=>(AV x ()))
theorem JJ:zD prog vXd:=fA (rs:=.tup [(true,kz),(false,[.own qN])]) f43 ⟨[],[],[],false⟩ (fun d=>(wu d)) (e2 vQr vZv) zG
def yNv:zF:=⟨[(3,.c (.lit (.ptr 1001000 0))),(4,.c (.lit (.ptr 1001001 0))),(6,.c (.lit (.osl 1001002 none))),(7,.c (.dat true zH)),(8,.c .i)],[.box true fP,.box true eX,.arr true qN],[(6,none,qN,false)]⟩
def yV1:zF:=⟨[(3,.c (.lit (.ptr 1001000 0))),(4,.c (.lit (.ptr 1001001 0))),(6,.c (.lit (.osl 1001002 none)))],[.box true fP,.box true eX,.arr true qN],[]⟩
def yM9 (f:qIp)(d:yNv.den):=f d.1.2.2.2.1.1 d.1.2.2.2.2.1.1 (qW d.2.1) (d.2.2.1.1,d.2.2.1.2.1,d.2.2.1.2.2.1) d.2.2.2.1
def PE:zV:=⟨[yNv],[(.exit 0,yV1)],qWb,fun k d=>yM9 (tw k k) d,fun b x _ K=>K (.exit 0) (zN b yV1 (((),(),(),()),((vU x.1 ()),(x.2.1.1,x.2.1.2.1,x.2.1.2.2,()),x.2.2,())))⟩
def yCg:zF:=⟨[(3,.c (.lit (.ptr 1001000 0))),(4,.c (.lit (.ptr 1001001 0))),(6,.c (.lit (.osl 1001002 none))),(9,.c .i)],[.box true fP,.box true eX,.arr true qN],[]⟩
def yJy:zF:=⟨[(3,.c (.lit (.ptr 1001000 0))),(4,.c (.lit (.ptr 1001001 0))),(6,.c (.lit (.osl 1001002 none)))],[.box true fP,.box true eX,.arr true qN],[]⟩
def yKf (f:qOk)(d:yCg.den):=f d.1.2.2.2.1.1 (qW d.2.1) (d.2.2.1.1,d.2.2.1.2.1,d.2.2.1.2.2.1) d.2.2.2.1
def PF:zV:=⟨[yCg],[(.exit 2,yJy)],qOg,fun k d=>yKf (tx k k) d,fun b x _ K=>K (.exit 2) (zN b yJy (((),(),(),()),((vU x.1 ()),(x.2.1.1,x.2.1.2.1,x.2.1.2.2,()),x.2.2,())))⟩
def yKl:zF:=⟨[(2,.c (.lit (.ptr 1001000 0))),(3,.c (.lit (.ptr 1001001 0))),(4,.c (.lit (.ptr 1001002 0))),(6,.c (.lit (.osl 1001003 none))),(7,.c (.dat true zH)),(10,.c .i)],[.box true w6,.box true fP,.box true eX,.arr true qN],[(6,none,qN,false)]⟩
def yZt:zF:=⟨[(2,.c (.lit (.ptr 1001000 0))),(3,.c (.lit (.ptr 1001001 0))),(4,.c (.lit (.ptr 1001002 0))),(6,.c (.lit (.osl 1001003 none)))],[.box true w6,.box true fP,.box true eX,.arr true qN],[]⟩
def yMm (f:qUw)(d:yKl.den):=f d.1.2.2.2.2.1.1 d.1.2.2.2.2.2.1.1 (yF d.2.1) (qW d.2.2.1) (d.2.2.2.1.1,d.2.2.2.1.2.1,d.2.2.2.1.2.2.1) d.2.2.2.2.1
def PG:zV:=⟨[yKl],[(.exit 4,yZt)],qHr,fun k d=>yMm (tz k k) d,fun b x _ K=>K (.exit 4) (zN b yZt (((),(),(),(),()),((wS x.1 ()),(vU x.2.1 ()),(x.2.2.1.1,x.2.2.1.2.1,x.2.2.1.2.2,()),x.2.2.2,())))⟩
def PH:zZ:=⟨[],[(8,PE),(12,PF),(18,PG)],[],true⟩
theorem vYx:zU prog 1000 0 129 (zR (zS f41) 0) PE:=lp (A:=PH) PE (fun d=>((qW d.2.1),(d.2.2.1.1,d.2.2.1.2.1,d.2.2.1.2.2.1),d.2.2.2.1)) yM9 tw Ft (e6 Pw wq Px ll Py JJ) zG
theorem vQs:zU prog 1000 0 129 (zR (zS f41) 1) PF:=lp (A:=PH) PF (fun d=>((qW d.2.1),(d.2.2.1.1,d.2.2.1.2.1,d.2.2.1.2.2.1),d.2.2.2.1)) yKf tx Fu (e6 Pw wq Px ll Py JJ) zG
theorem aaC:zU prog 1000 0 129 (zR (zS f41) 2) PG:=lp (A:=PH) PG (fun d=>((yF d.2.1),(qW d.2.2.1),(d.2.2.2.1.1,d.2.2.2.1.2.1,d.2.2.2.1.2.2.1),d.2.2.2.2.1)) yMm tz Fv (e6 Pw wq Px ll Py JJ) zG
def vTf:=zJ 41 [.agg FH,.agg wm] (.tup [(true,kz),(false,[.own qN])]) (fun k d=>Fw k (yF d) (qu d)) (fun x=>(vU x.1 (x.2,())))
theorem Wk:zD prog vTf:=fA (rs:=.tup [(true,kz),(false,[.own qN])]) f41 PH (fun d=>((qW d),d.2.2.2.2.2.2.2.2.2.2.2.1)) (e6 Pw wq Px ll Py JJ) (loopsOK_of (n:=3) (by kernel_rfl) fun i hi=>match i,hi with|0,_=>⟨PE,by kernel_rfl,vYx⟩|1,_=>⟨PF,by kernel_rfl,vQs⟩|2,_=>⟨PG,by kernel_rfl,aaC⟩|i+3,hi=>absurd hi (by omega))
def vEt:=zJ 117 [.ptr yVm,.c .i] (.c .i) (fun k d=>tq k (O1 d) d.2.2.2.2.2.2.2.2.2.2.2.2.2.2.2.2.2.2.2.1) (fun x=>(x,()))
theorem Wb:zD prog vEt:=fA (rs:=.c .i) f117 n0 (fun d=>d.1) e0 zG
def vF4:=zJ 124 [.agg iS,.c .i,.c .i] (.c .i) (fun k d=>E7 k (yF d) d.2.2.2.2.2.1 d.2.2.2.2.2.2.1) (fun x=>(x,()))
theorem yS3:zD prog vF4:=fA (rs:=.c .i) f124 n0 (fun d=>d.1) e0 zG
def vX8:=zJ 118 [.agg iS,.c .i,.agg vD] (.c .i) (fun k d=>AB k (yF d) d.2.2.2.2.2.1 (X5 d)) (fun x=>(x,()))
theorem aaD:zD prog vX8:=fA (rs:=.c .i) f118 n0 (fun d=>d.1) (e1 yS3) zG
def yOb:zF:=⟨[(0,.c (.dat false .i)),(1,.c .i),(5,.c .i)],[],[]⟩
def yA0:zF:=⟨[],[],[]⟩
def yU6:zF:=⟨[(4,.c .bool)],[],[]⟩
def yY6 (f:qYm)(d:yOb.den):=f d.1.1.1 d.1.2.1.1 d.1.2.2.1.1
def qYa:zV:=⟨[yOb],[(.exit 0,yA0),(.ret,yU6)],(Unit⊕Bool),fun k d=>yY6 (E3 k k) d,fun b x _ K=>match x with|.inl x=>K (.exit 0) (zN b yA0 ((),()))|.inr x=>K .ret (zN b yU6 (((x,()),()),()))⟩
def yZl:zZ:=⟨[],[(2,qYa)],[],true⟩
theorem vE2:zU prog 1000 0 18 (zR (zS f179) 0) qYa:=lp (A:=yZl) qYa (fun d=>match d with|.inl d=>.inl ()|.inr d=>.inr d.1.1.1) yY6 E3 E4 e0 zG
def vPb:=zJ 179 [.c (.dat false .i),.c .i] (.c .bool) (fun k d=>NG k d.1 d.2.1) (fun x=>(x,()))
theorem yRb:zD prog vPb:=fA (rs:=.c .bool) f179 yZl (fun d=>d.1) e0 (qE vE2)
def qZo:zF:=⟨[(0,.c (.dat true .i)),(1,.c .i),(6,.c .i)],[],[]⟩
def yIo:zF:=⟨[(0,.c (.dat true .i)),(1,.c .i),(6,.c .i)],[],[]⟩
def yV7 (f:qJy)(d:qZo.den):=f d.1.1.1 d.1.2.1.1 d.1.2.2.1.1
def qMf:zV:=⟨[qZo],[(.exit 0,yIo)],(AC×Int×Int),fun k d=>yV7 (Jq k k) d,fun b x _ K=>K (.exit 0) (zN b yIo (((x.1,()),(x.2.1,()),(x.2.2,()),()),()))⟩
def yIr:zZ:=⟨[],[(6,qMf)],[],true⟩
theorem vXw:zU prog 1000 0 41 (zR (zS f119) 0) qMf:=lp (A:=yIr) qMf (fun d=>(d.1.1.1,d.1.2.1.1,d.1.2.2.1.1)) yV7 Jq E5 (e1 yRb) zG
def aaE:=zJ 119 [.c (.dat true .i),.c .i] (.tup [(false,[.fro .i]),(false,qI)]) (fun k d=>AA k d.1 d.2.1) (fun x=>(x.1,x.2,()))
theorem vM9:zD prog aaE:=fA (rs:=.tup [(false,[.fro .i]),(false,qI)]) f119 yIr (fun d=>(d.1,d.2.1)) (e1 yRb) (qE vXw)
def vUp:=zJ 182 [.agg vD,.agg vD] (.c .bool) (fun k d=>(FP (Jk k) d)) (fun x=>(x,()))
theorem PI:zD prog vUp:=fA (rs:=.c .bool) f182 ⟨[],[],[],false⟩ (fun d=>d.1) e0 zG
def yB9:zF:=⟨[(0,.c (.dat false zH)),(3,.c (.lit (.ptr 1001000 0))),(5,.c .i)],[.box true wL],[]⟩
def yWt:zF:=⟨[(5,.c .i)],[],[]⟩
def yNq (f:qQj)(d:yB9.den):=(lk (f d.1.1.1 d.1.2.2.1.1) d.2.1)
def qXb:zV:=⟨[yB9],[(.exit 0,yWt)],Int,fun k d=>yNq (EZ k k) d,fun b x _ K=>K (.exit 0) (zN b yWt (((x,()),()),()))⟩
def yHs:zZ:=⟨[],[(2,qXb)],[],false⟩
theorem vIh:zU prog 1000 0 21 (zR (zS f181) 0) qXb:=lp (A:=yHs) qXb (fun d=>d.1.1.1) yNq EZ E0 (e1 PI) zG
def vTo:=zJ 181 [.c (.dat false zH),.agg vD] (.c .i) (fun k d=>(lj (EY k) d)) (fun x=>(x,()))
theorem qMy:zD prog vTo:=fA (rs:=.c .i) f181 yHs (fun d=>d.1) (e1 PI) (qE vIh)
def vVr:=zJ 180 [.c (.dat false zH),.c .i,.agg vD] (.c (.own zH)) (fun k d=>(OW (Ay k) d)) (fun x=>(x,()))
theorem J6:zD prog vVr:=fA (rs:=.c (.own zH)) f180 ⟨[],[],[],false⟩ (fun d=>d.1) e0 zG
def vPt:=zJ 120 [.c (.dat true zH),.agg vD] (.tup [(false,vK),(false,qI)]) (fun k d=>(lj (Az k) d)) (fun x=>(x.1,x.2,()))
theorem aaF:zD prog vPt:=fA (rs:=.tup [(false,vK),(false,qI)]) f120 ⟨[],[],[],false⟩ (fun d=>(d.1,d.2.1)) (e3 Od qMy J6) zG
def aaG:=yK 78 [.ptr true AR,.agg JR] (.c .i) [l9] 0 (fun k d=>NI k (yC d d.2.2.2.2.2.2.2.2.2.2.2.2.2.2.2.2.2.2.1) (vOw d)) (fun x=>(x.1,(wi x.2 ())))
theorem vMv:zD prog aaG:=fX (rs:=.c .i) (os:=[l9]) (ns:=0) f78 n0 1 (fun d=>(d.1,(AT d))) (e4 Wb aaD vM9 aaF) zG
def vNu:=zJ 121 [.ptr yVm,.c .i] (.tup [(true,fQ),(false,[.bool])]) (fun k d=>vAy k (O1 d) d.2.2.2.2.2.2.2.2.2.2.2.2.2.2.2.2.2.2.2.1) (fun x=>(gb x.1 (x.2,())))
theorem vPs:zD prog vNu:=fA (rs:=.tup [(true,fQ),(false,[.bool])]) f121 n0 (fun d=>((wD d),d.2.2.2.2.2.2.2.1)) (e1 Od) zG
def yZc:zF:=⟨[(6,.c (.dat true zH)),(7,.c (.lit (.ptr 1001000 0))),(9,.c .i)],[.box true wL],[]⟩
def vBd:zF:=⟨[(6,.c (.dat true zH)),(7,.c (.lit (.ptr 1001000 0))),(9,.c .i)],[.box true wL],[]⟩
def yLb (f:qHu)(d:yZc.den):=f d.1.1.1 d.1.2.2.1.1 (wD d.2.1)
def qPs:zV:=⟨[yZc],[(.exit 0,vBd)],qOh,fun k d=>yLb (E1 k k) d,fun b x _ K=>K (.exit 0) (zN b vBd (((x.1,()),(),(x.2.1,()),()),((gb x.2.2 ()),())))⟩
def yY1:zZ:=⟨[],[(5,qPs)],[],true⟩
theorem vFv:zU prog 1000 0 40 (zR (zS f122) 0) qPs:=lp (A:=yY1) qPs (fun d=>(d.1.1.1,d.1.2.2.1.1,(wD d.2.1))) yLb E1 E2 (e3 ll PI J6) zG
def vOx:=zJ 122 [.c (.dat true zH),.c .i] (.tup [(false,vK),(false,qI)]) (fun k d=>Jo k d.1 d.2.1) (fun x=>(x.1,x.2,()))
theorem vNo:zD prog vOx:=fA (rs:=.tup [(false,vK),(false,qI)]) f122 yY1 (fun d=>(d.1,d.2.1)) (e3 ll PI J6) (qE vFv)
def vSa:=zJ 123 [.c (.dat true zH),.c .i] (.tup [(false,vK),(false,qI)]) (fun k d=>Jn k d.1 d.2.1) (fun x=>(x.1,x.2,()))
theorem vTi:zD prog vSa:=fA (rs:=.tup [(false,vK),(false,qI)]) f123 n0 (fun d=>(d.1,d.2.1)) (e3 ll qMy J6) zG
def vRc:=zJ 125 [.c (.dat true zH),.c .i,.c .i] (.tup [(false,vK),(false,qI)]) (fun k d=>Jm k d.1 d.2.1 d.2.2.1) (fun x=>(x.1,x.2,()))
theorem vCk:zD prog vRc:=fA (rs:=.tup [(false,vK),(false,qI)]) f125 n0 (fun d=>(d.1,d.2.1)) (e3 ll qMy J6) zG
def vJ3:=yK 79 [.ptr true AR,.c (.p .i),.agg JR] (.c .i) [l9] 0 (fun k d=>AF k (yC d d.2.2.2.2.2.2.2.2.2.2.2.2.2.2.2.2.2.2.1) d.2.2.2.2.2.2.2.2.2.2.2.2.2.2.2.2.2.2.2.1 (yG8 d)) (fun x=>(x.1,(wi x.2 ())))
theorem vPg:zD prog vJ3:=fX (rs:=.c .i) (os:=[l9]) (ns:=0) f79 n0 1 (fun d=>(d.1,(AT d))) (e7 vPs ll wq vNo vTi yS3 vCk) zG
def vOq:=yK 80 [.ptr true AR,.c (.p .i),.agg JR] (.c .i) [l9] 0 (fun k d=>AG k (yC d d.2.2.2.2.2.2.2.2.2.2.2.2.2.2.2.2.2.2.1) d.2.2.2.2.2.2.2.2.2.2.2.2.2.2.2.2.2.2.2.1 (yG8 d)) (fun x=>(x.1,(wi x.2 ())))
theorem vVg:zD prog vOq:=fX (rs:=.c .i) (os:=[l9]) (ns:=0) f80 n0 1 (fun d=>(d.1,(AT d))) (e2 wj Wb) zG
def vN8:=zJ 127 [.c (.dat false .i),.c .i,.c .i] (.c (.own .i)) (fun k d=>tt k d.1 d.2.1 d.2.2.1) (fun x=>(x,()))
theorem Wa:zD prog vN8:=fA (rs:=.c (.own .i)) f127 n0 (fun d=>d.1) e0 zG
def vMj:=zJ 261 [.c .i] (.c (.own .i)) (fun k d=>NC k d.1) (fun x=>(x,()))
theorem VW:zD prog vMj:=fA (rs:=.c (.own .i)) f261 n0 (fun d=>d.1) e0 zG
def yYo:zF:=⟨[(0,.c (.lit (.osl 1001000 none))),(3,.c .i)],[.arr true .i],[]⟩
def yD7:zF:=⟨[(0,.c (.lit (.osl 1001000 none)))],[.arr true .i],[]⟩
def yZp (f:Int→AC→Option AC)(d:yYo.den):=f d.1.2.1.1 d.2.1
def qHo:zV:=⟨[yYo],[(.exit 0,yD7)],AC,fun k d=>yZp (qQx k k) d,fun b x _ K=>K (.exit 0) (zN b yD7 (((),()),(x,())))⟩
def yO4:zZ:=⟨[],[(2,qHo)],[],true⟩
theorem vO3:zU prog 1000 0 35 (zR (zS f262) 0) qHo:=lp (A:=yO4) qHo (fun d=>d.2.1) yZp qQx yYw e0 zG
def vH0:=yK 262 [.c (.own .i)] (.c (.own .i)) [] 0 (fun k d=>ER k d.1) (fun x=>(x,()))
theorem JI:zD prog vH0:=fX (rs:=.c (.own .i)) (os:=[]) (ns:=0) f262 yO4 0 (fun d=>d.1) e0 (qE vO3)
end
end Go.Ab.Gi
