/- part 63 -/
import Derived.Test.YtdhajnjinkknkaaGreatGiXS
import Derived.Test.YtdhajnjinkknkaaGreatGiAbE
import Derived.Test.YtdhajnjinkknkaaGreatProg
set_option linter.unusedVariables false
set_option maxRecDepth 100000
set_option maxHeartbeats 4000000
namespace Go.Ab.Gi
open Go.RowKit Go.Lib Go.Proofs Go.Proofs.Tryz
noncomputable section
theorem zM:prog.follows .mixedOrders=true:=by kernel_rfl
def Sg:Nat×zH:=zP 14 [.c (.int .i64)] (.agg [.int .i64,.own fa,.int .i64,.int .i64,.int .i64]) (fun k d=>GS k d.1) (fun x=>(gj x ()))
theorem F0q:zJ prog Sg:=fA (rs:=.agg [.int .i64,.own fa,.int .i64,.int .i64,.int .i64]) f14 ⟨[],[],true⟩ (fun d=>(vC d)) (zN (l:=[]) zM trivial) zK
def Sj:Nat×zH:=zP 78 [.c (.int .i64)] (.c (.bool)) (fun k d=>E8 k d.1) (fun x=>(x,()))
theorem F1q:zJ prog Sj:=fA (rs:=.c (.bool)) f78 ⟨[],[],false⟩ (fun d=>d.1) (zN (l:=[]) zM trivial) zK
def yIj:zF:=⟨[(1,.c (.int .i64)),(5,.c (.lit (.osl 1001000 none))),(13,.c (.int .i64)),(14,.c (.int .i64))],[.arr true (.int .i64)],[]⟩
def yHr:zF:=⟨[(5,.c (.lit (.osl 1001000 none)))],[.arr true (.int .i64)],[]⟩
def yAp (f:Sk)(d:yIj.den):Option (List Int):=f d.1.1.1 d.1.2.2.1.1 d.1.2.2.2.1.1 d.2.1
def Sl:qE:=⟨yIj,[(.exit 0,yHr)],(List Int),fun k d=>yAp (E9 k k) d,fun b x _ K=>K (.exit 0) (zS b yHr (((),()),(x,())))⟩
def E2q:qB:=⟨prog,fun _=>false,qJ [Sj]⟩
def A2q:zY:=⟨[],[(5,Sl)],false⟩
theorem B2q:qI E2q:=zN zM ⟨F1q,trivial⟩
theorem yY5:qD prog 1000 0 23 (zX (qC f41) 0) Sl:=lp (A:=A2q) Sl (fun d=>d.2.1) yAp E9 An B2q zK
def K3:Nat×zH:=zP 41 [.c (.int .i64),.c (.int .i64)] (.c (.own (.int .i64))) (fun k d=>vg k d.1 d.2.1) (fun x=>(x,()))
theorem Sm:zJ prog K3:=fA (rs:=.c (.own (.int .i64))) f41 A2q (fun d=>d.1) B2q (loops1 yY5)
def yI1:zF:=⟨[(0,.c (.int .i64)),(1,.c (.int .i64)),(5,.c (.lit (.osl 1001000 none))),(13,.c (.int .i64)),(14,.c (.int .i64))],[.mat],[]⟩
def yJk:zF:=⟨[(5,.c (.lit (.osl 1001000 none)))],[.mat],[]⟩
def yJa (f:Sn)(d:yI1.den):Option (List (List Int)):=f d.1.1.1 d.1.2.1.1 d.1.2.2.2.1.1 d.1.2.2.2.2.1.1 d.2.1
def So:qE:=⟨yI1,[(.exit 0,yJk)],(List (List Int)),fun k d=>yJa (Fa k k) d,fun b x _ K=>K (.exit 0) (zS b yJk (((),()),(x,())))⟩
def E3q:qB:=⟨prog,fun _=>false,qJ [Sj,K3]⟩
def A3q:zY:=⟨[11],[(5,So)],false⟩
theorem B3q:qI E3q:=zN zM ⟨F1q,Sm,trivial⟩
theorem yY7:qD prog 1000 0 25 (zX (qC f40) 0) So:=lp (A:=A3q) So (fun d=>d.2.1) yJa Fa Ap B3q zK
def Sp:Nat×zH:=zP 40 [.c (.int .i64),.c (.int .i64)] (.c (.mat)) (fun k d=>Ao k d.1 d.2.1) (fun x=>(x,()))
theorem F3q:zJ prog Sp:=fA (rs:=.c (.mat)) f40 A3q (fun d=>d.1) B3q (loops1 yY7)
def yBb:zF:=⟨[(1,.c (.lit (.ptr 1001000 0))),(2,.c (.lit (.ptr 1001001 0))),(3,.c (.int .i64)),(4,.c (.lit (.ptr 1001002 0))),(20,.c (.dat false fa)),(21,.c (.int .i64)),(22,.c (.int .i64))],[.box true nF,.box true gk,.box true K4,.arr true yH,.mat,.arr true (.int .i64),.mat,.arr true (.int .i64)],[(4,some 5,(.int .i64),false)]⟩
def ySz:zF:=⟨[(1,.c (.lit (.ptr 1001000 0))),(2,.c (.lit (.ptr 1001001 0))),(3,.c (.int .i64)),(4,.c (.lit (.ptr 1001002 0)))],[.box true nF,.box true gk,.box true K4,.arr true yH,.mat,.arr true (.int .i64),.mat,.arr true (.int .i64)],[]⟩
def yW7 (f:Sq)(d:yBb.den):Option K5:=f d.1.2.2.1.1 d.1.2.2.2.2.1.1 d.1.2.2.2.2.2.1.1 d.1.2.2.2.2.2.2.1.1 (vC d.2.1) (d.2.2.1.1,d.2.2.1.2.1,d.2.2.1.2.2.1) (d.2.2.2.1.1,d.2.2.2.1.2.1,d.2.2.2.1.2.2.1) d.2.2.2.2.1 d.2.2.2.2.2.1 d.2.2.2.2.2.2.1 d.2.2.2.2.2.2.2.1 d.2.2.2.2.2.2.2.2.1
def K6:qE:=⟨yBb,[(.exit 0,ySz)],K5,fun k d=>yW7 (Sr k k) d,fun b x _ K=>K (.exit 0) (zS b ySz (((),(),(x.1,()),(),()),((gj x.2.1 ()),(x.2.2.1.1,x.2.2.1.2.1,x.2.2.1.2.2,()),(x.2.2.2.1.1,x.2.2.2.1.2.1,x.2.2.2.1.2.2,()),x.2.2.2.2.1,x.2.2.2.2.2.1,x.2.2.2.2.2.2.1,x.2.2.2.2.2.2.2.1,x.2.2.2.2.2.2.2.2,())))⟩
def yEn:zF:=⟨[(1,.c (.lit (.ptr 1001000 0))),(2,.c (.lit (.ptr 1001001 0))),(4,.c (.lit (.ptr 1001002 0))),(34,.c (.int .i64)),(35,.c (.int .i64))],[.box true nF,.box true gk,.box true yO3,.arr true yH,.mat,.arr true (.int .i64),.mat,.arr true (.int .i64),.mat],[(4,some 6,(.sl (.int .i64)),true)]⟩
def ySi:zF:=⟨[(2,.c (.lit (.ptr 1001000 0))),(4,.c (.lit (.ptr 1001001 0)))],[.box true gk,.box true yAu,.arr true yH,.mat,.arr true (.int .i64),.mat,.arr true (.int .i64),.mat],[]⟩
def yB8 (f:Ss)(d:yEn.den):Option K7:=f d.1.2.2.2.1.1 d.1.2.2.2.2.1.1 (vC d.2.1) (d.2.2.1.1,d.2.2.1.2.1,d.2.2.1.2.2.1) (d.2.2.2.1.1,d.2.2.2.1.2.1,d.2.2.2.1.2.2.1) d.2.2.2.2.1 d.2.2.2.2.2.1 d.2.2.2.2.2.2.1 d.2.2.2.2.2.2.2.1 d.2.2.2.2.2.2.2.2.1 d.2.2.2.2.2.2.2.2.2.1
def K8:qE:=⟨yEn,[(.exit 2,ySi)],K7,fun k d=>yB8 (Su k k) d,fun b x _ K=>K (.exit 2) (zS b ySi (((),(),()),((x.1.1,x.1.2.1,x.1.2.2,()),(x.2.1.1,x.2.1.2.1,x.2.1.2.2,()),x.2.2.1,x.2.2.2.1,x.2.2.2.2.1,x.2.2.2.2.2.1,x.2.2.2.2.2.2.1,x.2.2.2.2.2.2.2,())))⟩
def E4q:qB:=⟨prog,fun _=>false,qJ [Sp,K3]⟩
def Sv:zY:=⟨[43,44],[(4,K6),(9,K8)],true⟩
theorem Sw:qI E4q:=zN zM ⟨F3q,Sm,trivial⟩
theorem vJ1:qD prog 1000 0 48 (zX (qC f15) 0) K6:=lp (A:=Sv) K6 (fun d=>(d.1.2.2.1.1,(vC d.2.1),(d.2.2.1.1,d.2.2.1.2.1,d.2.2.1.2.2.1),(d.2.2.2.1.1,d.2.2.2.1.2.1,d.2.2.2.1.2.2.1),d.2.2.2.2.1,d.2.2.2.2.2.1,d.2.2.2.2.2.2.1,d.2.2.2.2.2.2.2.1,d.2.2.2.2.2.2.2.2.1)) yW7 Sr qYz Sw zK
theorem vNk:qD prog 1000 0 48 (zX (qC f15) 1) K8:=lp (A:=Sv) K8 (fun d=>((d.2.1.1,d.2.1.2.1,d.2.1.2.2.1),(d.2.2.1.1,d.2.2.1.2.1,d.2.2.1.2.2.1),d.2.2.2.1,d.2.2.2.2.1,d.2.2.2.2.2.1,d.2.2.2.2.2.2.1,d.2.2.2.2.2.2.2.1,d.2.2.2.2.2.2.2.2.1)) yB8 Su qZ0 Sw zK
def Sh:Nat×zH:=zP 15 [.agg iR] (.agg K9) (fun k d=>KU k (vC d)) (fun x=>(fz x ()))
theorem F4q:zJ prog Sh:=fA (rs:=.agg K9) f15 Sv (fun d=>(yD d)) Sw (oc (n:=2) (by kernel_rfl) fun i hi=>match i,hi with|0,_=>⟨K6,by kernel_rfl,vJ1⟩|1,_=>⟨K8,by kernel_rfl,vNk⟩|i+2,hi=>absurd hi (by omega))
def R5q:Nat×zH:=zP 82 [.c (.int .i64)] (.c (.bool)) (fun k d=>KK k d.1) (fun x=>(x,()))
theorem F5q:zJ prog R5q:=fA (rs:=.c (.bool)) f82 ⟨[],[],true⟩ (fun d=>d.1) (zN (l:=[]) zM trivial) zK
def R6q:Nat×zH:=zP 83 [.c (.int .i64)] (.c (.bool)) (fun k d=>GL k d.1) (fun x=>(x,()))
theorem F6q:zJ prog R6q:=fA (rs:=.c (.bool)) f83 ⟨[],[],true⟩ (fun d=>d.1) (zN (l:=[]) zM trivial) zK
def R7q:Nat×zH:=zP 152 [.c (.int .i64)] (.c (.int .i64)) (fun k d=>GK k d.1) (fun x=>(x,()))
theorem F7q:zJ prog R7q:=fA (rs:=.c (.int .i64)) f152 ⟨[],[],true⟩ (fun d=>d.1) (zN (l:=[]) zM trivial) zK
def yDn:zF:=⟨[(13,.c (.dat true (.int .i64))),(14,.c (.int .i64)),(15,.c (.int .i64))],[],[]⟩
def qVy:zF:=⟨[],[],[]⟩
def yJo:zF:=⟨[(2,.c (.bool))],[],[]⟩
def yAq (f:Sx)(d:yDn.den):Option (Unit⊕Bool):=f d.1.1.1 d.1.2.1.1 d.1.2.2.1.1
def Sy:qE:=⟨yDn,[(.exit 0,qVy),(.ret,yJo)],(Unit⊕Bool),fun k d=>yAq (qs k k) d,fun b x _ K=>match x with|.inl x=>K (.exit 0) (zS b qVy ((),()))|.inr x=>K .ret (zS b yJo (((x,()),()),()))⟩
def E8q:qB:=⟨prog,fun _=>false,qJ [R7q]⟩
def A8q:zY:=⟨[],[(5,Sy)],true⟩
theorem B8q:qI E8q:=zN zM ⟨F7q,trivial⟩
theorem vSu:qD prog 1000 0 22 (zX (qC f84) 0) Sy:=lp (A:=A8q) Sy (fun d=>match d with|.inl d=>.inl ()|.inr d=>.inr d.1.1.1) yAq qs tt B8q zK
def R8q:Nat×zH:=zP 84 [.agg vI] (.c (.bool)) (fun k d=>tu k (wI d)) (fun x=>(x,()))
theorem F8q:zJ prog R8q:=fA (rs:=.c (.bool)) f84 A8q (fun d=>d.1) B8q (loops1 vSu)
def R9q:Nat×zH:=zP 45 [.agg iR,.agg oL,.agg GW] (.c (.int .i64)) (fun k d=>tv k (vC d) (xh d) (La d)) (fun x=>(x,()))
theorem F9q:zJ prog R9q:=fA (rs:=.c (.int .i64)) f45 ⟨[],[],true⟩ (fun d=>d.1) (zN (l:=[R5q,R6q,R8q]) zM ⟨F5q,F6q,F8q,trivial⟩) zK
def qLi:Nat×zH:=zP 154 [.agg vI,.ptr [.int .i64]] (.c (.bool)) (fun k d=>(ko (Ra k) d)) (fun x=>(x,()))
theorem vOo:zJ prog qLi:=fA (rs:=.c (.bool)) f154 ⟨[],[],false⟩ (fun d=>d.1) (zN (l:=[]) zM trivial) zK
def yD6:zF:=⟨[(1,.c (.lit (.fn 154 [1001000]))),(5,.c (.lit (.osl 1001001 none))),(8,.c (.dat false zG)),(9,.c (.int .i64)),(10,.c (.int .i64))],[.robox [.int .i64],.arr true zG],[(5,none,zG,false)]⟩
def yCw:zF:=⟨[(5,.c (.lit (.osl 1001000 none)))],[.arr true zG],[]⟩
def yXe (f:Sz)(d:yD6.den):Option Lb:=f d.1.2.2.1.1 d.1.2.2.2.1.1 d.1.2.2.2.2.1.1 d.2.1.1 d.2.2.1
def SA:qE:=⟨yD6,[(.exit 0,yCw)],Lb,fun k d=>yXe (FM k k) d,fun b x _ K=>K (.exit 0) (zS b yCw (((),()),(x,())))⟩
def yYe:qB:=⟨prog,fun _=>false,qJ [qLi]⟩
def yCp:zY:=⟨[],[(3,SA)],false⟩
theorem qZ2:qI yYe:=zN zM ⟨vOo,trivial⟩
theorem vD2:qD prog 1000 0 23 (zX (qC f153) 0) SA:=lp (A:=yCp) SA (fun d=>d.2.1) yXe FM Bw qZ2 zK
def yKu:Nat×zH:=zP 153 [.c (.dat false zG),.fn 154 [[.int .i64]]] (.c (.own zG)) (fun k d=>Q9 k d.1 d.2.1) (fun x=>(x,()))
theorem vS9:zJ prog yKu:=fA (rs:=.c (.own zG)) f153 yCp (fun d=>d.1) qZ2 (loops1 vD2)
def SB:Nat×zH:=zP 85 [.c (.dat false zG),.c (.int .i64)] (.c (.own zG)) (fun k d=>FL k d.1 d.2.1) (fun x=>(x,()))
theorem qYv:zJ prog SB:=fA (rs:=.c (.own zG)) f85 ⟨[],[],false⟩ (fun d=>d.1) (zN (l:=[yKu]) zM ⟨vS9,trivial⟩) zK
def yAj:Nat×zH:=wC 47 [.ptr true [.p (.int .i64),.p (.nil),.p (.int .i64),.p (.int .i64),.p (.int .i64),.p (.int .i64),.p (.nil),.p (.nil),.p (.nil),.p (.nil),.p (.nil),.p (.nil),.p (.nil),.p (.nil),.p (.int .i64),.p (.bool),.p (.int .i64),.p (.nil)],.c (.p (.int .i64)),.c (.p (.dat false (.int .i64)))] (.tup []) [yEj] (fun k d=>yNy k (d.1,(Lc d (d.2.2.2.2.2.2.2.2.2.2.2.2.2.2.1,d.2.2.2.2.2.2.2.2.2.2.2.2.2.2.2.1,d.2.2.2.2.2.2.2.2.2.2.2.2.2.2.2.2.1))) d.2.2.2.2.2.2.2.2.2.2.2.2.2.2.2.2.2.2.1 d.2.2.2.2.2.2.2.2.2.2.2.2.2.2.2.2.2.2.2.1) (fun x=>(eZ x ()))
theorem yX9:zJ prog yAj:=fX (rs:=.tup []) (os:=[yEj]) f47 ⟨[],[],true⟩ 1 (fun d=>(fO d)) (zN (l:=[]) zM trivial) zK
def yH3:Nat×zH:=zP 46 [.agg oL,.c (.int .i64)] (.c (.own yA)) (fun k d=>KR k (yD d) d.2.2.2.2.2.2.2.2.2.2.2.1) (fun x=>(x,()))
theorem vIw:zJ prog yH3:=fA (rs:=.c (.own yA)) f46 ⟨[],[],true⟩ (fun d=>d.1) (zN (l:=[SB,yAj]) zM ⟨qYv,yX9,trivial⟩) zK
def SC:Nat×zH:=wC 47 [.ptr true tA,.c (.p (.int .i64)),.c (.p (.dat false (.int .i64)))] (.tup []) [wG] (fun k d=>KT k (jl d) d.2.2.2.2.2.2.2.2.2.2.2.2.2.2.2.2.2.2.1 d.2.2.2.2.2.2.2.2.2.2.2.2.2.2.2.2.2.2.2.1) (fun x=>(eZ x ()))
theorem yHk:zJ prog SC:=fX (rs:=.tup []) (os:=[wG]) f47 ⟨[],[],true⟩ 1 (fun d=>(fO d)) (zN (l:=[]) zM trivial) zK
def iq:Nat×zH:=zP 64 [.c (.int .i64),.c (.int .i64),.c (.int .i64)] (.c (.bool)) (fun k d=>vA k d.1 d.2.1 d.2.2.1) (fun x=>(x,()))
theorem iQ:zJ prog iq:=fA (rs:=.c (.bool)) f64 ⟨[],[],true⟩ (fun d=>d.1) (zN (l:=[]) zM trivial) zK
def qVo:Nat×zH:=zP 243 [.agg iR,.c (.int .i64)] (.c (.bool)) (fun k d=>FR k (vC d) d.2.2.2.2.2.1) (fun x=>(x,()))
theorem vFn:zJ prog qVo:=fA (rs:=.c (.bool)) f243 ⟨[],[],true⟩ (fun d=>d.1) (zN (l:=[]) zM trivial) zK
def yGf:Nat×zH:=zP 206 [.agg iR,.c (.int .i64),.agg vI] (.c (.bool)) (fun k d=>J2 k (vC d) d.2.2.2.2.2.1 (SD d)) (fun x=>(x,()))
theorem vH0:zJ prog yGf:=fA (rs:=.c (.bool)) f206 ⟨[],[],true⟩ (fun d=>d.1) (zN (l:=[qVo]) zM ⟨vFn,trivial⟩) zK
def Ld:Nat×zH:=zP 160 [.agg iR,.c (.int .i64),.c (.int .i64)] (.c (.int .i64)) (fun k d=>wc k (vC d) d.2.2.2.2.2.1 d.2.2.2.2.2.2.1) (fun x=>(x,()))
theorem SE:zJ prog Ld:=fA (rs:=.c (.int .i64)) f160 ⟨[],[],true⟩ (fun d=>d.1) (zN (l:=[]) zM trivial) zK
def SF:Nat×zH:=zP 155 [.agg iR,.c (.int .i64),.agg vI] (.c (.int .i64)) (fun k d=>BS k (vC d) d.2.2.2.2.2.1 (SD d)) (fun x=>(x,()))
theorem yBj:zJ prog SF:=fA (rs:=.c (.int .i64)) f155 ⟨[],[],true⟩ (fun d=>d.1) (zN (l:=[yGf,Ld]) zM ⟨vH0,SE,trivial⟩) zK
def qVa:Nat×zH:=zP 255 [.c (.int .i64)] (.c (.bool)) (fun k d=>Jz k d.1) (fun x=>(x,()))
theorem vHa:zJ prog qVa:=fA (rs:=.c (.bool)) f255 ⟨[],[],true⟩ (fun d=>d.1) (zN (l:=[]) zM trivial) zK
def qF0:Nat×zH:=zP 230 [.c (.int .i64),.c (.int .i64)] (.c (.bool)) (fun k d=>Jy k d.1 d.2.1) (fun x=>(x,()))
theorem vMz:zJ prog qF0:=fA (rs:=.c (.bool)) f230 ⟨[],[],true⟩ (fun d=>d.1) (zN (l:=[qVa]) zM ⟨vHa,trivial⟩) zK
def qNg:Nat×zH:=zP 231 [.c (.int .i64)] (.c (.bool)) (fun k d=>JB k d.1) (fun x=>(x,()))
theorem vKs:zJ prog qNg:=fA (rs:=.c (.bool)) f231 ⟨[],[],true⟩ (fun d=>d.1) (zN (l:=[]) zM trivial) zK
def yWg:zF:=⟨[(0,.c (.dat false (.int .i64))),(1,.c (.int .i64)),(6,.c (.int .i64)),(7,.c (.int .i64)),(8,.c (.int .i64))],[],[]⟩
def yPx:zF:=⟨[(0,.c (.dat false (.int .i64))),(1,.c (.int .i64)),(6,.c (.int .i64)),(7,.c (.int .i64))],[],[]⟩
def yWc (f:SG)(d:yWg.den):Option Le:=f d.1.1.1 d.1.2.1.1 d.1.2.2.1.1 d.1.2.2.2.1.1 d.1.2.2.2.2.1.1
def SH:qE:=⟨yWg,[(.exit 0,yPx)],Le,fun k d=>yWc (FA k k) d,fun b x _ K=>K (.exit 0) (zS b yPx (((x.1,()),(x.2.1,()),(x.2.2.1,()),(x.2.2.2,()),()),()))⟩
def vCp:qB:=⟨prog,fun _=>false,qJ [qF0,qNg]⟩
def yPb:zY:=⟨[],[(3,SH)],true⟩
theorem yN1:qI vCp:=zN zM ⟨vMz,vKs,trivial⟩
theorem yZw:qD prog 1000 0 54 (zX (qC f192) 0) SH:=lp (A:=yPb) SH (fun d=>(d.1.1.1,d.1.2.1.1,d.1.2.2.1.1,d.1.2.2.2.1.1)) yWc FA JA yN1 zK
def SI:Nat×zH:=zP 192 [.c (.dat false (.int .i64)),.c (.int .i64)] (.tup [(false,qX),(false,[.bool])]) (fun k d=>A8 k d.1 d.2.1) (fun x=>(x.1,x.2,()))
theorem yTm:zJ prog SI:=fA (rs:=.tup [(false,qX),(false,[.bool])]) f192 yPb (fun d=>(d.1,d.2.1)) yN1 (loops1 yZw)
def GX:Nat×zH:=uV 208 false (.int .i64) (.own (.int .i64)) nn
theorem Lf:zJ prog GX:=fC f208 ⟨[],[],false⟩ (zN (l:=[]) zM trivial) zK
theorem vGo (A X:Option Addr)(n c vc:Nat)(w w':World)(rv:Value)(hr:(Builtin.append_ #[29,29] 29 #[.slice A n c,.slice X 1 vc]).run prog w=.ok rv w'):
    Calls prog 207 #[.slice A n c,.int .i64 n,.slice X 1 vc] w fun e mm=>e=.returned rv∧mm=w':=by
  have t0:prog.underlying 29=some (.slice 2):=by kernel_rfl
  have t3:prog.underlying 3=some (.int .i64):=by kernel_rfl
  have z0:∀w,(Go.sizeOf 2).run prog w=.ok 1 w:=fun w=>by kernel_rfl
  have u0:=run_underlying t0;have u3:=run_underlying t3
  go_enter Proofs.Tryz.func207,Proofs.Tryz.ntmps207
  go_wp2_with (at_builtin;refine Lib.wpList_append_run _ rfl _ _ _ _ rfl _ _ rfl rfl _ _ hr ?_)
  all_goals (go_ret;exact⟨rfl,rfl⟩)
theorem vKd:IC prog 207 29 3 1 where
  ends:=vGo
  grow B off n c i X vo vc N G w w1 w2 w3 hi hnc aQ Gf hG hz hA hB:=by
    simp only[Nat.mul_one] at hA hB
    have t0:prog.underlying 29=some (.slice 2):=by kernel_rfl
    have t3:prog.underlying 3=some (.int .i64):=by kernel_rfl
    have z0:∀w,(Go.sizeOf 2).run prog w=.ok 1 w:=fun w=>by kernel_rfl
    have u0:=run_underlying t0;have u3:=run_underlying t3
    have mixed:prog.follows .mixedOrders=true:=zM
    have SJ:¬((i:Int)=(n:Int)):=by omega
    have tz:IntKind.i64.wrap ((i:Int)+1)=(i:Int)+1:=by rw[IntKind.wrap_i64];omega
    have jv:(0:Int)≤(i:Int)+1:=by omega
    have dj:i≤n:=by omega
    have ft:((i:Int)+1).toNat=i+1:=by omega
    have SK:¬(c=i):=by omega
    have hz3:(c:Int)<(n:Int)+1:=by omega
    have SM:(i:Int)≤(n:Int):=by omega
    have hGi:¬(G=i):=by omega
    have SN:¬(G=i+1):=by omega
    go_enter Proofs.Tryz.func207,Proofs.Tryz.ntmps207
    go_wp2_with (first
      |(at_builtin;refine Lib.wpList_append_run _ rfl _ _ _ _ rfl _ _ rfl rfl _ _ hz ?_)
      |(at_builtin;refine IG _ rfl _ _ 29 29 rfl _ _ rfl rfl (hA _) ?_))
    go_region_law_o (refine IH rfl _ _ 29 29 rfl (.slice (some ⟨N,(i+1),none⟩) (n+1-(i+1)) (G-(i+1))) (.slice (some ⟨B,off+i,none⟩) (n-i) (c-i)) (by simp[Act.eval,Act.put]) (by simp[Act.eval,Act.put]) (hB (G-(i+1)) (c-i)) ?_)
    go_wp2
    go_ret
    exact⟨rfl,rfl⟩
  shift B off n c i X vo vc w w1 w2 hi aQ Gf mQ hA hB:=by
    simp only[Nat.mul_one] at hA hB
    have t0:prog.underlying 29=some (.slice 2):=by kernel_rfl
    have t3:prog.underlying 3=some (.int .i64):=by kernel_rfl
    have z0:∀w,(Go.sizeOf 2).run prog w=.ok 1 w:=fun w=>by kernel_rfl
    have u0:=run_underlying t0;have u3:=run_underlying t3
    have mixed:prog.follows .mixedOrders=true:=zM
    have SJ:¬((i:Int)=(n:Int)):=by omega
    have tz:IntKind.i64.wrap ((i:Int)+1)=(i:Int)+1:=by rw[IntKind.wrap_i64];omega
    have jv:(0:Int)≤(i:Int)+1:=by omega
    have dj:i≤n:=by omega
    have ft:((i:Int)+1).toNat=i+1:=by omega
    have SK:¬(c=i):=by omega
    have xe:=fun lb cb=>yTj (P:=prog) (fo:=244) (tb:=4) (e:=2) (size:=1) Proofs.Tryz.func244 (by kernel_rfl) (by kernel_rfl) (by kernel_rfl) (by kernel_rfl) t0 z0 mQ vo (off+(i+1)) vc lb cb
    have hb2:¬(c=i+1):=by omega
    have SM:(i:Int)≤(n:Int)+1:=by omega
    go_enter Proofs.Tryz.func207,Proofs.Tryz.ntmps207
    go_wp2_with (simp only[xe])
    go_region_law_o (refine IH rfl _ _ 29 29 rfl (.slice (some ⟨B,off+(i+1),none⟩) (n-i) (c-(i+1))) (.slice (some ⟨B,off+i,none⟩) (n+1-i) (c-i)) (by simp[Act.eval,Act.put]) (by simp[Act.eval,Act.put]) (hA _ _) ?_)
    go_wp2_with (at_builtin;refine IG _ rfl _ _ 29 29 rfl _ _ rfl rfl (hB _) ?_)
    go_ret
    exact⟨rfl,rfl⟩
def yRd:Nat×zH:=(207,PT (.int .i64) 8)
theorem vPf:zJ prog yRd:=yO6 (e:=2) (fn:=f207) vKd
def SO:Nat×zH:=zP 156 [.c (.dat true (.int .i64)),.c (.int .i64)] (.tup [(false,[.fro (.int .i64)]),(false,qX)]) (fun k d=>A9 k d.1 d.2.1) (fun x=>(x.1,x.2,()))
theorem yKa:zJ prog SO:=fA (rs:=.tup [(false,[.fro (.int .i64)]),(false,qX)]) f156 ⟨[],[],true⟩ (fun d=>(d.1,d.2.1)) (zN (l:=[SI,GX,yRd]) zM ⟨yTm,Lf,vPf,trivial⟩) zK
def qT1:Nat×zH:=zP 99 [.agg vI,.ptr [.int .i64]] (.c (.bool)) (fun k d=>(ko (QL k) d)) (fun x=>(x,()))
theorem vOw:zJ prog qT1:=fA (rs:=.c (.bool)) f99 ⟨[],[],false⟩ (fun d=>d.1) (zN (l:=[]) zM trivial) zK
def qU9:zF:=⟨[(0,.c (.dat false zG)),(1,.c (.lit (.fn 99 [1001000]))),(7,.c (.int .i64)),(8,.c (.int .i64))],[.robox [.int .i64]],[]⟩
def yLq:zF:=⟨[],[],[]⟩
def yJq:zF:=⟨[(4,.c (.int .i64))],[],[]⟩
def yLr (f:SP)(d:qU9.den):Option (Unit⊕Int):=f d.1.1.1 d.1.2.2.1.1 d.1.2.2.2.1.1 d.2.1.1
def SQ:qE:=⟨qU9,[(.exit 0,yLq),(.ret,yJq)],(Unit⊕Int),fun k d=>yLr (AR k k) d,fun b x _ K=>match x with|.inl x=>K (.exit 0) (zS b yLq ((),()))|.inr x=>K .ret (zS b yJq (((x,()),()),()))⟩
def vMu:qB:=⟨prog,fun _=>false,qJ [qT1]⟩
def yKl:zY:=⟨[],[(2,SQ)],false⟩
theorem yBs:qI vMu:=zN zM ⟨vOw,trivial⟩
theorem vMj:qD prog 1000 0 19 (zX (qC f98) 0) SQ:=lp (A:=yKl) SQ (fun d=>match d with|.inl d=>.inl ()|.inr d=>.inr d.1.1.1) yLr AR AT yBs zK
def qXn:Nat×zH:=zP 98 [.c (.dat false zG),.fn 99 [[.int .i64]]] (.c (.int .i64)) (fun k d=>QM k d.1 d.2.1) (fun x=>(x,()))
theorem vFb:zJ prog qXn:=fA (rs:=.c (.int .i64)) f98 yKl (fun d=>d.1) yBs (loops1 vMj)
def xi:Nat×zH:=zP 51 [.c (.dat false zG),.c (.int .i64)] (.c (.int .i64)) (fun k d=>mo k d.1 d.2.1) (fun x=>(x,()))
theorem CT:zJ prog xi:=fA (rs:=.c (.int .i64)) f51 ⟨[],[],false⟩ (fun d=>d.1) (zN (l:=[qXn]) zM ⟨vFb,trivial⟩) zK
def yRi:Nat×zH:=zP 256 [.c (.int .i64)] (.c (.bool)) (fun k d=>Jw k d.1) (fun x=>(x,()))
theorem vQ5:zJ prog yRi:=fA (rs:=.c (.bool)) f256 ⟨[],[],false⟩ (fun d=>d.1) (zN (l:=[]) zM trivial) zK
def qW0:Nat×zH:=zP 233 [.c (.int .i64),.c (.int .i64)] (.c (.int .i64)) (fun k d=>Fv k d.1 d.2.1) (fun x=>(x,()))
theorem yXr:zJ prog qW0:=fA (rs:=.c (.int .i64)) f233 ⟨[],[],false⟩ (fun d=>d.1) (zN (l:=[yRi]) zM ⟨vQ5,trivial⟩) zK
def yCf:zF:=⟨[(3,.c (.int .i64)),(6,.c (.dat false (.int .i64))),(7,.c (.int .i64)),(8,.c (.int .i64))],[],[]⟩
def yNu:zF:=⟨[(3,.c (.int .i64))],[],[]⟩
def qVm:zF:=⟨[(2,.c (.int .i64))],[],[]⟩
def yG6 (f:SR)(d:yCf.den):Option (Int⊕Int):=f d.1.1.1 d.1.2.1.1 d.1.2.2.1.1 d.1.2.2.2.1.1
def SS:qE:=⟨yCf,[(.exit 0,yNu),(.ret,qVm)],(Int⊕Int),fun k d=>yG6 (AU k k) d,fun b x _ K=>match x with|.inl x=>K (.exit 0) (zS b yNu (((x,()),()),()))|.inr x=>K .ret (zS b qVm (((x,()),()),()))⟩
def vM0:qB:=⟨prog,fun _=>false,qJ []⟩
def yJc:zY:=⟨[],[(3,SS)],false⟩
theorem yIi:qI vM0:=zN zM trivial
theorem vKv:qD prog 1000 0 18 (zX (qC f232) 0) SS:=lp (A:=yJc) SS (fun d=>match d with|.inl d=>.inl d.1.1.1|.inr d=>.inr d.1.1.1) yG6 AU yH7 yIi zK
def yH9:Nat×zH:=zP 232 [.c (.dat false (.int .i64))] (.c (.int .i64)) (fun k d=>Jv k d.1) (fun x=>(x,()))
theorem vKh:zJ prog yH9:=fA (rs:=.c (.int .i64)) f232 yJc (fun d=>d.1) yIi (loops1 vKv)
def Lg:Nat×zH:=zP 194 [.agg vI,.agg vI] (.c (.int .i64)) (fun k d=>(CU (AV k) d)) (fun x=>(x,()))
theorem SU:zJ prog Lg:=fA (rs:=.c (.int .i64)) f194 ⟨[],[],false⟩ (fun d=>d.1) (zN (l:=[qW0,yH9]) zM ⟨yXr,vKh,trivial⟩) zK
def Lh:Nat×zH:=uV 210 false zG (.own zG) sK
theorem SW:zJ prog Lh:=fC f210 ⟨[],[],false⟩ (zN (l:=[]) zM trivial) zK
theorem vB8 (A X:Option Addr)(n c vc:Nat)(w w':World)(rv:Value)(hr:(Builtin.append_ #[32,32] 32 #[.slice A n c,.slice X 1 vc]).run prog w=.ok rv w'):
    Calls prog 209 #[.slice A n c,.int .i64 n,.slice X 1 vc] w fun e mm=>e=.returned rv∧mm=w':=by
  have t0:prog.underlying 32=some (.slice 52):=by kernel_rfl
  have t3:prog.underlying 3=some (.int .i64):=by kernel_rfl
  have z0:∀w,(Go.sizeOf 52).run prog w=.ok 7 w:=fun w=>by kernel_rfl
  have u0:=run_underlying t0;have u3:=run_underlying t3
  go_enter Proofs.Tryz.func209,Proofs.Tryz.ntmps209
  go_wp2_with (at_builtin;refine Lib.wpList_append_run _ rfl _ _ _ _ rfl _ _ rfl rfl _ _ hr ?_)
  all_goals (go_ret;exact⟨rfl,rfl⟩)
theorem vHt:IC prog 209 32 3 7 where
  ends:=vB8
  grow B off n c i X vo vc N G w w1 w2 w3 hi hnc aQ Gf hG hz hA hB:=by
    have t0:prog.underlying 32=some (.slice 52):=by kernel_rfl
    have t3:prog.underlying 3=some (.int .i64):=by kernel_rfl
    have z0:∀w,(Go.sizeOf 52).run prog w=.ok 7 w:=fun w=>by kernel_rfl
    have u0:=run_underlying t0;have u3:=run_underlying t3
    have mixed:prog.follows .mixedOrders=true:=zM
    have SJ:¬((i:Int)=(n:Int)):=by omega
    have tz:IntKind.i64.wrap ((i:Int)+1)=(i:Int)+1:=by rw[IntKind.wrap_i64];omega
    have jv:(0:Int)≤(i:Int)+1:=by omega
    have dj:i≤n:=by omega
    have ft:((i:Int)+1).toNat=i+1:=by omega
    have SK:¬(c=i):=by omega
    have hz3:(c:Int)<(n:Int)+1:=by omega
    have SM:(i:Int)≤(n:Int):=by omega
    have hGi:¬(G=i):=by omega
    have SN:¬(G=i+1):=by omega
    go_enter Proofs.Tryz.func209,Proofs.Tryz.ntmps209
    go_wp2_with (first
      |(at_builtin;refine Lib.wpList_append_run _ rfl _ _ _ _ rfl _ _ rfl rfl _ _ hz ?_)
      |(at_builtin;refine IG _ rfl _ _ 32 32 rfl _ _ rfl rfl (hA _) ?_))
    go_region_law_o (refine IH rfl _ _ 32 32 rfl (.slice (some ⟨N,(i+1)*7,none⟩) (n+1-(i+1)) (G-(i+1))) (.slice (some ⟨B,off+i*7,none⟩) (n-i) (c-i)) (by simp[Act.eval,Act.put]) (by simp[Act.eval,Act.put]) (hB (G-(i+1)) (c-i)) ?_)
    go_wp2
    go_ret
    exact⟨rfl,rfl⟩
  shift B off n c i X vo vc w w1 w2 hi aQ Gf mQ hA hB:=by
    have t0:prog.underlying 32=some (.slice 52):=by kernel_rfl
    have t3:prog.underlying 3=some (.int .i64):=by kernel_rfl
    have z0:∀w,(Go.sizeOf 52).run prog w=.ok 7 w:=fun w=>by kernel_rfl
    have u0:=run_underlying t0;have u3:=run_underlying t3
    have mixed:prog.follows .mixedOrders=true:=zM
    have SJ:¬((i:Int)=(n:Int)):=by omega
    have tz:IntKind.i64.wrap ((i:Int)+1)=(i:Int)+1:=by rw[IntKind.wrap_i64];omega
    have jv:(0:Int)≤(i:Int)+1:=by omega
    have dj:i≤n:=by omega
    have ft:((i:Int)+1).toNat=i+1:=by omega
    have SK:¬(c=i):=by omega
    have xe:=fun lb cb=>yTj (P:=prog) (fo:=246) (tb:=4) (e:=52) (size:=7) Proofs.Tryz.func246 (by kernel_rfl) (by kernel_rfl) (by kernel_rfl) (by kernel_rfl) t0 z0 mQ vo (off+(i+1)*7) vc lb cb
    have hb2:¬(c=i+1):=by omega
    have SM:(i:Int)≤(n:Int)+1:=by omega
    go_enter Proofs.Tryz.func209,Proofs.Tryz.ntmps209
    go_wp2_with (simp only[xe])
    go_region_law_o (refine IH rfl _ _ 32 32 rfl (.slice (some ⟨B,off+(i+1)*7,none⟩) (n-i) (c-(i+1))) (.slice (some ⟨B,off+i*7,none⟩) (n+1-i) (c-i)) (by simp[Act.eval,Act.put]) (by simp[Act.eval,Act.put]) (hA _ _) ?_)
    go_wp2_with (at_builtin;refine IG _ rfl _ _ 32 32 rfl _ _ rfl rfl (hB _) ?_)
    go_ret
    exact⟨rfl,rfl⟩
def SX:Nat×zH:=(209,PT zG 56)
theorem yWy:zJ prog SX:=yO6 (e:=52) (fn:=f209) vHt
def yDi:zF:=⟨[(0,.c (.dat true zG)),(3,.c (.lit (.ptr 1001000 0))),(6,.c (.int .i64))],[.box true wD],[]⟩
def yVc:zF:=⟨[(0,.c (.dat true zG)),(3,.c (.lit (.ptr 1001000 0))),(6,.c (.int .i64))],[.box true wD],[]⟩
def yQ0 (f:SY)(d:yDi.den):Option Lj:=f d.1.1.1 d.1.2.2.1.1 (wI d.2.1)
def SZ:qE:=⟨yDi,[(.exit 1,yVc)],Lj,fun k d=>yQ0 (AZ k k) d,fun b x _ K=>K (.exit 1) (zS b yVc (((x.1,()),(),(x.2.1,()),()),((gi x.2.2 ()),())))⟩
def vAy:qB:=⟨prog,fun _=>false,qJ [xi,Lg,Lh,SX]⟩
def qYx:zY:=⟨[],[(6,SZ)],true⟩
theorem qX0:qI vAy:=zN zM ⟨CT,SU,SW,yWy,trivial⟩
theorem vEd:qD prog 1000 0 40 (zX (qC f157) 0) SZ:=lp (A:=qYx) SZ (fun d=>(d.1.1.1,d.1.2.2.1.1,(wI d.2.1))) yQ0 AZ A0 qX0 zK
def GY:Nat×zH:=zP 157 [.c (.dat true zG),.agg vI] (.tup [(false,vE),(false,qX)]) (fun k d=>sL k d.1 (A4 d)) (fun x=>(x.1,x.2,()))
theorem Lk:zJ prog GY:=fA (rs:=.tup [(false,vE),(false,qX)]) f157 qYx (fun d=>(d.1,d.2.1)) qX0 (loops1 vEd)
def yFt:Nat×zH:=wC 86 [.ptr true tB,.agg GZ] (.c (.int .i64)) [wG] (fun k d=>J3 k (fO d) (yQ9 d)) (fun x=>(x.1,(eZ x.2 ())))
theorem yZm:zJ prog yFt:=fX (rs:=.c (.int .i64)) (os:=[wG]) f86 ⟨[],[],true⟩ 1 (fun d=>(d.1,(kV d))) (zN (l:=[iq,SF,SO,GY]) zM ⟨iQ,yBj,yKa,Lk,trivial⟩) zK
def S0:Nat×zH:=zP 158 [.ptr S1,.c (.int .i64)] (.tup [(true,gl),(false,qX)]) (fun k d=>S2 k (fO d) d.2.2.2.2.2.2.2.2.2.2.2.2.2.2.2.2.2.2.1) (fun x=>(gi x.1 (x.2,())))
theorem yL4:zJ prog S0:=fA (rs:=.tup [(true,gl),(false,qX)]) f158 ⟨[],[],true⟩ (fun d=>((wI d),d.2.2.2.2.2.2.2.1)) (zN (l:=[xi]) zM ⟨CT,trivial⟩) zK
def S3:Nat×zH:=wC 211 [.c (.own zG),.c (.p (.int .i64)),.c (.p (.int .i64))] (.c (.own zG)) [] (fun k d=>Fu k d.1 d.2.1 d.2.2.1) (fun x=>(x,()))
theorem yGe:zJ prog S3:=fX (rs:=.c (.own zG)) (os:=[]) f211 ⟨[],[],false⟩ 0 (fun d=>d.1) (zN (l:=[]) zM trivial) zK
def tC:Nat×zH:=zP 159 [.c (.dat true zG),.c (.int .i64)] (.tup [(false,vE),(true,gl),(false,qX)]) (fun k d=>nu k d.1 d.2.1) (fun x=>(Ll x ()))
theorem xj:zJ prog tC:=fA (rs:=.tup [(false,vE),(true,gl),(false,qX)]) f159 ⟨[],[],false⟩ (fun d=>(Lm d)) (zN (l:=[xi,Lh,S3]) zM ⟨CT,SW,yGe,trivial⟩) zK
def S4:Nat×zH:=wC 47 [.ptr true tB,.c (.p (.int .i64)),.c (.p (.dat false (.int .i64)))] (.tup []) [wG] (fun k d=>sZ k (fO d) d.2.2.2.2.2.2.2.2.2.2.2.2.2.2.2.2.2.2.1 d.2.2.2.2.2.2.2.2.2.2.2.2.2.2.2.2.2.2.2.1) (fun x=>(eZ x ()))
theorem yNb:zJ prog S4:=fX (rs:=.tup []) (os:=[wG]) f47 ⟨[],[],true⟩ 1 (fun d=>(fO d)) (zN (l:=[]) zM trivial) zK
def S5:Nat×zH:=zP 161 [.c (.dat true zG),.c (.int .i64),.c (.int .i64)] (.tup [(false,vE),(false,qX)]) (fun k d=>A2 k d.1 d.2.1 d.2.2.1) (fun x=>(x.1,x.2,()))
theorem yMo:zJ prog S5:=fA (rs:=.tup [(false,vE),(false,qX)]) f161 ⟨[],[],true⟩ (fun d=>(d.1,d.2.1)) (zN (l:=[tC,GY]) zM ⟨xj,Lk,trivial⟩) zK
def qL6:Nat×zH:=zP 159 [.c (.dat false zG),.c (.int .i64)] (.tup [(false,[.own zG]),(true,gl),(false,qX)]) (fun k d=>QS k d.1 d.2.1) (fun x=>(Ll x ()))
theorem yYz:zJ prog qL6:=fA (rs:=.tup [(false,[.own zG]),(true,gl),(false,qX)]) f159 ⟨[],[],false⟩ (fun d=>(Lm d)) (zN (l:=[xi,Lh,S3]) zM ⟨CT,SW,yGe,trivial⟩) zK
def yDc:zF:=⟨[(6,.c (.lit (.osl 1001000 none))),(7,.c (.lit (.ptr 1001001 0))),(9,.c (.int .i64))],[.arr true zG,.box true wD],[]⟩
def yDx:zF:=⟨[(6,.c (.lit (.osl 1001000 none))),(7,.c (.lit (.ptr 1001001 0))),(9,.c (.int .i64))],[.arr true zG,.box true wD],[]⟩
def yVk (f:S6)(d:yDc.den):Option Ln:=f d.1.2.2.1.1 d.2.1 (wI d.2.2.1)
def S7:qE:=⟨yDc,[(.exit 0,yDx)],Ln,fun k d=>yVk (A5 k k) d,fun b x _ K=>K (.exit 0) (zS b yDx (((),(),(x.1,()),()),(x.2.1,(gi x.2.2 ()),())))⟩
def vEc:qB:=⟨prog,fun _=>false,qJ [qL6,Lg,SX]⟩
def yRs:zY:=⟨[],[(5,S7)],true⟩
theorem qXe:qI vEc:=zN zM ⟨yYz,SU,yWy,trivial⟩
theorem vE7:qD prog 1000 0 41 (zX (qC f162) 0) S7:=lp (A:=yRs) S7 (fun d=>(d.1.2.2.1.1,d.2.1,(wI d.2.2.1))) yVk A5 A6 qXe zK
def S8:Nat×zH:=zP 162 [.c (.dat true zG),.c (.int .i64)] (.tup [(false,vE),(false,qX)]) (fun k d=>A7 k d.1 d.2.1) (fun x=>(x.1,x.2,()))
theorem yKq:zJ prog S8:=fA (rs:=.tup [(false,vE),(false,qX)]) f162 yRs (fun d=>(d.1,d.2.1)) qXe (loops1 vE7)
def S9:Nat×zH:=zP 163 [.c (.dat true zG),.c (.int .i64)] (.tup [(false,vE),(false,qX)]) (fun k d=>A3 k d.1 d.2.1) (fun x=>(x.1,x.2,()))
theorem qWg:zJ prog S9:=fA (rs:=.tup [(false,vE),(false,qX)]) f163 ⟨[],[],true⟩ (fun d=>(d.1,d.2.1)) (zN (l:=[tC,GY]) zM ⟨xj,Lk,trivial⟩) zK
def qVu:Nat×zH:=wC 87 [.ptr true tB,.agg vI] (.c (.int .i64)) [wG] (fun k d=>we k (fO d) (CV d)) (fun x=>(x.1,(eZ x.2 ())))
theorem vJj:zJ prog qVu:=fX (rs:=.c (.int .i64)) (os:=[wG]) f87 ⟨[],[],true⟩ 1 (fun d=>(d.1,(kV d))) (zN (l:=[S0,tC,S4,iq,Ld,S5,S8,S9]) zM ⟨yL4,xj,yNb,iQ,SE,yMo,yKq,qWg,trivial⟩) zK
def yIm:Nat×zH:=uV 212 false yH (.own yH) Qg
theorem vQd:zJ prog yIm:=fC f212 ⟨[],[],false⟩ (zN (l:=[]) zM trivial) zK
def qSx:Nat×zH:=uV 167 true (.sl (.int .i64)) (.jun) Qd
theorem yXx:zJ prog qSx:=fC f167 ⟨[],[],false⟩ (zN (l:=[]) zM trivial) zK
def yMw:zF:=⟨[(3,.c (.lit (.osl 1001000 none))),(8,.c (.dat true (.sl (.int .i64)))),(9,.c (.int .i64)),(10,.c (.int .i64))],[.pmat],[]⟩
def qWv:zF:=⟨[(3,.c (.lit (.osl 1001000 none)))],[.pmat],[]⟩
def qWb (f:Ta)(d:yMw.den):Option ((List (List Int))×Nat):=f d.1.2.1.1 d.1.2.2.1.1 d.1.2.2.2.1.1 d.2.1.1 d.2.1.2
def Tb:qE:=⟨yMw,[(.exit 0,qWv)],((List (List Int))×Nat),fun k d=>qWb (EL k k) d,fun b x _ K=>K (.exit 0) (zS b qWv (((),()),((x.1,x.2),())))⟩
def vFy:qB:=⟨prog,fun _=>false,qJ [qSx,GX]⟩
def yP6:zY:=⟨[],[(3,Tb)],false⟩
theorem yW9:qI vFy:=zN zM ⟨yXx,Lf,trivial⟩
theorem vE3:qD prog 1000 0 22 (zX (qC f213) 0) Tb:=lp (A:=yP6) Tb (fun d=>d.2.1) qWb EL zn yW9 zK
def qYd:Nat×zH:=zP 213 [.c (.dat true (.sl (.int .i64)))] (.c (.mat)) (fun k d=>EM k d.1) (fun x=>(x,()))
theorem vRf:zJ prog qYd:=fA (rs:=.c (.mat)) f213 yP6 (fun d=>d.1) yW9 (loops1 vE3)
def oM:Nat×zH:=zP 164 [.agg [.dat false yH,.dat true (.sl (.int .i64)),.dat false (.int .i64),.dat true (.sl (.int .i64))]] (.agg Lp) (fun k d=>(vB (fq k) d)) (fun x=>(qt x ()))
theorem qu:zJ prog oM:=fA (rs:=.agg Lp) f164 ⟨[],[],false⟩ (fun d=>(qw d)) (zN (l:=[yIm,qYd,GX]) zM ⟨vQd,vRf,Lf,trivial⟩) zK
def Tc:Nat×zH:=zP 165 [.ptr S1,.c (.int .i64)] (.c (.bool)) (fun k d=>Td k (fO d) d.2.2.2.2.2.2.2.2.2.2.2.2.2.2.2.2.2.2.1) (fun x=>(x,()))
theorem yXc:zJ prog Tc:=fA (rs:=.c (.bool)) f165 ⟨[],[],true⟩ (fun d=>d.1) (zN (l:=[iq]) zM ⟨iQ,trivial⟩) zK
def yAs:Nat×zH:=wC 88 [.ptr true tB,.agg vI] (.c (.int .i64)) [wG] (fun k d=>wg k (fO d) (CV d)) (fun x=>(x.1,(eZ x.2 ())))
theorem yX1:zJ prog yAs:=fX (rs:=.c (.int .i64)) (os:=[wG]) f88 ⟨[],[],true⟩ 1 (fun d=>(d.1,(kV d))) (zN (l:=[oM,Tc,iq]) zM ⟨qu,yXc,iQ,trivial⟩) zK
def G0:Nat×zH:=zP 166 [.ptr S1,.c (.int .i64)] (.c (.bool)) (fun k d=>G1 k (fO d) d.2.2.2.2.2.2.2.2.2.2.2.2.2.2.2.2.2.2.1) (fun x=>(x,()))
theorem Lq:zJ prog G0:=fA (rs:=.c (.bool)) f166 ⟨[],[],true⟩ (fun d=>d.1) (zN (l:=[iq]) zM ⟨iQ,trivial⟩) zK
def Te:Nat×zH:=uV 167 true (.sl (.int .i64)) (.own (.sl (.int .i64))) BV
theorem qWp:zJ prog Te:=fC f167 ⟨[],[],false⟩ (zN (l:=[]) zM trivial) zK
def G2:Nat×zH:=zP 168 [.c (.dat false (.int .i64)),.c (.int .i64),.c (.int .i64)] (.c (.own (.int .i64))) (fun k d=>nw k d.1 d.2.1 d.2.2.1) (fun x=>(x,()))
theorem Lr:zJ prog G2:=fA (rs:=.c (.own (.int .i64))) f168 ⟨[],[],true⟩ (fun d=>d.1) (zN (l:=[GX]) zM ⟨Lf,trivial⟩) zK
def qZm:Nat×zH:=zP 227 [.c (.int .i64)] (.c (.bool)) (fun k d=>QV k d.1) (fun x=>(x,()))
theorem yY2:zJ prog qZm:=fA (rs:=.c (.bool)) f227 ⟨[],[],true⟩ (fun d=>d.1) (zN (l:=[]) zM trivial) zK
def yRk:Nat×zH:=zP 228 [.c (.int .u64),.c (.int .u64)] (.tup [(false,[.int .u64]),(false,[.int .u64])]) (fun k d=>FB k d.1 d.2.1) (fun x=>(x.1,x.2,()))
theorem vCt:zJ prog yRk:=fA (rs:=.tup [(false,[.int .u64]),(false,[.int .u64])]) f228 ⟨[],[],true⟩ (fun d=>(d.1,d.2.1)) (zN (l:=[]) zM trivial) zK
def qWf:Nat×zH:=zP 264 [.c (.int .u64)] (.c (.int .i64)) (fun k d=>yOx k d.1) (fun x=>(x,()))
theorem vTf:zJ prog qWf:=fA (rs:=.c (.int .i64)) f264 ⟨[],[],true⟩ (fun d=>d.1) (zN (l:=[]) zM trivial) zK
def qJ9:Nat×zH:=zP 254 [.c (.int .u64)] (.c (.int .i64)) (fun k d=>yPp k d.1) (fun x=>(x,()))
theorem vH4:zJ prog qJ9:=fA (rs:=.c (.int .i64)) f254 ⟨[],[],true⟩ (fun d=>d.1) (zN (l:=[qWf]) zM ⟨vTf,trivial⟩) zK
def yAk:zF:=⟨[(2,.c (.int .u64)),(8,.c (.int .u64)),(9,.c (.int .u64)),(10,.c (.int .u64)),(11,.c (.int .u64)),(13,.c (.int .u64)),(14,.c (.int .u64)),(15,.c (.int .u64)),(16,.c (.int .u64))],[],[]⟩
def yG0:zF:=⟨[(2,.c (.int .u64)),(8,.c (.int .u64)),(9,.c (.int .u64)),(10,.c (.int .u64)),(11,.c (.int .u64)),(13,.c (.int .u64)),(14,.c (.int .u64)),(15,.c (.int .u64))],[],[]⟩
def yJ0 (f:Tf)(d:yAk.den):Option Ls:=f d.1.1.1 d.1.2.1.1 d.1.2.2.1.1 d.1.2.2.2.1.1 d.1.2.2.2.2.1.1 d.1.2.2.2.2.2.1.1 d.1.2.2.2.2.2.2.1.1 d.1.2.2.2.2.2.2.2.1.1 d.1.2.2.2.2.2.2.2.2.1.1
def Lt:qE:=⟨yAk,[(.exit 0,yG0)],Ls,fun k d=>yJ0 (Tg k k) d,fun b x _ K=>K (.exit 0) (zS b yG0 (((x.1,()),(x.2.1,()),(x.2.2.1,()),(x.2.2.2.1,()),(x.2.2.2.2.1,()),(x.2.2.2.2.2.1,()),(x.2.2.2.2.2.2.1,()),(x.2.2.2.2.2.2.2,()),()),()))⟩
def yQu:zF:=⟨[(2,.c (.int .u64)),(8,.c (.int .u64)),(9,.c (.int .u64)),(10,.c (.int .u64)),(14,.c (.int .u64)),(15,.c (.int .u64)),(16,.c (.int .u64)),(17,.c (.int .u64)),(18,.c (.int .u64))],[],[]⟩
def yOu:zF:=⟨[(2,.c (.int .u64)),(8,.c (.int .u64)),(14,.c (.int .u64)),(15,.c (.int .u64)),(17,.c (.int .u64)),(18,.c (.int .u64))],[],[]⟩
def yAa (f:Th)(d:yQu.den):Option Lu:=f d.1.1.1 d.1.2.1.1 d.1.2.2.1.1 d.1.2.2.2.1.1 d.1.2.2.2.2.1.1 d.1.2.2.2.2.2.1.1 d.1.2.2.2.2.2.2.1.1 d.1.2.2.2.2.2.2.2.1.1 d.1.2.2.2.2.2.2.2.2.1.1
def Lv:qE:=⟨yQu,[(.exit 2,yOu)],Lu,fun k d=>yAa (Ti k k) d,fun b x _ K=>K (.exit 2) (zS b yOu (((x.1,()),(x.2.1,()),(x.2.2.1,()),(x.2.2.2.1,()),(x.2.2.2.2.1,()),(x.2.2.2.2.2,()),()),()))⟩
def vGn:qB:=⟨prog,fun _=>false,qJ [qJ9]⟩
def Tj:zY:=⟨[],[(17,Lt),(24,Lv)],true⟩
theorem Tk:qI vGn:=zN zM ⟨vH4,trivial⟩
theorem vH7:qD prog 1000 0 135 (zX (qC f229) 0) Lt:=lp (A:=Tj) Lt (fun d=>(d.1.1.1,d.1.2.1.1,d.1.2.2.1.1,d.1.2.2.2.1.1,d.1.2.2.2.2.1.1,d.1.2.2.2.2.2.1.1,d.1.2.2.2.2.2.2.1.1,d.1.2.2.2.2.2.2.2.1.1)) yJ0 Tg yFg Tk zK
theorem vK7:qD prog 1000 0 135 (zX (qC f229) 1) Lv:=lp (A:=Tj) Lv (fun d=>(d.1.1.1,d.1.2.1.1,d.1.2.2.1.1,d.1.2.2.2.1.1,d.1.2.2.2.2.1.1,d.1.2.2.2.2.2.1.1)) yAa Ti yGp Tk zK
def yFa:Nat×zH:=zP 229 [.c (.int .u64),.c (.int .u64),.c (.int .u64)] (.tup [(false,[.int .u64]),(false,[.int .u64])]) (fun k d=>JF k d.1 d.2.1 d.2.2.1) (fun x=>(x.1,x.2,()))
theorem vEa:zJ prog yFa:=fA (rs:=.tup [(false,[.int .u64]),(false,[.int .u64])]) f229 Tj (fun d=>(d.1,d.2.1)) Tk (oc (n:=2) (by kernel_rfl) fun i hi=>match i,hi with|0,_=>⟨Lt,by kernel_rfl,vH7⟩|1,_=>⟨Lv,by kernel_rfl,vK7⟩|i+2,hi=>absurd hi (by omega))
def Tl:Nat×zH:=(133,IB)
theorem yG1:zJ prog Tl:=vG5 (fn:=f133)
def qQ4:Nat×zH:=zP 191 [.c (.int .i64),.c (.int .i64),.c (.int .i64)] (.tup [(false,qX),(false,[.bool])]) (fun k d=>JG k d.1 d.2.1 d.2.2.1) (fun x=>(x.1,x.2,()))
theorem vFi:zJ prog qQ4:=fA (rs:=.tup [(false,qX),(false,[.bool])]) f191 ⟨[],[],true⟩ (fun d=>(d.1,d.2.1)) (zN (l:=[qZm,yRk,yFa,Tl]) zM ⟨yY2,vCt,vEa,yG1,trivial⟩) zK
def qZh:zF:=⟨[(4,.c (.int .i64)),(5,.c (.int .u64)),(9,.c (.dat false (.int .i64))),(10,.c (.int .i64)),(11,.c (.int .i64))],[],[]⟩
def yFe:zF:=⟨[(4,.c (.int .i64)),(5,.c (.int .u64))],[],[]⟩
def yKf (f:Tm)(d:qZh.den):Option wO:=f d.1.1.1 d.1.2.1.1 d.1.2.2.1.1 d.1.2.2.2.1.1 d.1.2.2.2.2.1.1
def Tn:qE:=⟨qZh,[(.exit 0,yFe)],wO,fun k d=>yKf (Bb k k) d,fun b x _ K=>K (.exit 0) (zS b yFe (((x.1,()),(x.2,()),()),()))⟩
def vC1:qB:=⟨prog,fun _=>false,qJ [Tl]⟩
def yRr:zY:=⟨[],[(4,Tn)],false⟩
theorem qWr:qI vC1:=zN zM ⟨yG1,trivial⟩
theorem vBv:qD prog 1000 0 37 (zX (qC f68) 0) Tn:=lp (A:=yRr) Tn (fun d=>(d.1.1.1,d.1.2.1.1)) yKf Bb Bc qWr zK
def Sc:Nat×zH:=zP 68 [.c (.dat false (.int .i64))] (.tup [(false,qX),(false,[.bool])]) (fun k d=>Ba k d.1) (fun x=>(x.1,x.2,()))
theorem yNo:zJ prog Sc:=fA (rs:=.tup [(false,qX),(false,[.bool])]) f68 yRr (fun d=>(d.1,d.2.1)) qWr (loops1 vBv)
def ySh:zF:=⟨[(1,.c (.dat false (.int .i64))),(2,.c (.dat false (.int .i64))),(8,.c (.lit (.osl 1001000 none))),(25,.c (.dat false fa)),(26,.c (.int .i64)),(27,.c (.int .i64))],[.arr true (.int .i64)],[(8,none,(.int .i64),false)]⟩
def qX8:zF:=⟨[(8,.c (.lit (.osl 1001000 none)))],[.arr true (.int .i64)],[]⟩
def yW8:zF:=⟨[(6,.c (.int .i64)),(7,.c (.bool))],[],[]⟩
def yB9 (f:To)(d:ySh.den):Option ((List Int)⊕wZ):=f d.1.1.1 d.1.2.1.1 d.1.2.2.2.1.1 d.1.2.2.2.2.1.1 d.1.2.2.2.2.2.1.1 d.2.1
def Tp:qE:=⟨ySh,[(.exit 0,qX8),(.ret,yW8)],((List Int)⊕wZ),fun k d=>yB9 (Bd k k) d,fun b x _ K=>match x with|.inl x=>K (.exit 0) (zS b qX8 (((),()),(x,())))|.inr x=>K .ret (zS b yW8 (((x.1,()),(x.2,()),()),()))⟩
def vG2:qB:=⟨prog,fun _=>false,qJ [qQ4,Sc]⟩
def yTw:zY:=⟨[],[(5,Tp)],true⟩
theorem yL5:qI vG2:=zN zM ⟨vFi,yNo,trivial⟩
theorem vR7:qD prog 1000 0 57 (zX (qC f125) 0) Tp:=lp (A:=yTw) Tp (fun d=>match d with|.inl d=>.inl d.2.1|.inr d=>.inr (d.1.1.1,d.1.2.1.1)) yB9 Bd Be yL5 zK
def CW:Nat×zH:=zP 125 [.c (.dat false fa),.c (.dat false (.int .i64)),.c (.dat false (.int .i64))] (.tup [(false,qX),(false,[.bool])]) (fun k d=>oE k d.1 d.2.1 d.2.2.1) (fun x=>(x.1,x.2,()))
theorem G3:zJ prog CW:=fA (rs:=.tup [(false,qX),(false,[.bool])]) f125 yTw (fun d=>(d.1,d.2.1)) yL5 (loops1 vR7)
def qYk:Nat×zH:=wC 89 [.ptr true tB,.c (.p (.int .i64)),.c (.p (.int .i64))] (.c (.int .i64)) [wG] (fun k d=>J4 k (fO d) d.2.2.2.2.2.2.2.2.2.2.2.2.2.2.2.2.2.2.1 d.2.2.2.2.2.2.2.2.2.2.2.2.2.2.2.2.2.2.2.1) (fun x=>(x.1,(eZ x.2 ())))
theorem yXm:zJ prog qYk:=fX (rs:=.c (.int .i64)) (os:=[wG]) f89 ⟨[],[],true⟩ 1 (fun d=>(d.1,(kV d))) (zN (l:=[G0,iq,Te,G2,CW,oM]) zM ⟨Lq,iQ,qWp,Lr,G3,qu,trivial⟩) zK
def qZ5:Nat×zH:=zP 201 [.c (.int .i64),.c (.int .i64)] (.tup [(false,qX),(false,[.bool])]) (fun k d=>J5 k d.1 d.2.1) (fun x=>(x.1,x.2,()))
theorem vPa:zJ prog qZ5:=fA (rs:=.tup [(false,qX),(false,[.bool])]) f201 ⟨[],[],false⟩ (fun d=>(d.1,d.2.1)) (zN (l:=[]) zM trivial) zK
def Tq:Nat×zH:=zP 116 [.agg lO] (.c (.bool)) (fun k d=>IL k d.1 d.2.1 d.2.2.1) (fun x=>(x,()))
theorem yP2:zJ prog Tq:=fA (rs:=.c (.bool)) f116 ⟨[],[],false⟩ (fun d=>d.1) (zN (l:=[]) zM trivial) zK
def Ts:Nat×zH:=zP 214 [.agg lO,.c (.int .i64)] (.tup [(true,tD),(false,qX)]) (fun k d=>FV k (d.1,d.2.1,d.2.2.1) d.2.2.2.1) (fun x=>(x.1.1,x.1.2.1,x.1.2.2,x.2,()))
theorem yPr:zJ prog Ts:=fA (rs:=.tup [(true,tD),(false,qX)]) f214 ⟨[],[],true⟩ (fun d=>((d.1,d.2.1,d.2.2.1),d.2.2.2.1)) (zN (l:=[qZ5,Tq]) zM ⟨vPa,yP2,trivial⟩) zK
def Tt:Nat×zH:=zP 169 [.agg lO,.c (.int .i64)] (.tup [(true,tD),(false,qX)]) (fun k d=>BW k (d.1,d.2.1,d.2.2.1) d.2.2.2.1) (fun x=>(x.1.1,x.1.2.1,x.1.2.2,x.2,()))
theorem yDm:zJ prog Tt:=fA (rs:=.tup [(true,tD),(false,qX)]) f169 ⟨[],[],true⟩ (fun d=>((d.1,d.2.1,d.2.2.1),d.2.2.2.1)) (zN (l:=[Ts]) zM ⟨yPr,trivial⟩) zK
def Lw:Nat×zH:=zP 215 [.agg lO,.c (.int .i64)] (.c (.int .i64)) (fun k d=>(vB (sF k) d)) (fun x=>(x,()))
theorem Tu:zJ prog Lw:=fA (rs:=.c (.int .i64)) f215 ⟨[],[],false⟩ (fun d=>d.1) (zN (l:=[]) zM trivial) zK
def Tv:Nat×zH:=zP 170 [.agg lO,.c (.int .i64),.c (.int .i64)] (.tup [(true,tD),(false,qX)]) (fun k d=>BX k (d.1,d.2.1,d.2.2.1) d.2.2.2.1 d.2.2.2.2.1) (fun x=>(x.1.1,x.1.2.1,x.1.2.2,x.2,()))
theorem yPj:zJ prog Tv:=fA (rs:=.tup [(true,tD),(false,qX)]) f170 ⟨[],[],true⟩ (fun d=>((d.1,d.2.1,d.2.2.1),d.2.2.2.1)) (zN (l:=[Ts,Lw]) zM ⟨yPr,Tu,trivial⟩) zK
def Tw:Nat×zH:=zP 171 [.agg lO,.c (.int .i64)] (.c (.int .i64)) (fun k d=>BY k (d.1,d.2.1,d.2.2.1) d.2.2.2.1) (fun x=>(x,()))
theorem yFy:zJ prog Tw:=fA (rs:=.c (.int .i64)) f171 ⟨[],[],true⟩ (fun d=>d.1) (zN (l:=[]) zM trivial) zK
def qWw:Nat×zH:=wC 90 [.ptr true tB,.c (.p (.int .i64)),.c (.p (.int .i64)),.c (.p (.int .i64))] (.c (.int .i64)) [wG] (fun k d=>Tx k (fO d) d.2.2.2.2.2.2.2.2.2.2.2.2.2.2.2.2.2.2.1 d.2.2.2.2.2.2.2.2.2.2.2.2.2.2.2.2.2.2.2.1 d.2.2.2.2.2.2.2.2.2.2.2.2.2.2.2.2.2.2.2.2.1) (fun x=>(x.1,(eZ x.2 ())))
theorem vEy:zJ prog qWw:=fX (rs:=.c (.int .i64)) (os:=[wG]) f90 ⟨[],[],true⟩ 1 (fun d=>(d.1,(kV d))) (zN (l:=[iq,Tt,Tv,Tw,oM]) zM ⟨iQ,yDm,yPj,yFy,qu,trivial⟩) zK
def qXd:zF:=⟨[(0,.c (.lit (.ptr 1001000 0))),(7,.c (.lit (.osl 1001002 none))),(8,.c (.lit (.ptr 1001003 0))),(40,.c (.dat true (.sl (.int .i64)))),(41,.c (.int .i64)),(42,.c (.int .i64))],[.box true Tz,.arr true yA,.arr true (.int .i64),.box true yRj,.arr true yH,.mat,.arr true (.int .i64),.mat],[]⟩
def yD0:zF:=⟨[(0,.c (.lit (.ptr 1001000 0))),(7,.c (.lit (.osl 1001002 none))),(8,.c (.lit (.ptr 1001003 0)))],[.box true Tz,.arr true yA,.arr true (.int .i64),.box true yRj,.arr true yH,.mat,.arr true (.int .i64),.mat],[]⟩
def yTf:zF:=⟨[(0,.c (.lit (.ptr 1001000 0))),(6,.c (.int .i64))],[.box true Tz,.arr true yA],[]⟩
def yLb (f:TA)(d:qXd.den):Option Lx:=f d.1.2.2.2.1.1 d.1.2.2.2.2.1.1 d.1.2.2.2.2.2.1.1 (jl d.2.1) d.2.2.1 d.2.2.2.1 d.2.2.2.2.2.1 d.2.2.2.2.2.2.1 d.2.2.2.2.2.2.2.1 d.2.2.2.2.2.2.2.2.1
def TB:qE:=⟨qXd,[(.exit 0,yD0),(.ret,yTf)],Lx,fun k d=>yLb (TC k k) d,fun b x _ K=>match x with|.inl x=>K (.exit 0) (zS b yD0 (((),(),(),()),((vG x.1 ()),x.2.1,x.2.2.1,(),x.2.2.2.1,x.2.2.2.2.1,x.2.2.2.2.2.1,x.2.2.2.2.2.2,())))|.inr x=>K .ret (zS b yTf (((),(x.1,()),()),((vG x.2.1 ()),x.2.2,())))⟩
def vP4:qB:=⟨prog,fun _=>false,qJ [G0,iq,G2,oM,CW]⟩
def yGh:zY:=⟨[],[(6,TB)],true⟩
theorem yBy:qI vP4:=zN zM ⟨Lq,iQ,Lr,qu,G3,trivial⟩
theorem vQm:qD prog 1000 1 81 (zX (qC f91) 0) TB:=lp (A:=yGh) TB (fun d=>match d with|.inl d=>.inl ((jl d.2.1),d.2.2.1,d.2.2.2.1,d.2.2.2.2.2.1,d.2.2.2.2.2.2.1,d.2.2.2.2.2.2.2.1,d.2.2.2.2.2.2.2.2.1)|.inr d=>.inr (d.1.2.1.1,(jl d.2.1),d.2.2.1)) yLb TC yT0 yBy zK
def yN4:Nat×zH:=wC 91 [.ptr true tB,.c (.p (.int .i64)),.c (.p (.int .i64))] (.c (.int .i64)) [wG] (fun k d=>yMv k (fO d) d.2.2.2.2.2.2.2.2.2.2.2.2.2.2.2.2.2.2.1 d.2.2.2.2.2.2.2.2.2.2.2.2.2.2.2.2.2.2.2.1) (fun x=>(x.1,(eZ x.2 ())))
theorem vF4:zJ prog yN4:=fX (rs:=.c (.int .i64)) (os:=[wG]) f91 yGh 1 (fun d=>(d.1,(kV d))) yBy (loops1 vQm)
def yWd:Nat×zH:=wC 48 [.ptr true tB,.agg vI] (.c (.int .i64)) [wG] (fun k d=>KO k (fO d) (CV d)) (fun x=>(x.1,(eZ x.2 ())))
theorem vP1:zJ prog yWd:=fX (rs:=.c (.int .i64)) (os:=[wG]) f48 ⟨[],[],true⟩ 1 (fun d=>(d.1,(kV d))) (zN (l:=[yFt,qVu,yAs,qYk,qWw,yN4]) zM ⟨yZm,vJj,yX1,yXm,vEy,vF4,trivial⟩) zK
def Sd:Nat×zH:=zP 69 [.agg iR,.c (.int .i64)] (.c (.bool)) (fun k d=>(ir (wb k) d)) (fun x=>(x,()))
theorem yAw:zJ prog Sd:=fA (rs:=.c (.bool)) f69 ⟨[],[],false⟩ (fun d=>d.1) (zN (l:=[]) zM trivial) zK
def Ly:Nat×zH:=zP 94 [.c (.int .i64),.c (.int .i64),.c (.dat false (.int .i64))] (.agg LA) (fun k d=>nA k d.1 d.2.1 d.2.2.1) (fun x=>(LB x ()))
theorem TD:zJ prog Ly:=fA (rs:=.agg LA) f94 ⟨[],[],false⟩ (fun d=>(CX d)) (zN (l:=[]) zM trivial) zK
def yMa:zF:=⟨[(1,.c (.lit (.ptr 1001000 0))),(2,.c (.lit (.ptr 1001001 0))),(4,.c (.lit (.osl 1001002 none))),(10,.c (.dat true zG)),(11,.c (.int .i64)),(12,.c (.int .i64))],[.box true kn,.box true gk,.arr true yA],[(4,none,yA,false)]⟩
def yCt:zF:=⟨[(1,.c (.lit (.ptr 1001000 0))),(2,.c (.lit (.ptr 1001001 0))),(4,.c (.lit (.osl 1001002 none)))],[.box true kn,.box true gk,.arr true yA],[]⟩
def yS0 (f:TE)(d:yMa.den):Option LC:=(oK (f d.1.2.2.2.1.1 d.1.2.2.2.2.1.1 d.1.2.2.2.2.2.1.1) d.2.1) d.2.2.1.1 d.2.2.1.2.1 d.2.2.1.2.2.1 d.2.2.2.1
def LD:qE:=⟨yMa,[(.exit 0,yCt)],LC,fun k d=>yS0 (BL k k) d,fun b x _ K=>K (.exit 0) (zS b yCt (((),(),(),()),((tE x ()),(x.2.2.2.2.2.2.2.2.2.2.2.1,x.2.2.2.2.2.2.2.2.2.2.2.2.1,x.2.2.2.2.2.2.2.2.2.2.2.2.2.1,()),x.2.2.2.2.2.2.2.2.2.2.2.2.2.2,())))⟩
def yKh:zF:=⟨[(1,.c (.lit (.ptr 1001000 0))),(2,.c (.lit (.ptr 1001001 0))),(4,.c (.lit (.osl 1001002 none))),(28,.c (.dat true yH)),(29,.c (.int .i64)),(30,.c (.int .i64))],[.box true kn,.box true gk,.arr true yA],[]⟩
def yUj:zF:=⟨[(1,.c (.lit (.ptr 1001000 0))),(2,.c (.lit (.ptr 1001001 0))),(4,.c (.lit (.osl 1001002 none)))],[.box true kn,.box true gk,.arr true yA],[]⟩
def yW6 (f:TF)(d:yKh.den):Option LF:=(oK (f d.1.2.2.2.1.1 d.1.2.2.2.2.1.1 d.1.2.2.2.2.2.1.1) d.2.1) d.2.2.1.1 d.2.2.1.2.1 d.2.2.1.2.2.1 d.2.2.2.1
def LG:qE:=⟨yKh,[(.exit 2,yUj)],LF,fun k d=>yW6 (BN k k) d,fun b x _ K=>K (.exit 2) (zS b yUj (((),(),(),()),((tE x ()),(x.2.2.2.2.2.2.2.2.2.2.2.1,x.2.2.2.2.2.2.2.2.2.2.2.2.1,x.2.2.2.2.2.2.2.2.2.2.2.2.2.1,()),x.2.2.2.2.2.2.2.2.2.2.2.2.2.2,())))⟩
def vLf:qB:=⟨prog,fun _=>false,qJ [Ly]⟩
def TG:zY:=⟨[],[(3,LD),(8,LG)],false⟩
theorem TH:qI vLf:=zN zM ⟨TD,trivial⟩
theorem vTe:qD prog 1000 0 48 (zX (qC f92) 0) LD:=lp (A:=TG) LD (fun d=>(tE d.2.1 (d.2.2.1.1,d.2.2.1.2.1,d.2.2.1.2.2.1,d.2.2.2.1))) yS0 BL BM TH zK
theorem vFm:qD prog 1000 0 48 (zX (qC f92) 1) LG:=lp (A:=TG) LG (fun d=>(tE d.2.1 (d.2.2.1.1,d.2.2.1.2.1,d.2.2.1.2.2.1,d.2.2.2.1))) yW6 BN BO TH zK
def qLc:Nat×zH:=zP 92 [.agg tF] (.tup [(true,yRp),(false,[.own yA])]) (fun k d=>(oK (J1 k) d)) (fun x=>(CY x ()))
theorem vCi:zJ prog qLc:=fA (rs:=.tup [(true,yRp),(false,[.own yA])]) f92 TG (fun d=>(CZ d)) TH (oc (n:=2) (by kernel_rfl) fun i hi=>match i,hi with|0,_=>⟨LD,by kernel_rfl,vTe⟩|1,_=>⟨LG,by kernel_rfl,vFm⟩|i+2,hi=>absurd hi (by omega))
def qH9:Nat×zH:=zP 93 [.agg vI,.c (.int .i64)] (.c (.bool)) (fun k d=>(ko (Rg k) d)) (fun x=>(x,()))
theorem vRu:zJ prog qH9:=fA (rs:=.c (.bool)) f93 ⟨[],[],false⟩ (fun d=>d.1) (zN (l:=[]) zM trivial) zK
def qJ1:Nat×zH:=zP 95 [.agg iR,.c (.int .i64)] (.c (.bool)) (fun k d=>(ir (BR k) d)) (fun x=>(x,()))
theorem vEj:zJ prog qJ1:=fA (rs:=.c (.bool)) f95 ⟨[],[],false⟩ (fun d=>d.1) (zN (l:=[]) zM trivial) zK
def qY2:Nat×zH:=zP 252 [.agg vI,.c (.int .i64)] (.c (.bool)) (fun k d=>(ko (QC k) d)) (fun x=>(x,()))
theorem vRb:zJ prog qY2:=fA (rs:=.c (.bool)) f252 ⟨[],[],false⟩ (fun d=>d.1) (zN (l:=[]) zM trivial) zK
def qUi:Nat×zH:=zP 251 [.agg vI,.ptr [.int .i64]] (.c (.bool)) (fun k d=>(ko (QB k) d)) (fun x=>(x,()))
theorem vN6:zJ prog qUi:=fA (rs:=.c (.bool)) f251 ⟨[],[],false⟩ (fun d=>d.1) (zN (l:=[qY2]) zM ⟨vRb,trivial⟩) zK
def yJ7:zF:=⟨[(1,.c (.lit (.fn 251 [1001000]))),(5,.c (.lit (.osl 1001001 none))),(8,.c (.dat false zG)),(9,.c (.int .i64)),(10,.c (.int .i64))],[.robox [.int .i64],.arr true zG],[(5,none,zG,false)]⟩
def yQp:zF:=⟨[(5,.c (.lit (.osl 1001000 none)))],[.arr true zG],[]⟩
def yBh (f:TI)(d:yJ7.den):Option LH:=f d.1.2.2.1.1 d.1.2.2.2.1.1 d.1.2.2.2.2.1.1 d.2.1.1 d.2.2.1
def TJ:qE:=⟨yJ7,[(.exit 0,yQp)],LH,fun k d=>yBh (Fk k k) d,fun b x _ K=>K (.exit 0) (zS b yQp (((),()),(x,())))⟩
def vM4:qB:=⟨prog,fun _=>false,qJ [qUi]⟩
def yBn:zY:=⟨[],[(3,TJ)],false⟩
theorem qZ9:qI vM4:=zN zM ⟨vN6,trivial⟩
theorem vFc:qD prog 1000 0 23 (zX (qC f153) 0) TJ:=lp (A:=yBn) TJ (fun d=>d.2.1) yBh Fk AB qZ9 zK
def yD9:Nat×zH:=zP 153 [.c (.dat false zG),.fn 251 [[.int .i64]]] (.c (.own zG)) (fun k d=>QA k d.1 d.2.1) (fun x=>(x,()))
theorem vC2:zJ prog yD9:=fA (rs:=.c (.own zG)) f153 yBn (fun d=>d.1) qZ9 (loops1 vFc)
def LI:Nat×zH:=zP 220 [.c (.dat false zG),.c (.int .i64)] (.c (.own zG)) (fun k d=>AA k d.1 d.2.1) (fun x=>(x,()))
theorem TK:zJ prog LI:=fA (rs:=.c (.own zG)) f220 ⟨[],[],false⟩ (fun d=>d.1) (zN (l:=[yD9]) zM ⟨vC2,trivial⟩) zK
def qGe:Nat×zH:=zP 238 [.agg vI,.ptr vI] (.c (.bool)) (fun k d=>(CU (QF k) d)) (fun x=>(x,()))
theorem vMw:zJ prog qGe:=fA (rs:=.c (.bool)) f238 ⟨[],[],false⟩ (fun d=>d.1) (zN (l:=[]) zM trivial) zK
def ySp:zF:=⟨[(0,.c (.dat false zG)),(1,.c (.lit (.fn 238 [1001000]))),(7,.c (.int .i64)),(8,.c (.int .i64))],[.robox wD],[]⟩
def yRy:zF:=⟨[],[],[]⟩
def yMs:zF:=⟨[(4,.c (.int .i64))],[],[]⟩
def yNd (f:TL)(d:ySp.den):Option (Unit⊕Int):=(kp (f d.1.1.1 d.1.2.2.1.1 d.1.2.2.2.1.1) d.2.1)
def TM:qE:=⟨ySp,[(.exit 0,yRy),(.ret,yMs)],(Unit⊕Int),fun k d=>yNd (AK k k) d,fun b x _ K=>match x with|.inl x=>K (.exit 0) (zS b yRy ((),()))|.inr x=>K .ret (zS b yMs (((x,()),()),()))⟩
def vJe:qB:=⟨prog,fun _=>false,qJ [qGe]⟩
def yIa:zY:=⟨[],[(2,TM)],false⟩
theorem yNf:qI vJe:=zN zM ⟨vMw,trivial⟩
theorem yZu:qD prog 1000 0 19 (zX (qC f98) 0) TM:=lp (A:=yIa) TM (fun d=>match d with|.inl d=>.inl ()|.inr d=>.inr d.1.1.1) yNd AK AL yNf zK
def yId:Nat×zH:=zP 98 [.c (.dat false zG),.fn 238 [vI]] (.c (.int .i64)) (fun k d=>(ko (QG k) d)) (fun x=>(x,()))
theorem vS4:zJ prog yId:=fA (rs:=.c (.int .i64)) f98 yIa (fun d=>d.1) yNf (loops1 yZu)
def yJn:Nat×zH:=zP 132 [.c (.dat false zG),.fn 238 [vI]] (.c (.bool)) (fun k d=>(ko (Jr k) d)) (fun x=>(x,()))
theorem vDt:zJ prog yJn:=fA (rs:=.c (.bool)) f132 ⟨[],[],false⟩ (fun d=>d.1) (zN (l:=[yId]) zM ⟨vS4,trivial⟩) zK
def qJp:Nat×zH:=wC 237 [.agg vI,.ptr true [.map],.ptr false [.p (.dat false zG)]] (.c (.bool)) [[.map]] (fun k d=>(LJ (QI k) d)) (fun x=>(x.1,x.2,()))
theorem vJp:zJ prog qJp:=fX (rs:=.c (.bool)) (os:=[[.map]]) f237 ⟨[],[],false⟩ 3 (fun d=>(d.1,d.2.1)) (zN (l:=[yJn]) zM ⟨vDt,trivial⟩) zK
def yRz:zF:=⟨[(1,.c (.lit (.fn 237 [1001000,1001002]))),(5,.c (.lit (.osl 1001003 none))),(8,.c (.dat false zG)),(9,.c (.int .i64)),(10,.c (.int .i64))],[.box true [.lit (.map 1001001)],.imap,.robox [.dat false zG],.arr true zG],[(5,none,zG,false)]⟩
def qWx:zF:=⟨[(1,.c (.lit (.fn 237 [1001000,1001002]))),(5,.c (.lit (.osl 1001003 none)))],[.box true [.lit (.map 1001001)],.imap,.robox [.dat false zG],.arr true zG],[]⟩
def yWm (f:TN)(d:yRz.den):Option LK:=f d.1.2.2.1.1 d.1.2.2.2.1.1 d.1.2.2.2.2.1.1 d.2.2.1 d.2.2.2.1.1 d.2.2.2.2.1
def TO:qE:=⟨yRz,[(.exit 0,qWx)],LK,fun k d=>yWm (AM k k) d,fun b x _ K=>K (.exit 0) (zS b qWx (((),(),()),((),x.1,(x.2.1,()),x.2.2,())))⟩
def vHg:qB:=⟨prog,fun _=>false,qJ [qJp]⟩
def yDt:zY:=⟨[],[(3,TO)],false⟩
theorem qZu:qI vHg:=zN zM ⟨vJp,trivial⟩
theorem vTg:qD prog 1000 2 23 (zX (qC f153) 0) TO:=lp (A:=yDt) TO (fun d=>(d.2.2.1,d.2.2.2.1.1,d.2.2.2.2.1)) yWm AM AN qZu zK
def qV5:Nat×zH:=wC 153 [.c (.p (.dat false zG)),.fn 237 [(true,[.map]),(false,[.p (.dat false zG)])]] (.c (.own zG)) [[.map]] (fun k d=>QH k d.1 d.2.1 d.2.2.1) (fun x=>(x.1,x.2,()))
theorem vLs:zJ prog qV5:=fX (rs:=.c (.own zG)) (os:=[[.map]]) f153 yDt 2 (fun d=>(d.1,d.2.1)) qZu (loops1 vTg)
def TP:Nat×zH:=zP 198 [.c (.dat false zG),.c (.int .i64)] (.c (.own zG)) (fun k d=>Ft k d.1 d.2.1) (fun x=>(x,()))
theorem yLy:zJ prog TP:=fA (rs:=.c (.own zG)) f198 ⟨[],[],false⟩ (fun d=>d.1) (zN (l:=[LI,qV5]) zM ⟨TK,vLs,trivial⟩) zK
def LL:Nat×zH:=zP 128 [.agg jD,.agg vI] (.c (.bool)) (fun k d=>(oK (zr k) d)) (fun x=>(x,()))
theorem TQ:zJ prog LL:=fA (rs:=.c (.bool)) f128 ⟨[],[],false⟩ (fun d=>d.1) (zN (l:=[]) zM trivial) zK
def qOy:Nat×zH:=zP 239 [.agg vI,.ptr jD] (.c (.bool)) (fun k d=>(oK (Qx k) d)) (fun x=>(x,()))
theorem vNo:zJ prog qOy:=fA (rs:=.c (.bool)) f239 ⟨[],[],false⟩ (fun d=>d.1) (zN (l:=[LL]) zM ⟨TQ,trivial⟩) zK
def qYs:zF:=⟨[(0,.c (.dat false zG)),(1,.c (.lit (.fn 239 [1001000]))),(7,.c (.int .i64)),(8,.c (.int .i64))],[.robox jI],[]⟩
def yPy:zF:=⟨[],[],[]⟩
def yS6:zF:=⟨[(4,.c (.int .i64))],[],[]⟩
def yEl (f:TR)(d:qYs.den):Option (Unit⊕Int):=(vB (f d.1.1.1 d.1.2.2.1.1 d.1.2.2.2.1.1) d.2.1)
def TS:qE:=⟨qYs,[(.exit 0,yPy),(.ret,yS6)],(Unit⊕Int),fun k d=>yEl (Fi k k) d,fun b x _ K=>match x with|.inl x=>K (.exit 0) (zS b yPy ((),()))|.inr x=>K .ret (zS b yS6 (((x,()),()),()))⟩
def vH8:qB:=⟨prog,fun _=>false,qJ [qOy]⟩
def qWs:zY:=⟨[],[(2,TS)],false⟩
theorem yUc:qI vH8:=zN zM ⟨vNo,trivial⟩
theorem yZ9:qD prog 1000 0 19 (zX (qC f98) 0) TS:=lp (A:=qWs) TS (fun d=>match d with|.inl d=>.inl ()|.inr d=>.inr d.1.1.1) yEl Fi Az yUc zK
def yJs:Nat×zH:=zP 98 [.c (.dat false zG),.fn 239 [jD]] (.c (.int .i64)) (fun k d=>(jm (Qy k) d)) (fun x=>(x,()))
theorem vRp:zJ prog yJs:=fA (rs:=.c (.int .i64)) f98 qWs (fun d=>d.1) yUc (loops1 yZ9)
def yQq:Nat×zH:=zP 132 [.c (.dat false zG),.fn 239 [jD]] (.c (.bool)) (fun k d=>(jm (Jn k) d)) (fun x=>(x,()))
theorem vR2:zJ prog yQq:=fA (rs:=.c (.bool)) f132 ⟨[],[],false⟩ (fun d=>d.1) (zN (l:=[yJs]) zM ⟨vRp,trivial⟩) zK
def yFx:zF:=⟨[(4,.c (.lit (.ptr 1001000 0))),(5,.c (.lit (.ptr 1001001 0))),(15,.c (.dat false zG)),(16,.c (.int .i64)),(17,.c (.int .i64))],[.box true [.lit .nsl,.lit .nsl,.lit .nsl],.box true TT,.arr true (.int .i64),.arr true (.int .i64),.mat],[]⟩
def yGw:zF:=⟨[(4,.c (.lit (.ptr 1001000 0))),(5,.c (.lit (.ptr 1001001 0)))],[.box true [.lit .nsl,.lit .nsl,.lit .nsl],.box true TT,.arr true (.int .i64),.arr true (.int .i64),.mat],[]⟩
def yEq (f:TU)(d:yFx.den):Option LM:=f d.1.2.2.1.1 d.1.2.2.2.1.1 d.1.2.2.2.2.1.1 d.2.2.2.1 d.2.2.2.2.1 d.2.2.2.2.2.1
def TV:qE:=⟨yFx,[(.exit 0,yGw)],LM,fun k d=>yEq (Aq k k) d,fun b x _ K=>K (.exit 0) (zS b yGw (((),(),()),((),(),x.1,x.2.1,x.2.2,())))⟩
def vHy:qB:=⟨prog,fun _=>false,qJ [K3,Sp]⟩
def yM2:zY:=⟨[],[(3,TV)],false⟩
theorem yBf:qI vHy:=zN zM ⟨Sm,F3q,trivial⟩
theorem vSd:qD prog 1000 0 84 (zX (qC f259) 0) TV:=lp (A:=yM2) TV (fun d=>(d.2.2.2.1,d.2.2.2.2.1,d.2.2.2.2.2.1)) yEq Aq Ar yBf zK
def qFe:Nat×zH:=zP 259 [.c (.int .i64),.c (.dat false zG)] (.agg [.own (.int .i64),.own (.int .i64),.mat]) (fun k d=>Ji k d.1 d.2.1) (fun x=>(x.1,x.2.1,x.2.2,()))
theorem vPz:zJ prog qFe:=fA (rs:=.agg [.own (.int .i64),.own (.int .i64),.mat]) f259 yM2 (fun d=>(d.1,d.2.1,d.2.2.1)) yBf (loops1 vSd)
def qTx:Nat×zH:=zP 260 [.agg vI,.ptr [.int .i64]] (.c (.bool)) (fun k d=>(ko (Qr k) d)) (fun x=>(x,()))
theorem vR6:zJ prog qTx:=fA (rs:=.c (.bool)) f260 ⟨[],[],false⟩ (fun d=>d.1) (zN (l:=[]) zM trivial) zK
def yBk:zF:=⟨[(0,.c (.dat false zG)),(1,.c (.lit (.fn 260 [1001000]))),(7,.c (.int .i64)),(8,.c (.int .i64))],[.robox [.int .i64]],[]⟩
def qWa:zF:=⟨[],[],[]⟩
def qWn:zF:=⟨[(4,.c (.int .i64))],[],[]⟩
def qZ6 (f:TW)(d:yBk.den):Option (Unit⊕Int):=f d.1.1.1 d.1.2.2.1.1 d.1.2.2.2.1.1 d.2.1.1
def TX:qE:=⟨yBk,[(.exit 0,qWa),(.ret,qWn)],(Unit⊕Int),fun k d=>qZ6 (Fg k k) d,fun b x _ K=>match x with|.inl x=>K (.exit 0) (zS b qWa ((),()))|.inr x=>K .ret (zS b qWn (((x,()),()),()))⟩
def vGa:qB:=⟨prog,fun _=>false,qJ [qTx]⟩
def yCc:zY:=⟨[],[(2,TX)],false⟩
theorem yUb:qI vGa:=zN zM ⟨vR6,trivial⟩
theorem vKl:qD prog 1000 0 19 (zX (qC f98) 0) TX:=lp (A:=yCc) TX (fun d=>match d with|.inl d=>.inl ()|.inr d=>.inr d.1.1.1) qZ6 Fg As yUb zK
def qXy:Nat×zH:=zP 98 [.c (.dat false zG),.fn 260 [[.int .i64]]] (.c (.int .i64)) (fun k d=>Qs k d.1 d.2.1) (fun x=>(x,()))
theorem yZc:zJ prog qXy:=fA (rs:=.c (.int .i64)) f98 yCc (fun d=>d.1) yUb (loops1 vKl)
def qFp:Nat×zH:=zP 132 [.c (.dat false zG),.fn 260 [[.int .i64]]] (.c (.bool)) (fun k d=>Jj k d.1 d.2.1) (fun x=>(x,()))
theorem vMr:zJ prog qFp:=fA (rs:=.c (.bool)) f132 ⟨[],[],false⟩ (fun d=>d.1) (zN (l:=[qXy]) zM ⟨yZc,trivial⟩) zK
def qZv:zF:=⟨[(5,.c (.int .i64)),(12,.c (.dat false (.int .i64))),(13,.c (.int .i64)),(14,.c (.int .i64))],[],[]⟩
def yAz:zF:=⟨[(5,.c (.int .i64))],[],[]⟩
def yLz (f:Int→List Int→Int→Int→Option Int)(d:qZv.den):Option Int:=f d.1.1.1 d.1.2.1.1 d.1.2.2.1.1 d.1.2.2.2.1.1
def TY:qE:=⟨qZv,[(.exit 0,yAz)],Int,fun k d=>yLz (Al k k) d,fun b x _ K=>K (.exit 0) (zS b yAz (((x,()),()),()))⟩
def vC0:qB:=⟨prog,fun _=>false,qJ []⟩
def yMr:zY:=⟨[],[(3,TY)],false⟩
theorem qV3:qI vC0:=zN zM trivial
theorem vNx:qD prog 1000 0 23 (zX (qC f265) 0) TY:=lp (A:=yMr) TY (fun d=>d.1.1.1) yLz Al Am qV3 zK
def qSh:Nat×zH:=zP 265 [.agg jD,.c (.int .i64)] (.c (.int .i64)) (fun k d=>(jm (Jg k) d)) (fun x=>(x,()))
theorem vC3:zJ prog qSh:=fA (rs:=.c (.int .i64)) f265 yMr (fun d=>d.1) qV3 (loops1 vNx)
def TZ:Nat×zH:=zP 266 [.c (.int .i64),.c (.int .i64)] (.c (.bool)) (fun k d=>Au k d.1 d.2.1) (fun x=>(x,()))
theorem yO2:zJ prog TZ:=fA (rs:=.c (.bool)) f266 ⟨[],[],false⟩ (fun d=>d.1) (zN (l:=[]) zM trivial) zK
def qF3:Nat×zH:=zP 267 [.agg vI,.ptr [.int .i64],.ptr lO,.ptr LN,.ptr [.int .i64],.ptr jD] (.c (.bool)) (fun k d=>(vC9 (Qt k) d)) (fun x=>(x,()))
theorem vA4:zJ prog qF3:=fA (rs:=.c (.bool)) f267 ⟨[],[],false⟩ (fun d=>d.1) (zN (l:=[Lw,TZ]) zM ⟨Tu,yO2,trivial⟩) zK
def yLt:zF:=⟨[(0,.c (.dat false zG)),(1,.c (.lit (.fn 267 [1001000,1001001,1001002,1001003,1001004]))),(7,.c (.int .i64)),(8,.c (.int .i64))],[.robox [.int .i64],.robox [.int .i64,.int .i64,.int .i64],.robox T0,.robox [.int .i64],.robox jI],[]⟩
def yGk:zF:=⟨[],[],[]⟩
def yGj:zF:=⟨[(4,.c (.int .i64))],[],[]⟩
def yKn (f:T1)(d:yLt.den):Option (Unit⊕Int):=(vB (f d.1.1.1 d.1.2.2.1.1 d.1.2.2.2.1.1 d.2.1.1 d.2.2.1.1 d.2.2.1.2.1 d.2.2.1.2.2.1 d.2.2.2.1.1 d.2.2.2.1.2.1 d.2.2.2.1.2.2.1 d.2.2.2.2.1.1) d.2.2.2.2.2.1)
def T2:qE:=⟨yLt,[(.exit 0,yGk),(.ret,yGj)],(Unit⊕Int),fun k d=>yKn (Fh k k) d,fun b x _ K=>match x with|.inl x=>K (.exit 0) (zS b yGk ((),()))|.inr x=>K .ret (zS b yGj (((x,()),()),()))⟩
def vNs:qB:=⟨prog,fun _=>false,qJ [qF3]⟩
def yKg:zY:=⟨[],[(2,T2)],false⟩
theorem yM0:qI vNs:=zN zM ⟨vA4,trivial⟩
theorem vOe:qD prog 1000 0 19 (zX (qC f98) 0) T2:=lp (A:=yKg) T2 (fun d=>match d with|.inl d=>.inl ()|.inr d=>.inr d.1.1.1) yKn Fh Av yM0 zK
def yS9:Nat×zH:=zP 98 [.c (.dat false zG),.fn 267 [[.int .i64],lO,LN,[.int .i64],jD]] (.c (.int .i64)) (fun k d=>(T3 (Qu k) d)) (fun x=>(x,()))
theorem vFo:zJ prog yS9:=fA (rs:=.c (.int .i64)) f98 yKg (fun d=>d.1) yM0 (loops1 vOe)
def qKk:Nat×zH:=zP 132 [.c (.dat false zG),.fn 267 [[.int .i64],lO,LN,[.int .i64],jD]] (.c (.bool)) (fun k d=>(T3 (Jk k) d)) (fun x=>(x,()))
theorem vFu:zJ prog qKk:=fA (rs:=.c (.bool)) f132 ⟨[],[],false⟩ (fun d=>d.1) (zN (l:=[yS9]) zM ⟨vFo,trivial⟩) zK
def yR4:zF:=⟨[(3,.c (.dat false zG)),(4,.c (.lit (.ptr 1001000 0))),(5,.c (.lit (.ptr 1001001 0))),(6,.c (.lit (.ptr 1001002 0))),(9,.c (.lit (.ptr 1001003 0))),(10,.c (.lit (.ptr 1001004 0))),(11,.c (.int .i64)),(39,.c (.dat false (.int .i64))),(40,.c (.int .i64)),(41,.c (.int .i64))],[.box true T0,.box true jI,.box true [.int .i64],.box true [.int .i64,.int .i64,.int .i64],.box true [.int .i64]],[]⟩
def yO0:zF:=⟨[(3,.c (.dat false zG)),(4,.c (.lit (.ptr 1001000 0))),(5,.c (.lit (.ptr 1001001 0))),(6,.c (.lit (.ptr 1001002 0))),(9,.c (.lit (.ptr 1001003 0))),(10,.c (.lit (.ptr 1001004 0))),(11,.c (.int .i64))],[.box true T0,.box true jI,.box true [.int .i64],.box true [.int .i64,.int .i64,.int .i64],.box true [.int .i64]],[]⟩
def yU1 (f:T4)(d:yR4.den):Option LO:=(vB (f d.1.1.1 d.1.2.2.2.2.2.2.1.1 d.1.2.2.2.2.2.2.2.1.1 d.1.2.2.2.2.2.2.2.2.1.1 d.1.2.2.2.2.2.2.2.2.2.1.1 d.2.1.1 d.2.1.2.1 d.2.1.2.2.1) d.2.2.1) d.2.2.2.1.1 d.2.2.2.2.1.1 d.2.2.2.2.1.2.1 d.2.2.2.2.1.2.2.1 d.2.2.2.2.2.1.1
def T5:qE:=⟨yR4,[(.exit 0,yO0)],LO,fun k d=>yU1 (vj k k) d,fun b x _ K=>K (.exit 0) (zS b yO0 (((x.1,()),(),(),(),(),(),(x.2.1,()),()),((x.2.2.1,x.2.2.2.1,x.2.2.2.2.1,()),(vQs x ()),(x.2.2.2.2.2.2.2.2.2.1,()),(x.2.2.2.2.2.2.2.2.2.2.1,x.2.2.2.2.2.2.2.2.2.2.2.1,x.2.2.2.2.2.2.2.2.2.2.2.2.1,()),(x.2.2.2.2.2.2.2.2.2.2.2.2.2,()),())))⟩
def vBq:qB:=⟨prog,fun _=>false,qJ [qSh,TZ,qKk]⟩
def yN7:zY:=⟨[],[(7,T5)],false⟩
theorem qXg:qI vBq:=zN zM ⟨vC3,yO2,vFu,trivial⟩
theorem yZe:qD prog 1000 0 59 (zX (qC f261) 0) T5:=lp (A:=yN7) T5 (fun d=>(d.1.1.1,d.1.2.2.2.2.2.2.1.1,d.2.1.1,d.2.1.2.1,d.2.1.2.2.1,(vO d.2.2.1 (d.2.2.2.1.1,d.2.2.2.2.1.1,d.2.2.2.2.1.2.1,d.2.2.2.2.1.2.2.1,d.2.2.2.2.2.1.1)))) yU1 vj Aw qXg zK
def qJ2:Nat×zH:=zP 261 [.agg LN,.agg jD,.c (.int .i64),.c (.dat false zG)] (.c (.bool)) (fun k d=>(LJ (Jm k) d)) (fun x=>(x,()))
theorem vPp:zJ prog qJ2:=fA (rs:=.c (.bool)) f261 yN7 (fun d=>d.1) qXg (loops1 yZe)
def yDw:zF:=⟨[(1,.c (.dat false zG)),(2,.c (.lit (.ptr 1001000 0))),(5,.c (.lit (.ptr 1001001 0))),(6,.c (.lit (.osl 1001005 none))),(16,.c (.int .i64)),(17,.c (.int .i64))],[.box true jI,.box true TT,.arr true (.int .i64),.arr true (.int .i64),.mat,.arr true (.int .i64)],[(6,none,(.int .i64),false)]⟩
def yIx:zF:=⟨[(6,.c (.lit (.osl 1001000 none)))],[.arr true (.int .i64)],[]⟩
def yOz (f:T6)(d:yDw.den):Option (List Int):=(vB (f d.1.1.1 d.1.2.2.2.2.1.1 d.1.2.2.2.2.2.1.1) d.2.1) d.2.2.2.1 d.2.2.2.2.1 d.2.2.2.2.2.1 d.2.2.2.2.2.2.1
def T7:qE:=⟨yDw,[(.exit 0,yIx)],(List Int),fun k d=>yOz (Ax k k) d,fun b x _ K=>K (.exit 0) (zS b yIx (((),()),(x,())))⟩
def vI6:qB:=⟨prog,fun _=>false,qJ [qFe,qFp,qJ2]⟩
def yOm:zY:=⟨[],[(4,T7)],false⟩
theorem yB2:qI vI6:=zN zM ⟨vPz,vMr,vPp,trivial⟩
theorem vKf:qD prog 1000 0 37 (zX (qC f240) 0) T7:=lp (A:=yOm) T7 (fun d=>d.2.1) yOz Ax Ay yB2 zK
def T8:Nat×zH:=zP 240 [.agg jD,.c (.dat false zG)] (.c (.own (.int .i64))) (fun k d=>(jm (vk k) d)) (fun x=>(x,()))
theorem qYw:zJ prog T8:=fA (rs:=.c (.own (.int .i64))) f240 yOm (fun d=>d.1) yB2 (loops1 vKf)
def T9:Nat×zH:=zP 199 [.agg jD,.c (.dat false zG)] (.c (.bool)) (fun k d=>(jm (vl k) d)) (fun x=>(x,()))
theorem qX5:zJ prog T9:=fA (rs:=.c (.bool)) f199 ⟨[],[],false⟩ (fun d=>d.1) (zN (l:=[yQq,T8]) zM ⟨vR2,qYw,trivial⟩) zK
def qM4:Nat×zH:=zP 241 [.agg vI,.ptr jD] (.c (.bool)) (fun k d=>(oK (Qk k) d)) (fun x=>(x,()))
theorem vJq:zJ prog qM4:=fA (rs:=.c (.bool)) f241 ⟨[],[],false⟩ (fun d=>d.1) (zN (l:=[LL]) zM ⟨TQ,trivial⟩) zK
def yDf:zF:=⟨[(0,.c (.dat false zG)),(1,.c (.lit (.fn 241 [1001000]))),(7,.c (.int .i64)),(8,.c (.int .i64))],[.robox jI],[]⟩
def yCs:zF:=⟨[],[],[]⟩
def yPl:zF:=⟨[(4,.c (.int .i64))],[],[]⟩
def yDs (f:Ua)(d:yDf.den):Option (Unit⊕Int):=(vB (f d.1.1.1 d.1.2.2.1.1 d.1.2.2.2.1.1) d.2.1)
def Ub:qE:=⟨yDf,[(.exit 0,yCs),(.ret,yPl)],(Unit⊕Int),fun k d=>yDs (EV k k) d,fun b x _ K=>match x with|.inl x=>K (.exit 0) (zS b yCs ((),()))|.inr x=>K .ret (zS b yPl (((x,()),()),()))⟩
def vO3:qB:=⟨prog,fun _=>false,qJ [qM4]⟩
def qXr:zY:=⟨[],[(2,Ub)],false⟩
theorem yDr:qI vO3:=zN zM ⟨vJq,trivial⟩
theorem vD1:qD prog 1000 0 19 (zX (qC f98) 0) Ub:=lp (A:=qXr) Ub (fun d=>match d with|.inl d=>.inl ()|.inr d=>.inr d.1.1.1) yDs EV zu yDr zK
def qWe:Nat×zH:=zP 98 [.c (.dat false zG),.fn 241 [jD]] (.c (.int .i64)) (fun k d=>(jm (Ql k) d)) (fun x=>(x,()))
theorem vJ0:zJ prog qWe:=fA (rs:=.c (.int .i64)) f98 qXr (fun d=>d.1) yDr (loops1 vD1)
def qK3:Nat×zH:=zP 132 [.c (.dat false zG),.fn 241 [jD]] (.c (.bool)) (fun k d=>(jm (I1 k) d)) (fun x=>(x,()))
theorem vR1:zJ prog qK3:=fA (rs:=.c (.bool)) f132 ⟨[],[],false⟩ (fun d=>d.1) (zN (l:=[qWe]) zM ⟨vJ0,trivial⟩) zK
def qTq:Nat×zH:=zP 115 [.agg lO] (.c (.bool)) (fun k d=>P7 k d.1 d.2.1 d.2.2.1) (fun x=>(x,()))
theorem vCm:zJ prog qTq:=fA (rs:=.c (.bool)) f115 ⟨[],[],false⟩ (fun d=>d.1) (zN (l:=[Tq]) zM ⟨yP2,trivial⟩) zK
def qYm:zF:=⟨[(0,.c (.dat false yH)),(1,.c (.lit (.fn 115 []))),(7,.c (.int .i64)),(8,.c (.int .i64))],[],[]⟩
def yJ8:zF:=⟨[],[],[]⟩
def yCb:zF:=⟨[(4,.c (.int .i64))],[],[]⟩
def qX2 (f:Uc)(d:qYm.den):Option (Unit⊕Int):=f d.1.1.1 d.1.2.2.1.1 d.1.2.2.2.1.1
def Ud:qE:=⟨qYm,[(.exit 0,yJ8),(.ret,yCb)],(Unit⊕Int),fun k d=>qX2 (EC k k) d,fun b x _ K=>match x with|.inl x=>K (.exit 0) (zS b yJ8 ((),()))|.inr x=>K .ret (zS b yCb (((x,()),()),()))⟩
def vSn:qB:=⟨prog,fun _=>false,qJ [qTq]⟩
def yOs:zY:=⟨[],[(2,Ud)],false⟩
theorem qZb:qI vSn:=zN zM ⟨vCm,trivial⟩
theorem vNu:qD prog 1000 0 19 (zX (qC f188) 0) Ud:=lp (A:=yOs) Ud (fun d=>match d with|.inl d=>.inl ()|.inr d=>.inr d.1.1.1) qX2 EC zd qZb zK
def yV3:Nat×zH:=zP 188 [.c (.dat false yH),.c (.fn 115)] (.c (.int .i64)) (fun k d=>P8 k d.1) (fun x=>(x,()))
theorem vL1:zJ prog yV3:=fA (rs:=.c (.int .i64)) f188 yOs (fun d=>d.1) qZb (loops1 vNu)
def qZj:Nat×zH:=zP 117 [.c (.dat false yH),.c (.fn 115)] (.c (.bool)) (fun k d=>IP k d.1) (fun x=>(x,()))
theorem yXz:zJ prog qZj:=fA (rs:=.c (.bool)) f117 ⟨[],[],false⟩ (fun d=>d.1) (zN (l:=[yV3]) zM ⟨vL1,trivial⟩) zK
def yAi:Nat×zH:=zP 119 [.c (.int .i64)] (.c (.bool)) (fun k d=>P5 k d.1) (fun x=>(x,()))
theorem yZ7:zJ prog yAi:=fA (rs:=.c (.bool)) f119 ⟨[],[],false⟩ (fun d=>d.1) (zN (l:=[]) zM trivial) zK
def qGa:Nat×zH:=zP 189 [.c (.int .i64),.ptr [.fn 119]] (.c (.bool)) (fun k d=>P9 k d.1) (fun x=>(x,()))
theorem vEt:zJ prog qGa:=fA (rs:=.c (.bool)) f189 ⟨[],[],false⟩ (fun d=>d.1) (zN (l:=[yAi]) zM ⟨yZ7,trivial⟩) zK
def yUk:zF:=⟨[(0,.c (.dat false (.int .i64))),(1,.c (.lit (.fn 189 [1001000]))),(7,.c (.int .i64)),(8,.c (.int .i64))],[.robox [.lit (.fn 119 [])]],[]⟩
def yG7:zF:=⟨[],[],[]⟩
def qVr:zF:=⟨[(4,.c (.int .i64))],[],[]⟩
def yVy (f:Ue)(d:yUk.den):Option (Unit⊕Int):=f d.1.1.1 d.1.2.2.1.1 d.1.2.2.2.1.1
def Uf:qE:=⟨yUk,[(.exit 0,yG7),(.ret,qVr)],(Unit⊕Int),fun k d=>yVy (ED k k) d,fun b x _ K=>match x with|.inl x=>K (.exit 0) (zS b yG7 ((),()))|.inr x=>K .ret (zS b qVr (((x,()),()),()))⟩
def vMo:qB:=⟨prog,fun _=>false,qJ [qGa]⟩
def yDd:zY:=⟨[],[(2,Uf)],false⟩
theorem qW2:qI vMo:=zN zM ⟨vEt,trivial⟩
theorem vFq:qD prog 1000 0 19 (zX (qC f190) 0) Uf:=lp (A:=yDd) Uf (fun d=>match d with|.inl d=>.inl ()|.inr d=>.inr d.1.1.1) yVy ED ze qW2 zK
def yRb:Nat×zH:=zP 190 [.c (.dat false (.int .i64)),.fn 189 [[.fn 119]]] (.c (.int .i64)) (fun k d=>Qa k d.1) (fun x=>(x,()))
theorem yZ3:zJ prog yRb:=fA (rs:=.c (.int .i64)) f190 yDd (fun d=>d.1) qW2 (loops1 vFq)
def qXu:Nat×zH:=zP 123 [.c (.dat false (.int .i64)),.fn 189 [[.fn 119]]] (.c (.bool)) (fun k d=>IQ k d.1) (fun x=>(x,()))
theorem vMf:zJ prog qXu:=fA (rs:=.c (.bool)) f123 ⟨[],[],false⟩ (fun d=>d.1) (zN (l:=[yRb]) zM ⟨yZ3,trivial⟩) zK
def Ug:Nat×zH:=zP 120 [.c (.dat false (.int .i64)),.c (.int .i64),.c (.fn 119)] (.c (.bool)) (fun k d=>EF k d.1 d.2.1) (fun x=>(x,()))
theorem yTp:zJ prog Ug:=fA (rs:=.c (.bool)) f120 ⟨[],[],false⟩ (fun d=>d.1) (zN (l:=[qXu]) zM ⟨vMf,trivial⟩) zK
def qXz:zF:=⟨[(1,.c (.int .i64)),(2,.c (.lit (.fn 119 []))),(13,.c (.dat false (.sl (.int .i64)))),(14,.c (.int .i64)),(15,.c (.int .i64))],[],[]⟩
def yUe:zF:=⟨[],[],[]⟩
def yEd:zF:=⟨[(6,.c (.bool))],[],[]⟩
def yL2 (f:Uh)(d:qXz.den):Option (Unit⊕Bool):=f d.1.1.1 d.1.2.2.1.1 d.1.2.2.2.1.1 d.1.2.2.2.2.1.1
def Ui:qE:=⟨qXz,[(.exit 0,yUe),(.ret,yEd)],(Unit⊕Bool),fun k d=>yL2 (EG k k) d,fun b x _ K=>match x with|.inl x=>K (.exit 0) (zS b yUe ((),()))|.inr x=>K .ret (zS b yEd (((x,()),()),()))⟩
def vQ9:qB:=⟨prog,fun _=>false,qJ [Ug]⟩
def yOh:zY:=⟨[],[(4,Ui)],false⟩
theorem yH4:qI vQ9:=zN zM ⟨yTp,trivial⟩
theorem vPx:qD prog 1000 0 25 (zX (qC f118) 0) Ui:=lp (A:=yOh) Ui (fun d=>match d with|.inl d=>.inl ()|.inr d=>.inr d.1.1.1) yL2 EG zh yH4 zK
def yDp:Nat×zH:=zP 118 [.c (.dat false (.sl (.int .i64))),.c (.int .i64),.c (.fn 119)] (.c (.bool)) (fun k d=>IU k d.1 d.2.1) (fun x=>(x,()))
theorem vLv:zJ prog yDp:=fA (rs:=.c (.bool)) f118 yOh (fun d=>d.1) yH4 (loops1 vPx)
def yQk:Nat×zH:=zP 121 [.c (.int .i64)] (.c (.bool)) (fun k d=>IM k d.1) (fun x=>(x,()))
theorem vH6:zJ prog yQk:=fA (rs:=.c (.bool)) f121 ⟨[],[],false⟩ (fun d=>d.1) (zN (l:=[]) zM trivial) zK
def qJ3:Nat×zH:=zP 189 [.c (.int .i64),.ptr [.fn 121]] (.c (.bool)) (fun k d=>Qb k d.1) (fun x=>(x,()))
theorem vKr:zJ prog qJ3:=fA (rs:=.c (.bool)) f189 ⟨[],[],false⟩ (fun d=>d.1) (zN (l:=[yQk]) zM ⟨vH6,trivial⟩) zK
def yHs:zF:=⟨[(0,.c (.dat false (.int .i64))),(1,.c (.lit (.fn 189 [1001000]))),(7,.c (.int .i64)),(8,.c (.int .i64))],[.robox [.lit (.fn 121 [])]],[]⟩
def yUv:zF:=⟨[],[],[]⟩
def yMp:zF:=⟨[(4,.c (.int .i64))],[],[]⟩
def yIr (f:Uj)(d:yHs.den):Option (Unit⊕Int):=f d.1.1.1 d.1.2.2.1.1 d.1.2.2.2.1.1
def Uk:qE:=⟨yHs,[(.exit 0,yUv),(.ret,yMp)],(Unit⊕Int),fun k d=>yIr (EE k k) d,fun b x _ K=>match x with|.inl x=>K (.exit 0) (zS b yUv ((),()))|.inr x=>K .ret (zS b yMp (((x,()),()),()))⟩
def vOy:qB:=⟨prog,fun _=>false,qJ [qJ3]⟩
def yUa:zY:=⟨[],[(2,Uk)],false⟩
theorem ySx:qI vOy:=zN zM ⟨vKr,trivial⟩
theorem vCb:qD prog 1000 0 19 (zX (qC f190) 0) Uk:=lp (A:=yUa) Uk (fun d=>match d with|.inl d=>.inl ()|.inr d=>.inr d.1.1.1) yIr EE zg ySx zK
def yLu:Nat×zH:=zP 190 [.c (.dat false (.int .i64)),.fn 189 [[.fn 121]]] (.c (.int .i64)) (fun k d=>Qc k d.1) (fun x=>(x,()))
theorem vGw:zJ prog yLu:=fA (rs:=.c (.int .i64)) f190 yUa (fun d=>d.1) ySx (loops1 vCb)
def yAl:Nat×zH:=zP 123 [.c (.dat false (.int .i64)),.fn 189 [[.fn 121]]] (.c (.bool)) (fun k d=>IS k d.1) (fun x=>(x,()))
theorem yX3:zJ prog yAl:=fA (rs:=.c (.bool)) f123 ⟨[],[],false⟩ (fun d=>d.1) (zN (l:=[yLu]) zM ⟨vGw,trivial⟩) zK
def qTu:Nat×zH:=zP 120 [.c (.dat false (.int .i64)),.c (.int .i64),.c (.fn 121)] (.c (.bool)) (fun k d=>IT k d.1 d.2.1) (fun x=>(x,()))
theorem vQn:zJ prog qTu:=fA (rs:=.c (.bool)) f120 ⟨[],[],false⟩ (fun d=>d.1) (zN (l:=[yAl]) zM ⟨yX3,trivial⟩) zK
def yKi:zF:=⟨[(1,.c (.int .i64)),(2,.c (.lit (.fn 121 []))),(13,.c (.dat false (.sl (.int .i64)))),(14,.c (.int .i64)),(15,.c (.int .i64))],[],[]⟩
def yVf:zF:=⟨[],[],[]⟩
def yAd:zF:=⟨[(6,.c (.bool))],[],[]⟩
def yFz (f:Ul)(d:yKi.den):Option (Unit⊕Bool):=f d.1.1.1 d.1.2.2.1.1 d.1.2.2.2.1.1 d.1.2.2.2.2.1.1
def Um:qE:=⟨yKi,[(.exit 0,yVf),(.ret,yAd)],(Unit⊕Bool),fun k d=>yFz (EH k k) d,fun b x _ K=>match x with|.inl x=>K (.exit 0) (zS b yVf ((),()))|.inr x=>K .ret (zS b yAd (((x,()),()),()))⟩
def yXk:qB:=⟨prog,fun _=>false,qJ [qTu]⟩
def qX3:zY:=⟨[],[(4,Um)],false⟩
theorem ySy:qI yXk:=zN zM ⟨vQn,trivial⟩
theorem vK9:qD prog 1000 0 25 (zX (qC f118) 0) Um:=lp (A:=qX3) Um (fun d=>match d with|.inl d=>.inl ()|.inr d=>.inr d.1.1.1) yFz EH zi ySy zK
def yI5:Nat×zH:=zP 118 [.c (.dat false (.sl (.int .i64))),.c (.int .i64),.c (.fn 121)] (.c (.bool)) (fun k d=>IV k d.1 d.2.1) (fun x=>(x,()))
theorem vPk:zJ prog yI5:=fA (rs:=.c (.bool)) f118 qX3 (fun d=>d.1) ySy (loops1 vK9)
def yMi:zF:=⟨[(0,.c (.dat false (.sl (.int .i64)))),(3,.c (.int .i64)),(7,.c (.dat false (.sl (.int .i64)))),(8,.c (.int .i64)),(9,.c (.int .i64)),(14,.c (.dat false (.int .i64))),(15,.c (.int .i64)),(16,.c (.int .i64))],[],[]⟩
def yRe:zF:=⟨[(0,.c (.dat false (.sl (.int .i64)))),(7,.c (.dat false (.sl (.int .i64)))),(8,.c (.int .i64)),(9,.c (.int .i64))],[],[]⟩
def yTx:zF:=⟨[(2,.c (.bool))],[],[]⟩
def yHw (f:Un)(d:yMi.den):Option LP:=f d.1.1.1 d.1.2.1.1 d.1.2.2.1.1 d.1.2.2.2.1.1 d.1.2.2.2.2.1.1 d.1.2.2.2.2.2.1.1 d.1.2.2.2.2.2.2.1.1 d.1.2.2.2.2.2.2.2.1.1
def Uo:qE:=⟨yMi,[(.exit 2,yRe),(.ret,yTx)],LP,fun k d=>yHw (zj k k) d,fun b x _ K=>match x with|.inl x=>K (.exit 2) (zS b yRe (((x.1,()),(x.2.1,()),(x.2.2.1,()),(x.2.2.2,()),()),()))|.inr x=>K .ret (zS b yTx (((x,()),()),()))⟩
def yEx:zF:=⟨[(0,.c (.dat false (.sl (.int .i64)))),(7,.c (.dat false (.sl (.int .i64)))),(8,.c (.int .i64)),(9,.c (.int .i64))],[],[]⟩
def qXa:zF:=⟨[],[],[]⟩
def yWr:zF:=⟨[(2,.c (.bool))],[],[]⟩
def yGi (f:Uq)(d:yEx.den):Option (Unit⊕Bool):=f d.1.1.1 d.1.2.1.1 d.1.2.2.1.1 d.1.2.2.2.1.1
def Ur:qE:=⟨yEx,[(.exit 0,qXa),(.ret,yWr)],(Unit⊕Bool),fun k d=>yGi (EI k k) d,fun b x _ K=>match x with|.inl x=>K (.exit 0) (zS b qXa ((),()))|.inr x=>K .ret (zS b yWr (((x,()),()),()))⟩
def vGp:qB:=⟨prog,fun _=>false,qJ []⟩
def Us:zY:=⟨[],[(5,Uo),(2,Ur)],false⟩
theorem Ut:qI vGp:=zN zM trivial
theorem vA1:qD prog 1000 0 33 (zX (zX (qC f122) 0) 0) Uo:=lp (A:=Us) Uo (fun d=>match d with|.inl d=>.inl (d.1.1.1,d.1.2.1.1,d.1.2.2.1.1,d.1.2.2.2.1.1)|.inr d=>.inr d.1.1.1) yHw zj zk Ut zK
theorem vQ2:qD prog 1000 0 33 (zX (qC f122) 0) Ur:=lp (A:=Us) Ur (fun d=>match d with|.inl d=>.inl ()|.inr d=>.inr d.1.1.1) yGi EI zl Ut (loops1 vA1)
def yVg:Nat×zH:=zP 122 [.c (.dat false (.sl (.int .i64)))] (.c (.bool)) (fun k d=>IW k d.1) (fun x=>(x,()))
theorem yY9:zJ prog yVg:=fA (rs:=.c (.bool)) f122 Us (fun d=>d.1) Ut (loops1 vQ2)
def Sb:Nat×zH:=zP 65 [.agg jD] (.c (.bool)) (fun k d=>(vB (uZ k) d)) (fun x=>(x,()))
theorem yRm:zJ prog Sb:=fA (rs:=.c (.bool)) f65 ⟨[],[],false⟩ (fun d=>d.1) (zN (l:=[qZj,yDp,Ug,yI5,yVg]) zM ⟨yXz,vLv,yTp,vPk,yY9,trivial⟩) zK
def qVp:zF:=⟨[(2,.c (.lit (.ptr 1001000 0))),(4,.c (.lit (.ptr 1001001 0))),(7,.c (.lit (.ptr 1001002 0))),(24,.c (.dat false zG)),(25,.c (.int .i64)),(26,.c (.int .i64))],[.box true vZ,.box true lP,.box true oN,.arr true yH,.mat,.arr true (.int .i64),.mat],[]⟩
def yF8:zF:=⟨[(2,.c (.lit (.ptr 1001000 0))),(4,.c (.lit (.ptr 1001001 0))),(7,.c (.lit (.ptr 1001002 0)))],[.box true vZ,.box true lP,.box true oN,.arr true yH,.mat,.arr true (.int .i64),.mat],[]⟩
def yKp (f:Uu)(d:qVp.den):Option LQ:=(vB (f d.1.2.2.2.1.1 d.1.2.2.2.2.1.1 d.1.2.2.2.2.2.1.1) d.2.1) d.2.2.2.2.1 d.2.2.2.2.2.1 d.2.2.2.2.2.2.1 d.2.2.2.2.2.2.2.1
def Uv:qE:=⟨qVp,[(.exit 0,yF8)],LQ,fun k d=>yKp (zx k k) d,fun b x _ K=>K (.exit 0) (zS b yF8 (((),(),(),()),((vO x ()),(),(),x.2.2.2.2.1,x.2.2.2.2.2.1,x.2.2.2.2.2.2.1,x.2.2.2.2.2.2.2,())))⟩
def vDj:qB:=⟨prog,fun _=>false,qJ [qK3,oM,Lw,Sb]⟩
def yW2:zY:=⟨[],[(6,Uv)],false⟩
theorem qZt:qI vDj:=zN zM ⟨vR1,qu,Tu,yRm,trivial⟩
theorem vDr:qD prog 1000 0 104 (zX (qC f200) 0) Uv:=lp (A:=yW2) Uv (fun d=>(vO d.2.1 (d.2.2.2.2.1,d.2.2.2.2.2.1,d.2.2.2.2.2.2.1,d.2.2.2.2.2.2.2.1))) yKp zx zy qZt zK
def LR:Nat×zH:=zP 200 [.agg iS,.c (.dat false zG)] (.tup [(true,wU),(false,qX)]) (fun k d=>(jm (nq k) d)) (fun x=>(gj x ()))
theorem Uw:zJ prog LR:=fA (rs:=.tup [(true,wU),(false,qX)]) f200 yW2 (fun d=>(vC d)) qZt (loops1 vDr)
def yFv:zF:=⟨[(3,.c (.lit (.ptr 1001000 0))),(6,.c (.lit (.ptr 1001001 0))),(7,.c (.lit (.ptr 1001002 0))),(15,.c (.lit (.osl 1001003 none))),(16,.c (.int .i64)),(17,.c (.int .i64))],[.box true vZ,.box true wD,.box true lP,.arr true zG],[]⟩
def yWs:zF:=⟨[(3,.c (.lit (.ptr 1001000 0))),(6,.c (.lit (.ptr 1001001 0))),(7,.c (.lit (.ptr 1001002 0)))],[.box true vZ,.box true wD,.box true lP],[]⟩
def yHe:zF:=⟨[(6,.c (.lit (.ptr 1001000 0))),(7,.c (.lit (.ptr 1001001 0))),(8,.c (.bool))],[.box true wD,.box true vZ],[]⟩
def yPz (f:Ux)(d:yFv.den):Option LS:=(kp (vB (f d.1.2.2.2.2.1.1 d.1.2.2.2.2.2.1.1) d.2.1) d.2.2.1) d.2.2.2.2.1
def Uy:qE:=⟨yFv,[(.exit 0,yWs),(.ret,yHe)],LS,fun k d=>yPz (FE k k) d,fun b x _ K=>match x with|.inl x=>K (.exit 0) (zS b yWs (((),(),(),()),((vO x ()),(vD9 x ()),(),())))|.inr x=>K .ret (zS b yHe (((),(),(x.1,()),()),((Uz x ()),(vA5 x ()),())))⟩
def vQo:qB:=⟨prog,fun _=>false,qJ [TP,T9,LR]⟩
def qXj:zY:=⟨[],[(2,Uy)],false⟩
theorem yVq:qI vQo:=zN zM ⟨yLy,qX5,Uw,trivial⟩
theorem vG0:qD prog 1000 0 40 (zX (qC f143) 0) Uy:=lp (A:=qXj) Uy (fun d=>match d with|.inl d=>.inl (vO d.2.1 (wI d.2.2.1))|.inr d=>.inr (d.1.2.2.1.1,(im d.2.1 (qw d.2.2.1)))) yPz FE Bi yVq zK
def qNw:Nat×zH:=zP 143 [.agg iS,.c (.dat true zG),.c (.int .i64)] (.tup [(true,gl),(true,wU),(false,[.bool])]) (fun k d=>(ir (JJ k) d)) (fun x=>(CY x ()))
theorem vLq:zJ prog qNw:=fA (rs:=.tup [(true,gl),(true,wU),(false,[.bool])]) f143 qXj (fun d=>(CZ d)) yVq (loops1 vG0)
def yPn:zF:=⟨[(2,.c (.int .i64)),(6,.c (.lit (.ptr 1001000 0))),(7,.c (.dat true zG)),(8,.c (.lit (.osl 1001001 none)))],[.box true vZ,.arr true zG],[(8,none,zG,false)]⟩
def yFj:zF:=⟨[(6,.c (.lit (.ptr 1001000 0))),(7,.c (.dat true zG)),(8,.c (.lit (.osl 1001001 none)))],[.box true vZ,.arr true zG],[]⟩
def yFk (f:UA)(d:yPn.den):Option LU:=(vB (f d.1.1.1 d.1.2.2.1.1) d.2.1) d.2.2.1
def UB:qE:=⟨yPn,[(.ret,yFj)],LU,fun k d=>yFk (FF k k) d,fun b x _ K=>K .ret (zS b yFj (((),(x.1,()),(),()),((gm x ()),x.2.2.2.2.2,())))⟩
def vS3:qB:=⟨prog,fun _=>false,qJ [qNw,tC]⟩
def yG8:zY:=⟨[],[(2,UB)],false⟩
theorem qX7:qI vS3:=zN zM ⟨vLq,xj,trivial⟩
theorem vBd:qD prog 1000 0 40 (zX (qC f216) 0) UB:=lp (A:=yG8) UB (fun d=>(d.1.2.1.1,(vO d.2.1 d.2.2.1))) yFk FF Bk qX7 zK
def qT7:Nat×zH:=zP 216 [.agg iS,.c (.dat true zG),.c (.int .i64)] (.tup [(true,wU),(false,vE),(false,[.own zG])]) (fun k d=>(ir (JK k) d)) (fun x=>(lQ x ()))
theorem vN7:zJ prog qT7:=fA (rs:=.tup [(true,wU),(false,vE),(false,[.own zG])]) f216 yG8 (fun d=>(kW d)) qX7 (loops1 vBd)
def yA6:zF:=⟨[(3,.c (.lit (.ptr 1001000 0))),(6,.c (.lit (.ptr 1001001 0))),(8,.c (.lit (.osl 1001002 none))),(10,.c (.lit (.ptr 1001003 0))),(18,.c (.lit (.osl 1001002 none))),(19,.c (.int .i64)),(20,.c (.int .i64)),(24,.c (.lit (.osl 1001002 none))),(25,.c (.int .i64)),(26,.c (.int .i64))],[.box true vZ,.box true LV,.arr true zG,.box true wD],[]⟩
def yKz:zF:=⟨[(3,.c (.lit (.ptr 1001000 0))),(6,.c (.lit (.ptr 1001001 0))),(8,.c (.lit (.osl 1001002 none))),(18,.c (.lit (.osl 1001002 none))),(19,.c (.int .i64)),(20,.c (.int .i64))],[.box true vZ,.box true LV,.arr true zG],[]⟩
def qXx:zF:=⟨[(6,.c (.lit (.ptr 1001000 0))),(7,.c (.bool))],[.box true yPk],[]⟩
def yOy (f:UC)(d:yA6.den):Option LW:=(kp ((CU (vB (f d.1.2.2.2.2.2.1.1 d.1.2.2.2.2.2.2.1.1 d.1.2.2.2.2.2.2.2.2.1.1 d.1.2.2.2.2.2.2.2.2.2.1.1) d.2.1) d.2.2.1) d.2.2.2.1) d.2.2.2.2.1)
def UD:qE:=⟨yA6,[(.exit 2,yKz),(.ret,qXx)],LW,fun k d=>yOy (FG k k) d,fun b x _ K=>match x with|.inl x=>K (.exit 2) (zS b yKz (((),(),(),(),(x.1,()),(x.2.1,()),()),((Lc x ()),(vRv x ()),x.2.2.2.2.2.2.2.2.2.2.2.2.2.2.2.2.2.2.2.2,())))|.inr x=>K .ret (zS b qXx (((),(x.1,()),()),((UE x ()),())))⟩
def yQ3:zF:=⟨[(3,.c (.lit (.ptr 1001000 0))),(6,.c (.lit (.ptr 1001001 0))),(8,.c (.lit (.osl 1001002 none))),(18,.c (.lit (.osl 1001002 none))),(19,.c (.int .i64)),(20,.c (.int .i64))],[.box true vZ,.box true LV,.arr true zG],[]⟩
def yCu:zF:=⟨[(6,.c (.lit (.ptr 1001000 0)))],[.box true LV],[]⟩
def yS8:zF:=⟨[(6,.c (.lit (.ptr 1001000 0))),(7,.c (.bool))],[.box true yPk],[]⟩
def qZ8 (f:UF)(d:yQ3.den):Option LX:=(CU (vB (f d.1.2.2.2.2.1.1 d.1.2.2.2.2.2.1.1) d.2.1) d.2.2.1) d.2.2.2.1
def UG:qE:=⟨yQ3,[(.exit 0,yCu),(.ret,yS8)],LX,fun k d=>qZ8 (FI k k) d,fun b x _ K=>match x with|.inl x=>K (.exit 0) (zS b yCu (((),()),((UH x ()),())))|.inr x=>K .ret (zS b yS8 (((),(x.1,()),()),((UE x ()),())))⟩
def yY3:qB:=⟨prog,fun _=>false,qJ [TP,T9,LR]⟩
def UI:zY:=⟨[],[(6,UD),(3,UG)],false⟩
theorem UJ:qI yY3:=zN zM ⟨yLy,qX5,Uw,trivial⟩
theorem vJi:qD prog 1000 0 74 (zX (zX (qC f248) 0) 0) UD:=lp (A:=UI) UD (fun d=>match d with|.inl d=>.inl (d.1.2.2.2.2.1.1,d.1.2.2.2.2.2.1.1,(vO d.2.1 (UK d.2.2.1 d.2.2.2.1)))|.inr d=>.inr (d.1.2.1.1,(fO d.2.1))) yOy FG Bn UJ zK
theorem vOx:qD prog 1000 0 74 (zX (qC f248) 0) UG:=lp (A:=UI) UG (fun d=>match d with|.inl d=>.inl (yCl d.2.1)|.inr d=>.inr (d.1.2.1.1,(fO d.2.1))) qZ8 FI Bo UJ (loops1 vJi)
def qO3:Nat×zH:=zP 248 [.agg iS,.c (.dat true zG),.c (.int .i64)] (.tup [(true,yP7),(false,[.bool])]) (fun k d=>(ir (JM k) d)) (fun x=>(tG x ()))
theorem vEs:zJ prog qO3:=fA (rs:=.tup [(true,yP7),(false,[.bool])]) f248 UI (fun d=>(LY d)) UJ (loops1 vOx)
def yE3:zF:=⟨[(2,.c (.int .i64)),(6,.c (.lit (.ptr 1001000 0))),(7,.c (.dat true zG)),(8,.c (.lit (.osl 1001001 none))),(33,.c (.lit (.osl 1001002 none))),(34,.c (.int .i64)),(35,.c (.int .i64))],[.box true vZ,.arr true zG,.arr true zG],[(8,none,zG,false)]⟩
def yC0:zF:=⟨[(2,.c (.int .i64)),(6,.c (.lit (.ptr 1001000 0))),(7,.c (.dat true zG)),(8,.c (.lit (.osl 1001001 none)))],[.box true vZ,.arr true zG],[]⟩
def yWh (f:UL)(d:yE3.den):Option LZ:=(vB (f d.1.1.1 d.1.2.2.1.1 d.1.2.2.2.2.2.1.1 d.1.2.2.2.2.2.2.1.1) d.2.1) d.2.2.1 d.2.2.2.1
def UM:qE:=⟨yE3,[(.exit 2,yC0)],LZ,fun k d=>yWh (pW k k) d,fun b x _ K=>K (.exit 2) (zS b yC0 (((x.1,()),(),(x.2.1,()),(),()),((Lc x ()),x.2.2.2.2.2.2,())))⟩
def yOf:zF:=⟨[(2,.c (.int .i64)),(6,.c (.lit (.ptr 1001000 0))),(7,.c (.dat true zG)),(8,.c (.lit (.osl 1001001 none)))],[.box true vZ,.arr true zG],[(8,none,zG,false)]⟩
def yT9:zF:=⟨[(6,.c (.lit (.ptr 1001000 0))),(7,.c (.dat true zG)),(8,.c (.lit (.osl 1001001 none)))],[.box true vZ,.arr true zG],[]⟩
def qXt (f:UN)(d:yOf.den):Option L1:=(vB (f d.1.1.1 d.1.2.2.1.1) d.2.1) d.2.2.1
def UO:qE:=⟨yOf,[(.ret,yT9)],L1,fun k d=>qXt (FJ k k) d,fun b x _ K=>K .ret (zS b yT9 (((),(x.1,()),(),()),((gm x ()),x.2.2.2.2.2,())))⟩
def vA8:qB:=⟨prog,fun _=>false,qJ [qO3,tC]⟩
def UP:zY:=⟨[],[(7,UM),(2,UO)],false⟩
theorem UQ:qI vA8:=zN zM ⟨vEs,xj,trivial⟩
theorem vSt:qD prog 1000 0 52 (zX (zX (qC f217) 0) 0) UM:=lp (A:=UP) UM (fun d=>(d.1.1.1,d.1.2.2.1.1,(vO d.2.1 d.2.2.1))) yWh pW sN UQ zK
theorem vJy:qD prog 1000 0 52 (zX (qC f217) 0) UO:=lp (A:=UP) UO (fun d=>(d.1.2.1.1,(vO d.2.1 d.2.2.1))) qXt FJ Bp UQ (loops1 vSt)
def qKi:Nat×zH:=zP 217 [.agg iS,.c (.dat true zG),.c (.int .i64)] (.tup [(true,wU),(false,vE),(false,[.own zG])]) (fun k d=>(ir (JN k) d)) (fun x=>(lQ x ()))
theorem vIn:zJ prog qKi:=fA (rs:=.tup [(true,wU),(false,vE),(false,[.own zG])]) f217 UP (fun d=>(kW d)) UQ (loops1 vJy)
def yXi:zF:=⟨[(2,.c (.int .i64)),(6,.c (.lit (.ptr 1001000 0))),(7,.c (.dat true zG)),(8,.c (.lit (.osl 1001001 none)))],[.box true vZ,.arr true zG],[(8,none,zG,false)]⟩
def yKt:zF:=⟨[(6,.c (.lit (.ptr 1001000 0))),(7,.c (.dat true zG)),(8,.c (.lit (.osl 1001001 none)))],[.box true vZ,.arr true zG],[]⟩
def yLe (f:UR)(d:yXi.den):Option L3:=(vB (f d.1.1.1 d.1.2.2.1.1) d.2.1) d.2.2.1
def US:qE:=⟨yXi,[(.ret,yKt)],L3,fun k d=>yLe (FO k k) d,fun b x _ K=>K .ret (zS b yKt (((),(x.1,()),(),()),((gm x ()),x.2.2.2.2.2,())))⟩
def vP8:qB:=⟨prog,fun _=>false,qJ [qT7,qKi]⟩
def yFo:zY:=⟨[],[(2,US)],false⟩
theorem yVx:qI vP8:=zN zM ⟨vN7,vIn,trivial⟩
theorem vQ8:qD prog 1000 0 40 (zX (qC f172) 0) US:=lp (A:=yFo) US (fun d=>(d.1.2.1.1,(vO d.2.1 d.2.2.1))) yLe FO JW yVx zK
def yHj:Nat×zH:=zP 172 [.agg iS,.c (.dat true zG),.c (.int .i64)] (.tup [(true,wU),(false,vE),(false,[.own zG])]) (fun k d=>(ir (FP k) d)) (fun x=>(lQ x ()))
theorem vLe:zJ prog yHj:=fA (rs:=.tup [(true,wU),(false,vE),(false,[.own zG])]) f172 yFo (fun d=>(kW d)) yVx (loops1 vQ8)
def yWk:Nat×zH:=uV 249 false (.int .i64) (.own (.int .i64)) Q6
theorem vSc:zJ prog yWk:=fC f249 ⟨[],[],false⟩ (zN (l:=[]) zM trivial) zK
def qS5:Nat×zH:=wC 250 [.agg vI,.ptr true [.own (.int .i64)]] (.c (.bool)) [[.own (.int .i64)]] (fun k d=>(ko (Q8 k) d)) (fun x=>(x.1,x.2,()))
theorem vL0:zJ prog qS5:=fX (rs:=.c (.bool)) (os:=[[.own (.int .i64)]]) f250 ⟨[],[],false⟩ 2 (fun d=>(d.1,d.2.1)) (zN (l:=[]) zM trivial) zK
def yXj:zF:=⟨[(1,.c (.lit (.fn 250 [1001000]))),(5,.c (.lit (.osl 1001002 none))),(8,.c (.dat false zG)),(9,.c (.int .i64)),(10,.c (.int .i64))],[.box true [.lit (.osl 1001001 none)],.arr true (.int .i64),.arr true zG],[(5,none,zG,false)]⟩
def yWl:zF:=⟨[(1,.c (.lit (.fn 250 [1001000]))),(5,.c (.lit (.osl 1001002 none)))],[.box true [.lit (.osl 1001001 none)],.arr true (.int .i64),.arr true zG],[]⟩
def yJr (f:UT)(d:yXj.den):Option L4:=f d.1.2.2.1.1 d.1.2.2.2.1.1 d.1.2.2.2.2.1.1 d.2.2.1 d.2.2.2.1
def UU:qE:=⟨yXj,[(.exit 0,yWl)],L4,fun k d=>yJr (Bu k k) d,fun b x _ K=>K (.exit 0) (zS b yWl (((),(),()),((),x.1,x.2,())))⟩
def vJc:qB:=⟨prog,fun _=>false,qJ [qS5]⟩
def yBg:zY:=⟨[],[(3,UU)],false⟩
theorem yAe:qI vJc:=zN zM ⟨vL0,trivial⟩
theorem vSy:qD prog 1000 2 23 (zX (qC f153) 0) UU:=lp (A:=yBg) UU (fun d=>(d.2.2.1,d.2.2.2.1)) yJr Bu Bv yAe zK
def yKe:Nat×zH:=wC 153 [.c (.p (.dat false zG)),.fn 250 [(true,[.own (.int .i64)])]] (.c (.own zG)) [[.own (.int .i64)]] (fun k d=>Q7 k d.1 d.2.1) (fun x=>(x.1,x.2,()))
theorem vS0:zJ prog yKe:=fX (rs:=.c (.own zG)) (os:=[[.own (.int .i64)]]) f153 yBg 2 (fun d=>(d.1,d.2.1)) yAe (loops1 vSy)
def UW:Nat×zH:=zP 219 [.c (.dat false zG),.c (.dat false (.int .i64))] (.c (.own zG)) (fun k d=>Bt k d.1 d.2.1) (fun x=>(x,()))
theorem yQs:zJ prog UW:=fA (rs:=.c (.own zG)) f219 ⟨[],[],false⟩ (fun d=>d.1) (zN (l:=[yWk,yKe]) zM ⟨vSc,vS0,trivial⟩) zK
def yLv:zF:=⟨[(3,.c (.lit (.ptr 1001000 0))),(6,.c (.lit (.osl 1001001 none))),(7,.c (.int .i64)),(8,.c (.lit (.osl 1001002 none))),(18,.c (.int .i64)),(19,.c (.int .i64))],[.box true jI,.arr true (.int .i64),.arr true zG],[(6,none,(.int .i64),false)]⟩
def yF6:zF:=⟨[(3,.c (.lit (.ptr 1001000 0))),(6,.c (.lit (.osl 1001001 none))),(7,.c (.int .i64)),(8,.c (.lit (.osl 1001002 none)))],[.box true jI,.arr true (.int .i64),.arr true zG],[]⟩
def yWj (f:UX)(d:yLv.den):Option L5:=(vB (f d.1.2.2.1.1 d.1.2.2.2.2.1.1 d.1.2.2.2.2.2.1.1) d.2.1) d.2.2.1 d.2.2.2.1
def L6:qE:=⟨yLv,[(.exit 0,yF6)],L5,fun k d=>yWj (vw k k) d,fun b x _ K=>K (.exit 0) (zS b yF6 (((),(),(x.1,()),(),()),((gm x ()),x.2.2.2.2.2.1,x.2.2.2.2.2.2,())))⟩
def yBw:zF:=⟨[(3,.c (.lit (.ptr 1001000 0))),(6,.c (.lit (.osl 1001001 none))),(7,.c (.int .i64)),(8,.c (.lit (.osl 1001002 none))),(42,.c (.lit (.osl 1001003 none))),(43,.c (.int .i64)),(44,.c (.int .i64))],[.box true jI,.arr true (.int .i64),.arr true zG,.arr true (.int .i64)],[]⟩
def yW3:zF:=⟨[(3,.c (.lit (.ptr 1001000 0))),(6,.c (.lit (.osl 1001001 none))),(7,.c (.int .i64)),(8,.c (.lit (.osl 1001002 none)))],[.box true jI,.arr true (.int .i64),.arr true zG],[]⟩
def yP4 (f:UY)(d:yBw.den):Option L7:=(vB (f d.1.2.2.1.1 d.1.2.2.2.2.2.1.1 d.1.2.2.2.2.2.2.1.1) d.2.1) d.2.2.1 d.2.2.2.1 d.2.2.2.2.1
def UZ:qE:=⟨yBw,[(.exit 4,yW3)],L7,fun k d=>yP4 (By k k) d,fun b x _ K=>K (.exit 4) (zS b yW3 (((),(),(x.1,()),(),()),((gm x ()),x.2.2.2.2.2.1,x.2.2.2.2.2.2,())))⟩
def yCr:zF:=⟨[(3,.c (.lit (.ptr 1001000 0))),(6,.c (.lit (.osl 1001001 none))),(7,.c (.int .i64)),(8,.c (.lit (.osl 1001002 none)))],[.box true jI,.arr true (.int .i64),.arr true zG],[]⟩
def yGt:zF:=⟨[(6,.c (.lit (.osl 1001000 none))),(7,.c (.int .i64))],[.arr true (.int .i64)],[]⟩
def yC7 (f:U0)(d:yCr.den):Option (Int×(List Int)):=(vB (f d.1.2.2.1.1) d.2.1) d.2.2.1 d.2.2.2.1
def L8:qE:=⟨yCr,[(.ret,yGt)],(Int×(List Int)),fun k d=>yC7 (FN k k) d,fun b x _ K=>K .ret (zS b yGt (((),(x.1,()),()),(x.2,())))⟩
def vJo:qB:=⟨prog,fun _=>false,qJ [LI,SB,UW,T8]⟩
def L9:zY:=⟨[],[(3,L6),(12,UZ),(7,L8)],false⟩
theorem Ma:qI vJo:=zN zM ⟨TK,qYv,yQs,qYw,trivial⟩
theorem vQz:qD prog 1000 0 55 (zX (qC f218) 0) L6:=lp (A:=L9) L6 (fun d=>(d.1.2.2.1.1,(vO d.2.1 (d.2.2.1,d.2.2.2.1)))) yWj vw Bx Ma zK
theorem vPe:qD prog 1000 0 55 (zX (zX (qC f218) 1) 0) UZ:=lp (A:=L9) UZ (fun d=>(d.1.2.2.1.1,(vO d.2.1 (d.2.2.1,d.2.2.2.1)))) yP4 By Bz Ma zK
theorem yXq:qD prog 1000 0 55 (zX (qC f218) 1) L8:=lp (A:=L9) L8 (fun d=>(d.1.2.1.1,d.2.1)) yC7 FN BA Ma (loops1 vPe)
def qUq:Nat×zH:=zP 218 [.agg jD,.c (.dat false zG),.c (.int .i64)] (.tup [(false,[.own (.int .i64)]),(false,qX)]) (fun k d=>(ir (JT k) d)) (fun x=>(x.1,x.2,()))
theorem vD4:zJ prog qUq:=fA (rs:=.tup [(false,[.own (.int .i64)]),(false,qX)]) f218 L9 (fun d=>(d.1,d.2.1)) Ma (oc (n:=2) (by kernel_rfl) fun i hi=>match i,hi with|0,_=>⟨L6,by kernel_rfl,vQz⟩|1,_=>⟨L8,by kernel_rfl,yXq⟩|i+2,hi=>absurd hi (by omega))
def yC8:zF:=⟨[(6,.c (.lit (.ptr 1001000 0))),(7,.c (.dat true zG)),(11,.c (.lit (.osl 1001001 none))),(38,.c (.lit (.osl 1001001 none))),(39,.c (.int .i64)),(40,.c (.int .i64))],[.box true vZ,.arr true zG],[]⟩
def yEe:zF:=⟨[(6,.c (.lit (.ptr 1001000 0))),(7,.c (.dat true zG)),(11,.c (.lit (.osl 1001001 none)))],[.box true vZ,.arr true zG],[]⟩
def yCq (f:U1)(d:yC8.den):Option Mb:=(vB (f d.1.2.1.1 d.1.2.2.2.2.1.1 d.1.2.2.2.2.2.1.1) d.2.1) d.2.2.1
def U2:qE:=⟨yC8,[(.exit 0,yEe)],Mb,fun k d=>yCq (vx k k) d,fun b x _ K=>K (.exit 0) (zS b yEe (((),(x.1,()),(),()),((gm x ()),x.2.2.2.2.2,())))⟩
def vPh:qB:=⟨prog,fun _=>false,qJ [qUq,LI,UW,LR,tC]⟩
def yCn:zY:=⟨[],[(8,U2)],false⟩
theorem qVj:qI vPh:=zN zM ⟨vD4,TK,yQs,Uw,xj,trivial⟩
theorem vOv:qD prog 1000 0 56 (zX (qC f173) 0) U2:=lp (A:=yCn) U2 (fun d=>(d.1.2.1.1,(vO d.2.1 d.2.2.1))) yCq vx BB qVj zK
def yTo:Nat×zH:=zP 173 [.agg iS,.c (.dat true zG),.c (.int .i64)] (.tup [(true,wU),(false,vE),(false,[.own zG])]) (fun k d=>(ir (vy k) d)) (fun x=>(lQ x ()))
theorem vGi:zJ prog yTo:=fA (rs:=.tup [(true,wU),(false,vE),(false,[.own zG])]) f173 yCn (fun d=>(kW d)) qVj (loops1 vOv)
def yAx:Nat×zH:=zP 96 [.agg iS,.c (.dat true zG),.c (.int .i64),.c (.bool)] (.tup [(true,wU),(false,vE),(false,[.own zG])]) (fun k d=>(kp (sR k) d)) (fun x=>(lQ x ()))
theorem yZd:zJ prog yAx:=fA (rs:=.tup [(true,wU),(false,vE),(false,[.own zG])]) f96 ⟨[],[],false⟩ (fun d=>(kW d)) (zN (l:=[yHj,yTo]) zM ⟨vLe,vGi,trivial⟩) zK
def yNg:zF:=⟨[(3,.c (.lit (.osl 1001000 none))),(5,.c (.lit (.ptr 1001001 0))),(8,.c (.dat false zG)),(9,.c (.int .i64)),(10,.c (.int .i64)),(18,.c (.lit (.osl 1001002 none))),(19,.c (.int .i64)),(20,.c (.int .i64))],[.arr true yA,.box true wD,.arr true (.int .i64)],[(3,none,yA,false)]⟩
def yFq:zF:=⟨[(3,.c (.lit (.osl 1001000 none))),(8,.c (.dat false zG)),(9,.c (.int .i64)),(10,.c (.int .i64))],[.arr true yA],[]⟩
def yI9 (f:U3)(d:yNg.den):Option Md:=(kp (f d.1.2.2.1.1 d.1.2.2.2.1.1 d.1.2.2.2.2.1.1 d.1.2.2.2.2.2.2.1.1 d.1.2.2.2.2.2.2.2.1.1 d.2.1) d.2.2.1) d.2.2.2.1
def U4:qE:=⟨yNg,[(.exit 2,yFq)],Md,fun k d=>yI9 (sU k k) d,fun b x _ K=>K (.exit 2) (zS b yFq (((),(x.1,()),(x.2.1,()),(x.2.2.1,()),()),(x.2.2.2,())))⟩
def yV2:zF:=⟨[(3,.c (.lit (.osl 1001000 none))),(8,.c (.dat false zG)),(9,.c (.int .i64)),(10,.c (.int .i64))],[.arr true yA],[(3,none,yA,false)]⟩
def yK7:zF:=⟨[(3,.c (.lit (.osl 1001000 none)))],[.arr true yA],[]⟩
def qV2 (f:U5)(d:yV2.den):Option Me:=f d.1.2.1.1 d.1.2.2.1.1 d.1.2.2.2.1.1 d.2.1
def U6:qE:=⟨yV2,[(.exit 0,yK7)],Me,fun k d=>qV2 (BE k k) d,fun b x _ K=>K (.exit 0) (zS b yK7 (((),()),(x,())))⟩
def vSb:qB:=⟨prog,fun _=>false,qJ [Ly]⟩
def U7:zY:=⟨[],[(6,U4),(3,U6)],false⟩
theorem U8:qI vSb:=zN zM ⟨TD,trivial⟩
theorem vOp:qD prog 1000 0 41 (zX (zX (qC f97) 0) 0) U4:=lp (A:=U7) U4 (fun d=>(d.1.2.1.1,d.1.2.2.1.1,d.1.2.2.2.1.1,d.2.1)) yI9 sU sV U8 zK
theorem yXt:qD prog 1000 0 41 (zX (qC f97) 0) U6:=lp (A:=U7) U6 (fun d=>d.2.1) qV2 BE BF U8 (loops1 vOp)
def yHn:Nat×zH:=zP 97 [.c (.dat false zG)] (.c (.own yA)) (fun k d=>JX k d.1) (fun x=>(x,()))
theorem vKc:zJ prog yHn:=fA (rs:=.c (.own yA)) f97 U7 (fun d=>d.1) U8 (loops1 yXt)
def U9:Nat×zH:=zP 50 [.agg tF,.c (.bool)] (.tup [(true,kX),(false,[.own yA])]) (fun k d=>(GV (pZ k) d)) (fun x=>(CY x ()))
theorem yJb:zJ prog U9:=fA (rs:=.tup [(true,kX),(false,[.own yA])]) f50 ⟨[],[],false⟩ (fun d=>(CZ d)) (zN (l:=[yAx,yHn]) zM ⟨yZd,vKc,trivial⟩) zK
def yNz:zF:=⟨[(2,.c (.lit (.ptr 1001000 0))),(3,.c (.lit (.ptr 1001001 0))),(4,.c (.lit (.ptr 1001002 0))),(6,.c (.lit (.osl 1001003 none))),(7,.c (.lit (.osl 1001004 none))),(27,.c (.dat true zG)),(28,.c (.int .i64)),(29,.c (.int .i64))],[.box true nF,.box true kn,.box true gk,.arr true yA,.arr true zG],[(6,none,yA,false),(7,none,zG,false)]⟩
def qZe:zF:=⟨[(2,.c (.lit (.ptr 1001000 0))),(3,.c (.lit (.ptr 1001001 0))),(4,.c (.lit (.ptr 1001002 0))),(6,.c (.lit (.osl 1001003 none))),(7,.c (.lit (.osl 1001004 none)))],[.box true nF,.box true kn,.box true gk,.arr true yA,.arr true zG],[]⟩
def yJu (f:Va)(d:yNz.den):Option Mg:=(oK (jm (f d.1.2.2.2.2.2.1.1 d.1.2.2.2.2.2.2.1.1 d.1.2.2.2.2.2.2.2.1.1) d.2.1) d.2.2.1) d.2.2.2.1.1 d.2.2.2.1.2.1 d.2.2.2.1.2.2.1 d.2.2.2.2.1 d.2.2.2.2.2.1
def Vb:qE:=⟨yNz,[(.exit 0,qZe)],Mg,fun k d=>yJu (BP k k) d,fun b x _ K=>K (.exit 0) (zS b qZe (((),(),(),(),(),()),((xk x ()),(vA0 x ()),(x.2.2.2.2.2.2.2.2.2.2.2.2.2.2.2.2.1,x.2.2.2.2.2.2.2.2.2.2.2.2.2.2.2.2.2.1,x.2.2.2.2.2.2.2.2.2.2.2.2.2.2.2.2.2.2.1,()),x.2.2.2.2.2.2.2.2.2.2.2.2.2.2.2.2.2.2.2.1,x.2.2.2.2.2.2.2.2.2.2.2.2.2.2.2.2.2.2.2.2,())))⟩
def vAw:qB:=⟨prog,fun _=>false,qJ [Sd,qLc,qH9,Ly,qJ1,U9]⟩
def yHd:zY:=⟨[],[(9,Vb)],false⟩
theorem yVe:qI vAw:=zN zM ⟨yAw,vCi,vRu,TD,vEj,yJb,trivial⟩
theorem vR8:qD prog 1000 0 66 (zX (qC f49) 0) Vb:=lp (A:=yHd) Vb (fun d=>(xk d.2.1 (tE d.2.2.1 (d.2.2.2.1.1,d.2.2.2.1.2.1,d.2.2.2.1.2.2.1,d.2.2.2.2.1,d.2.2.2.2.2.1)))) yJu BP BQ yVe zK
def yRa:Nat×zH:=zP 49 [.agg iR,.agg tF] (.tup [(true,kX),(false,[.own yA])]) (fun k d=>(yEi (sX k) d)) (fun x=>(CY x ()))
theorem vKa:zJ prog yRa:=fA (rs:=.tup [(true,kX),(false,[.own yA])]) f49 yHd (fun d=>(CZ d)) yVe (loops1 vR8)
def yMy:Nat×zH:=wC 86 [.ptr true tA,.agg GZ] (.c (.int .i64)) [wG] (fun k d=>yPs k (jl d) (yQ9 d)) (fun x=>(x.1,(eZ x.2 ())))
theorem vHl:zJ prog yMy:=fX (rs:=.c (.int .i64)) (os:=[wG]) f86 ⟨[],[],true⟩ 1 (fun d=>(d.1,(kV d))) (zN (l:=[iq,SF,SO,GY]) zM ⟨iQ,yBj,yKa,Lk,trivial⟩) zK
def ySt:Nat×zH:=wC 87 [.ptr true tA,.agg vI] (.c (.int .i64)) [wG] (fun k d=>Mh k (jl d) (CV d)) (fun x=>(x.1,(eZ x.2 ())))
theorem vB7:zJ prog ySt:=fX (rs:=.c (.int .i64)) (os:=[wG]) f87 ⟨[],[],true⟩ 1 (fun d=>(d.1,(kV d))) (zN (l:=[S0,tC,SC,iq,Ld,S5,S8,S9]) zM ⟨yL4,xj,yHk,iQ,SE,yMo,yKq,qWg,trivial⟩) zK
def yVp:Nat×zH:=wC 88 [.ptr true tA,.agg vI] (.c (.int .i64)) [wG] (fun k d=>Mi k (jl d) (CV d)) (fun x=>(x.1,(eZ x.2 ())))
theorem vP9:zJ prog yVp:=fX (rs:=.c (.int .i64)) (os:=[wG]) f88 ⟨[],[],true⟩ 1 (fun d=>(d.1,(kV d))) (zN (l:=[oM,Tc,iq]) zM ⟨qu,yXc,iQ,trivial⟩) zK
def yF9:Nat×zH:=wC 89 [.ptr true tA,.c (.p (.int .i64)),.c (.p (.int .i64))] (.c (.int .i64)) [wG] (fun k d=>yGs k (jl d) d.2.2.2.2.2.2.2.2.2.2.2.2.2.2.2.2.2.2.1 d.2.2.2.2.2.2.2.2.2.2.2.2.2.2.2.2.2.2.2.1) (fun x=>(x.1,(eZ x.2 ())))
theorem vQa:zJ prog yF9:=fX (rs:=.c (.int .i64)) (os:=[wG]) f89 ⟨[],[],true⟩ 1 (fun d=>(d.1,(kV d))) (zN (l:=[G0,iq,Te,G2,CW,oM]) zM ⟨Lq,iQ,qWp,Lr,G3,qu,trivial⟩) zK
def yM3:Nat×zH:=wC 90 [.ptr true tA,.c (.p (.int .i64)),.c (.p (.int .i64)),.c (.p (.int .i64))] (.c (.int .i64)) [wG] (fun k d=>wh k (jl d) d.2.2.2.2.2.2.2.2.2.2.2.2.2.2.2.2.2.2.1 d.2.2.2.2.2.2.2.2.2.2.2.2.2.2.2.2.2.2.2.1 d.2.2.2.2.2.2.2.2.2.2.2.2.2.2.2.2.2.2.2.2.1) (fun x=>(x.1,(eZ x.2 ())))
theorem vAj:zJ prog yM3:=fX (rs:=.c (.int .i64)) (os:=[wG]) f90 ⟨[],[],true⟩ 1 (fun d=>(d.1,(kV d))) (zN (l:=[iq,Tt,Tv,Tw,oM]) zM ⟨iQ,yDm,yPj,yFy,qu,trivial⟩) zK
def qWh:zF:=⟨[(0,.c (.lit (.ptr 1001000 0))),(7,.c (.lit (.osl 1001001 none))),(8,.c (.lit (.ptr 1001002 0))),(40,.c (.dat true (.sl (.int .i64)))),(41,.c (.int .i64)),(42,.c (.int .i64))],[.box true Vc,.arr true (.int .i64),.box true oN,.arr true yH,.mat,.arr true (.int .i64),.mat],[]⟩
def yVz:zF:=⟨[(0,.c (.lit (.ptr 1001000 0))),(7,.c (.lit (.osl 1001001 none))),(8,.c (.lit (.ptr 1001002 0)))],[.box true Vc,.arr true (.int .i64),.box true oN,.arr true yH,.mat,.arr true (.int .i64),.mat],[]⟩
def yHa:zF:=⟨[(0,.c (.lit (.ptr 1001000 0))),(6,.c (.int .i64))],[.box true Vc],[]⟩
def qZ7 (f:Vd)(d:qWh.den):Option Mj:=f d.1.2.2.2.1.1 d.1.2.2.2.2.1.1 d.1.2.2.2.2.2.1.1 (jl d.2.1) d.2.2.1 d.2.2.2.2.1 d.2.2.2.2.2.1 d.2.2.2.2.2.2.1 d.2.2.2.2.2.2.2.1
def Ve:qE:=⟨qWh,[(.exit 0,yVz),(.ret,yHa)],Mj,fun k d=>qZ7 (qd k k) d,fun b x _ K=>match x with|.inl x=>K (.exit 0) (zS b yVz (((),(),(),()),((vG x.1 ()),x.2.1,(),x.2.2.1,x.2.2.2.1,x.2.2.2.2.1,x.2.2.2.2.2,())))|.inr x=>K .ret (zS b yHa (((),(x.1,()),()),((vG x.2 ()),())))⟩
def vC6:qB:=⟨prog,fun _=>false,qJ [G0,iq,G2,oM,CW]⟩
def yU5:zY:=⟨[],[(6,Ve)],true⟩
theorem qVg:qI vC6:=zN zM ⟨Lq,iQ,Lr,qu,G3,trivial⟩
theorem vHm:qD prog 1000 1 81 (zX (qC f91) 0) Ve:=lp (A:=yU5) Ve (fun d=>match d with|.inl d=>.inl ((jl d.2.1),d.2.2.1,d.2.2.2.2.1,d.2.2.2.2.2.1,d.2.2.2.2.2.2.1,d.2.2.2.2.2.2.2.1)|.inr d=>.inr (d.1.2.1.1,(jl d.2.1))) qZ7 qd BZ qVg zK
def yP0:Nat×zH:=wC 91 [.ptr true tA,.c (.p (.int .i64)),.c (.p (.int .i64))] (.c (.int .i64)) [wG] (fun k d=>J7 k (jl d) d.2.2.2.2.2.2.2.2.2.2.2.2.2.2.2.2.2.2.1 d.2.2.2.2.2.2.2.2.2.2.2.2.2.2.2.2.2.2.2.1) (fun x=>(x.1,(eZ x.2 ())))
theorem vKk:zJ prog yP0:=fX (rs:=.c (.int .i64)) (os:=[wG]) f91 yU5 1 (fun d=>(d.1,(kV d))) qVg (loops1 vHm)
def yHt:Nat×zH:=wC 48 [.ptr true tA,.agg vI] (.c (.int .i64)) [wG] (fun k d=>tw k (jl d) (CV d)) (fun x=>(x.1,(eZ x.2 ())))
theorem vMe:zJ prog yHt:=fX (rs:=.c (.int .i64)) (os:=[wG]) f48 ⟨[],[],true⟩ 1 (fun d=>(d.1,(kV d))) (zN (l:=[yMy,ySt,yVp,yF9,yM3,yP0]) zM ⟨vHl,vB7,vP9,vQa,vAj,vKk,trivial⟩) zK
def Si:Nat×zH:=zP 20 [.agg Mk,.agg tF,.agg GW] (.tup [(true,kX),(false,[.own yA]),(false,qX)]) (fun k d=>GO k (vC d) (xh d) (La d)) (fun x=>(fz x.1 (x.2.1,x.2.2,())))
theorem qW7:zJ prog Si:=fA (rs:=.tup [(true,kX),(false,[.own yA]),(false,qX)]) f20 ⟨[],[],true⟩ (fun d=>((yD d),d.2.2.2.2.2.2.2.2.2.2.2.1,d.2.2.2.2.2.2.2.2.2.2.2.2.1)) (zN (l:=[R9q,yH3,SC,yWd,yRa,U9,xi,S4,yHt]) zM ⟨F9q,vIw,yHk,vP1,vKa,yJb,CT,yNb,vMe,trivial⟩) zK
def yQ7:Nat×zH:=zP 16 [.agg Mk,.agg tF,.agg GW] (.tup [(true,kX),(false,[.own yA]),(false,qX)]) (fun k d=>Vf k (vC d) (xh d) (La d)) (fun x=>(fz x.1 (x.2.1,x.2.2,())))
theorem vIi:zJ prog yQ7:=fA (rs:=.tup [(true,kX),(false,[.own yA]),(false,qX)]) f16 ⟨[],[],true⟩ (fun d=>((yD d),d.2.2.2.2.2.2.2.2.2.2.2.1,d.2.2.2.2.2.2.2.2.2.2.2.2.1)) (zN (l:=[Si]) zM ⟨qW7,trivial⟩) zK
def qYg:zF:=⟨[(1,.c (.dat false (.int .i64))),(4,.c (.lit (.ptr 1001000 0))),(5,.c (.lit (.ptr 1001001 0))),(6,.c (.int .i64))],[.box true wD,.box true wD],[]⟩
def yK1:zF:=⟨[(4,.c (.lit (.ptr 1001000 0))),(5,.c (.lit (.ptr 1001001 0)))],[.box true wD,.box true wD],[]⟩
def yWe (f:Vg)(d:qYg.den):Option Mm:=(kp (kp (f d.1.1.1 d.1.2.2.2.1.1) d.2.1) d.2.2.1)
def Vh:qE:=⟨qYg,[(.exit 0,yK1)],Mm,fun k d=>yWe (Mn k k) d,fun b x _ K=>K (.exit 0) (zS b yK1 (((),(),()),((im x ()),(yF2 x ()),())))⟩
def vTh:qB:=⟨prog,fun _=>false,qJ []⟩
def yD1:zY:=⟨[],[(3,Vh)],false⟩
theorem yHl:qI vTh:=zN zM trivial
theorem vGq:qD prog 1000 0 27 (zX (qC f36) 0) Vh:=lp (A:=yD1) Vh (fun d=>(im d.2.1 (wI d.2.2.1))) yWe Mn qZ3 yHl zK
def xl:Nat×zH:=zP 36 [.c (.int .i64),.c (.dat false (.int .i64))] (.agg gl) (fun k d=>jK k d.1 d.2.1) (fun x=>(gi x ()))
theorem C3:zJ prog xl:=fA (rs:=.agg gl) f36 yD1 (fun d=>(wI d)) yHl (loops1 vGq)
def qXw:Nat×zH:=zP 22 [.c (.int .i64),.c (.int .i64),.c (.dat false (.int .i64))] (.agg LA) (fun k d=>Vi k d.1 d.2.1 d.2.2.1) (fun x=>(LB x ()))
theorem vDi:zJ prog qXw:=fA (rs:=.agg LA) f22 ⟨[],[],true⟩ (fun d=>(CX d)) (zN (l:=[xl]) zM ⟨C3,trivial⟩) zK
def qLe:Nat×zH:=zP 18 [] (.c (.bool)) (fun k d=>R2 k) (fun x=>(x,()))
theorem vGf:zJ prog qLe:=fA (rs:=.c (.bool)) f18 ⟨[],[],true⟩ (fun d=>d.1) (yv (l:=[Sg,Sh,qXw,yQ7,xl]) (eqT:=fun t=>[42].any (Nat.beq t)) (DB (fun t h=>D9 (p:=fun t=>prog.keyTypeAt 8 t&& !prog.eqGuardType prog.depth t) (l:=[42]) (List.forall_mem_cons.2 ⟨by kernel_rfl,List.forall_mem_nil _⟩) t h)) zM ⟨F0q,F4q,vDi,vIi,C3,trivial⟩) zK
def qMq:Nat×zH:=zP 145 [.agg vI,.c (.int .i64)] (.c (.bool)) (fun k d=>(ko (QE k) d)) (fun x=>(x,()))
theorem vE9:zJ prog qMq:=fA (rs:=.c (.bool)) f145 ⟨[],[],false⟩ (fun d=>d.1) (zN (l:=[]) zM trivial) zK
def yV6:zF:=⟨[(0,.c (.dat false zG)),(1,.c (.int .i64)),(5,.c (.lit (.osl 1001000 none))),(6,.c (.int .i64))],[.arr true zG],[(5,none,zG,false)]⟩
def yN2:zF:=⟨[(5,.c (.lit (.osl 1001000 none)))],[.arr true zG],[]⟩
def yJl (f:Vj)(d:yV6.den):Option Mo:=f d.1.1.1 d.1.2.1.1 d.1.2.2.2.1.1 d.2.1
def Vk:qE:=⟨yV6,[(.exit 0,yN2)],Mo,fun k d=>yJl (Fl k k) d,fun b x _ K=>K (.exit 0) (zS b yN2 (((),()),(x,())))⟩
def vOn:qB:=⟨prog,fun _=>false,qJ [qMq]⟩
def yF3:zY:=⟨[],[(3,Vk)],false⟩
theorem yGz:qI vOn:=zN zM ⟨vE9,trivial⟩
theorem vOi:qD prog 1000 0 27 (zX (qC f79) 0) Vk:=lp (A:=yF3) Vk (fun d=>d.2.1) yJl Fl AF yGz zK
def G4:Nat×zH:=zP 79 [.c (.dat false zG),.c (.int .i64)] (.c (.own zG)) (fun k d=>AE k d.1 d.2.1) (fun x=>(x,()))
theorem qOp:zJ prog G4:=fA (rs:=.c (.own zG)) f79 yF3 (fun d=>d.1) yGz (loops1 vOi)
def qZo:zF:=⟨[(0,.c (.dat false zG)),(1,.c (.int .i64)),(5,.c (.lit (.osl 1001000 none))),(6,.c (.int .i64))],[.arr true zG],[(5,none,zG,false)]⟩
def yPi:zF:=⟨[(5,.c (.lit (.osl 1001000 none)))],[.arr true zG],[]⟩
def yJd (f:Vl)(d:qZo.den):Option Mp:=f d.1.1.1 d.1.2.1.1 d.1.2.2.2.1.1 d.2.1
def Vm:qE:=⟨qZo,[(.exit 0,yPi)],Mp,fun k d=>yJd (Fm k k) d,fun b x _ K=>K (.exit 0) (zS b yPi (((),()),(x,())))⟩
def vPq:qB:=⟨prog,fun _=>false,qJ []⟩
def qW3:zY:=⟨[],[(3,Vm)],false⟩
theorem qXo:qI vPq:=zN zM trivial
theorem yY1:qD prog 1000 0 28 (zX (qC f59) 0) Vm:=lp (A:=qW3) Vm (fun d=>d.2.1) yJd Fm AG qXo zK
def C4:Nat×zH:=zP 59 [.c (.dat false zG),.c (.int .i64)] (.c (.own zG)) (fun k d=>pO k d.1 d.2.1) (fun x=>(x,()))
theorem Mq:zJ prog C4:=fA (rs:=.c (.own zG)) f59 qW3 (fun d=>d.1) qXo (loops1 yY1)
def yD5:zF:=⟨[(5,.c (.lit (.osl 1001000 none))),(6,.c (.lit (.osl 1001001 none))),(7,.c (.int .i64)),(8,.c (.lit (.osl 1001002 none))),(9,.c (.bool)),(10,.c (.int .i64))],[.arr true zG,.arr true zG,.arr true zG],[]⟩
def yL7:zF:=⟨[(5,.c (.lit (.osl 1001000 none))),(6,.c (.lit (.osl 1001001 none))),(7,.c (.int .i64)),(8,.c (.lit (.osl 1001002 none))),(9,.c (.bool))],[.arr true zG,.arr true zG,.arr true zG],[]⟩
def yHz (f:Vn)(d:yD5.den):Option Mr:=f d.1.2.2.1.1 d.1.2.2.2.2.1.1 d.1.2.2.2.2.2.1.1 d.2.1 d.2.2.1 d.2.2.2.1
def Vo:qE:=⟨yD5,[(.exit 2,yL7)],Mr,fun k d=>yHz (AH k k) d,fun b x _ K=>K (.exit 2) (zS b yL7 (((),(),(x.1,()),(),(x.2.1,()),()),(x.2.2.1,x.2.2.2.1,x.2.2.2.2,())))⟩
def yLg:zF:=⟨[(5,.c (.lit (.osl 1001000 none))),(6,.c (.lit (.osl 1001001 none))),(7,.c (.int .i64))],[.arr true zG,.arr true zG],[(6,none,zG,false)]⟩
def yBu:zF:=⟨[(6,.c (.lit (.osl 1001000 none)))],[.arr true zG],[]⟩
def yGr (f:Vp)(d:yLg.den):Option Ms:=f d.1.2.2.1.1 d.2.1 d.2.2.1
def Vq:qE:=⟨yLg,[(.exit 0,yBu)],Ms,fun k d=>yGr (Fp k k) d,fun b x _ K=>K (.exit 0) (zS b yBu (((),()),(x,())))⟩
def vJm:qB:=⟨prog,fun t=>[52].any (Nat.beq t),qJ [G4,C4]⟩
def Vr:zY:=⟨[],[(9,Vo),(4,Vq)],false⟩
theorem Vs:qI vJm:=yv (l:=[G4,C4]) (eqT:=fun t=>[52].any (Nat.beq t)) (DB (fun t h=>D9 (p:=fun t=>prog.keyTypeAt 8 t&& !prog.eqGuardType prog.depth t) (l:=[52]) (List.forall_mem_cons.2 ⟨by kernel_rfl,List.forall_mem_nil _⟩) t h)) zM ⟨qOp,Mq,trivial⟩
theorem vKw:qD prog 1000 0 61 (zX (zX (qC f43) 0) 0) Vo:=lp (A:=Vr) Vo (fun d=>(d.1.2.2.1.1,d.1.2.2.2.2.1.1,d.2.1,d.2.2.1,d.2.2.2.1)) yHz AH AI Vs zK
theorem vCf:qD prog 1000 0 61 (zX (qC f43) 0) Vq:=lp (A:=Vr) Vq (fun d=>d.2.1) yGr Fp AJ Vs (loops1 vKw)
def Vt:Nat×zH:=zP 43 [.c (.dat false zG),.c (.int .i64)] (.c (.own zG)) (fun k d=>Fo k d.1 d.2.1) (fun x=>(x,()))
theorem yJ4:zJ prog Vt:=fA (rs:=.c (.own zG)) f43 Vr (fun d=>d.1) Vs (loops1 vCf)
def qM3:Nat×zH:=zP 139 [.agg jD,.agg vI] (.c (.bool)) (fun k d=>(oK (Qj k) d)) (fun x=>(x,()))
theorem vOt:zJ prog qM3:=fA (rs:=.c (.bool)) f139 ⟨[],[],false⟩ (fun d=>d.1) (zN (l:=[]) zM trivial) zK
def yQi:zF:=⟨[(1,.c (.dat false zG)),(2,.c (.lit (.ptr 1001000 0))),(5,.c (.int .i64))],[.box true jI],[]⟩
def yC5:zF:=⟨[(1,.c (.dat false zG))],[],[]⟩
def yA2:zF:=⟨[(4,.c (.bool))],[],[]⟩
def yPq (f:Vu)(d:yQi.den):Option Mt:=(vB (f d.1.1.1 d.1.2.2.1.1) d.2.1)
def Vv:qE:=⟨yQi,[(.exit 0,yC5),(.ret,yA2)],Mt,fun k d=>yPq (EX k k) d,fun b x _ K=>match x with|.inl x=>K (.exit 0) (zS b yC5 (((x,()),()),()))|.inr x=>K .ret (zS b yA2 (((x,()),()),()))⟩
def vE6:qB:=⟨prog,fun _=>false,qJ [qM3]⟩
def yBa:zY:=⟨[],[(2,Vv)],false⟩
theorem yE9:qI vE6:=zN zM ⟨vOt,trivial⟩
theorem vSh:qD prog 1000 0 22 (zX (qC f146) 0) Vv:=lp (A:=yBa) Vv (fun d=>match d with|.inl d=>.inl d.1.1.1|.inr d=>.inr d.1.1.1) yPq EX zv yE9 zK
def Vw:Nat×zH:=zP 146 [.agg jD,.c (.dat false zG)] (.c (.bool)) (fun k d=>(jm (EW k) d)) (fun x=>(x,()))
theorem ySb:zJ prog Vw:=fA (rs:=.c (.bool)) f146 yBa (fun d=>d.1) yE9 (loops1 vSh)
def yDg:zF:=⟨[(0,.c (.dat false (.sl (.int .i64)))),(3,.c (.lit (.osl 1001000 none))),(4,.c (.int .i64))],[.mat],[(3,none,(.sl (.int .i64)),true)]⟩
def yNt:zF:=⟨[(3,.c (.lit (.osl 1001000 none)))],[.mat],[]⟩
def qW4 (f:Vx)(d:yDg.den):Option (List (List Int)):=f d.1.1.1 d.1.2.2.1.1 d.2.1
def Vy:qE:=⟨yDg,[(.exit 0,yNt)],(List (List Int)),fun k d=>qW4 (EJ k k) d,fun b x _ K=>K (.exit 0) (zS b yNt (((),()),(x,())))⟩
def vI9:qB:=⟨prog,fun _=>false,qJ []⟩
def yA7:zY:=⟨[18,19],[(3,Vy)],false⟩
theorem yC2:qI vI9:=zN zM trivial
theorem vOu:qD prog 1000 0 21 (zX (qC f202) 0) Vy:=lp (A:=yA7) Vy (fun d=>d.2.1) qW4 EJ zm yC2 zK
def qY7:Nat×zH:=zP 202 [.c (.dat false (.sl (.int .i64)))] (.c (.mat)) (fun k d=>EK k d.1) (fun x=>(x,()))
theorem vKx:zJ prog qY7:=fA (rs:=.c (.mat)) f202 yA7 (fun d=>d.1) yC2 (loops1 vOu)
def C5:Nat×zH:=zP 147 [.agg jD] (.agg Lp) (fun k d=>(vB (mn k) d)) (fun x=>(qt x ()))
theorem G5:zJ prog C5:=fA (rs:=.agg Lp) f147 ⟨[],[],false⟩ (fun d=>(qw d)) (zN (l:=[qY7]) zM ⟨vKx,trivial⟩) zK
def yM1:zF:=⟨[(0,.c (.dat false zG)),(1,.c (.int .i64)),(6,.c (.int .i64)),(7,.c (.int .i64)),(8,.c (.int .i64))],[],[]⟩
def yTb:zF:=⟨[(6,.c (.int .i64)),(7,.c (.int .i64))],[],[]⟩
def yTu (f:Vz)(d:yM1.den):Option wO:=f d.1.1.1 d.1.2.1.1 d.1.2.2.1.1 d.1.2.2.2.1.1 d.1.2.2.2.2.1.1
def VA:qE:=⟨yM1,[(.exit 0,yTb)],wO,fun k d=>yTu (E2 k k) d,fun b x _ K=>K (.exit 0) (zS b yTb (((x.1,()),(x.2,()),()),()))⟩
def vDs:qB:=⟨prog,fun _=>false,qJ []⟩
def ySl:zY:=⟨[],[(3,VA)],false⟩
theorem yQn:qI vDs:=zN zM trivial
theorem vOl:qD prog 1000 0 46 (zX (qC f203) 0) VA:=lp (A:=ySl) VA (fun d=>(d.1.1.1,d.1.2.1.1)) yTu E2 z9 yQn zK
def VB:Nat×zH:=zP 203 [.c (.dat false zG),.c (.int .i64)] (.tup [(false,qX),(false,qX)]) (fun k d=>E1 k d.1 d.2.1) (fun x=>(x.1,x.2,()))
theorem qVe:zJ prog VB:=fA (rs:=.tup [(false,qX),(false,qX)]) f203 ySl (fun d=>(d.1,d.2.1)) yQn (loops1 vOl)
def qKb:Nat×zH:=zP 149 [.c (.dat false zG),.c (.int .i64)] (.c (.int .i64)) (fun k d=>I8 k d.1 d.2.1) (fun x=>(x,()))
theorem vHr:zJ prog qKb:=fA (rs:=.c (.int .i64)) f149 ⟨[],[],false⟩ (fun d=>d.1) (zN (l:=[VB]) zM ⟨qVe,trivial⟩) zK
def VC:Nat×zH:=zP 148 [.agg lO,.c (.int .i64)] (.c (.int .i64)) (fun k d=>(vB (Ac k) d)) (fun x=>(x,()))
theorem qVi:zJ prog VC:=fA (rs:=.c (.int .i64)) f148 ⟨[],[],false⟩ (fun d=>d.1) (zN (l:=[]) zM trivial) zK
def yR8:zF:=⟨[(0,.c (.dat false zG)),(1,.c (.int .i64)),(2,.c (.int .i64)),(7,.c (.int .i64)),(8,.c (.int .i64))],[],[]⟩
def yMj:zF:=⟨[(7,.c (.int .i64))],[],[]⟩
def yV5 (f:VD)(d:yR8.den):Option Int:=f d.1.1.1 d.1.2.1.1 d.1.2.2.1.1 d.1.2.2.2.1.1 d.1.2.2.2.2.1.1
def VE:qE:=⟨yR8,[(.exit 0,yMj)],Int,fun k d=>yV5 (E0 k k) d,fun b x _ K=>K (.exit 0) (zS b yMj (((x,()),()),()))⟩
def yYh:qB:=⟨prog,fun _=>false,qJ []⟩
def yWw:zY:=⟨[],[(3,VE)],false⟩
theorem yIb:qI yYh:=zN zM trivial
theorem vMp:qD prog 1000 0 39 (zX (qC f204) 0) VE:=lp (A:=yWw) VE (fun d=>d.1.1.1) yV5 E0 zz yIb zK
def VF:Nat×zH:=zP 204 [.c (.dat false zG),.c (.int .i64),.c (.int .i64)] (.c (.int .i64)) (fun k d=>sG k d.1 d.2.1 d.2.2.1) (fun x=>(x,()))
theorem yJi:zJ prog VF:=fA (rs:=.c (.int .i64)) f204 yWw (fun d=>d.1) yIb (loops1 vMp)
def qS9:Nat×zH:=zP 150 [.c (.dat false zG),.c (.int .i64),.c (.int .i64)] (.c (.int .i64)) (fun k d=>I6 k d.1 d.2.1 d.2.2.1) (fun x=>(x,()))
theorem vPw:zJ prog qS9:=fA (rs:=.c (.int .i64)) f150 ⟨[],[],false⟩ (fun d=>d.1) (zN (l:=[VF]) zM ⟨yJi,trivial⟩) zK
def yMm:zF:=⟨[(0,.c (.dat false (.sl (.int .i64)))),(1,.c (.int .i64)),(5,.c (.int .i64))],[],[]⟩
def yNp:zF:=⟨[],[],[]⟩
def yE8:zF:=⟨[(4,.c (.bool))],[],[]⟩
def yS3 (f:VG)(d:yMm.den):Option (Unit⊕Bool):=f d.1.1.1 d.1.2.1.1 d.1.2.2.1.1
def VH:qE:=⟨yMm,[(.exit 0,yNp),(.ret,yE8)],(Unit⊕Bool),fun k d=>yS3 (EB k k) d,fun b x _ K=>match x with|.inl x=>K (.exit 0) (zS b yNp ((),()))|.inr x=>K .ret (zS b yE8 (((x,()),()),()))⟩
def vD0:qB:=⟨prog,fun _=>false,qJ []⟩
def yW0:zY:=⟨[],[(4,VH)],false⟩
theorem yT1:qI vD0:=zN zM trivial
theorem vFv:qD prog 1000 0 22 (zX (qC f134) 0) VH:=lp (A:=yW0) VH (fun d=>match d with|.inl d=>.inl ()|.inr d=>.inr d.1.1.1) yS3 EB y8 yT1 zK
def qNs:Nat×zH:=zP 134 [.c (.dat false (.sl (.int .i64))),.c (.int .i64)] (.c (.bool)) (fun k d=>EA k d.1 d.2.1) (fun x=>(x,()))
theorem yYq:zJ prog qNs:=fA (rs:=.c (.bool)) f134 yW0 (fun d=>d.1) yT1 (loops1 vFv)
def VI:Nat×zH:=zP 135 [.agg lO] (.c (.bool)) (fun k d=>Ey k d.1 d.2.1 d.2.2.1) (fun x=>(x,()))
theorem ySd:zJ prog VI:=fA (rs:=.c (.bool)) f135 ⟨[],[],false⟩ (fun d=>d.1) (zN (l:=[]) zM trivial) zK
def qG7:Nat×zH:=zP 136 [.c (.int .i64)] (.c (.bool)) (fun k d=>Ez k d.1) (fun x=>(x,()))
theorem yZ1:zJ prog qG7:=fA (rs:=.c (.bool)) f136 ⟨[],[],false⟩ (fun d=>d.1) (zN (l:=[]) zM trivial) zK
def qXs:zF:=⟨[(1,.c (.lit (.ptr 1001000 0))),(3,.c (.int .i64)),(4,.c (.int .i64)),(5,.c (.int .i64))],[.box true jI],[]⟩
def qZn:zF:=⟨[(1,.c (.lit (.ptr 1001000 0))),(3,.c (.int .i64)),(4,.c (.int .i64))],[.box true jI],[]⟩
def yUt:zF:=⟨[(2,.c (.bool))],[],[]⟩
def yE5 (f:VJ)(d:qXs.den):Option Mu:=(vB (f d.1.2.1.1 d.1.2.2.1.1 d.1.2.2.2.1.1) d.2.1)
def VK:qE:=⟨qXs,[(.exit 2,qZn),(.ret,yUt)],Mu,fun k d=>yE5 (y9 k k) d,fun b x _ K=>match x with|.inl x=>K (.exit 2) (zS b qZn (((),(x.1,()),(x.2.1,()),()),((wi x ()),())))|.inr x=>K .ret (zS b yUt (((x,()),()),()))⟩
def yGb:zF:=⟨[(1,.c (.lit (.ptr 1001000 0))),(3,.c (.int .i64)),(4,.c (.int .i64))],[.box true jI],[]⟩
def yCo:zF:=⟨[],[],[]⟩
def ySw:zF:=⟨[(2,.c (.bool))],[],[]⟩
def ySg (f:VL)(d:yGb.den):Option (Unit⊕Bool):=(vB (f d.1.2.1.1 d.1.2.2.1.1) d.2.1)
def VM:qE:=⟨yGb,[(.exit 0,yCo),(.ret,ySw)],(Unit⊕Bool),fun k d=>ySg (zb k k) d,fun b x _ K=>match x with|.inl x=>K (.exit 0) (zS b yCo ((),()))|.inr x=>K .ret (zS b ySw (((x,()),()),()))⟩
def vAc:qB:=⟨prog,fun _=>false,qJ [qNs,VI,qG7]⟩
def VN:zY:=⟨[],[(10,VK),(5,VM)],false⟩
theorem VO:qI vAc:=zN zM ⟨yYq,ySd,yZ1,trivial⟩
theorem vB4:qD prog 1000 0 114 (zX (zX (qC f71) 0) 0) VK:=lp (A:=VN) VK (fun d=>match d with|.inl d=>.inl (d.1.2.1.1,d.1.2.2.1.1,(qw d.2.1))|.inr d=>.inr d.1.1.1) yE5 y9 za VO zK
theorem vDc:qD prog 1000 0 114 (zX (qC f71) 0) VM:=lp (A:=VN) VM (fun d=>match d with|.inl d=>.inl ()|.inr d=>.inr d.1.1.1) ySg zb zc VO (loops1 vB4)
def qFz:Nat×zH:=zP 71 [.agg jD] (.c (.bool)) (fun k d=>(vB (IN k) d)) (fun x=>(x,()))
theorem vGz:zJ prog qFz:=fA (rs:=.c (.bool)) f71 VN (fun d=>d.1) VO (loops1 vDc)
def yUy:zF:=⟨[(1,.c (.dat false zG)),(2,.c (.lit (.ptr 1001000 0))),(4,.c (.lit (.ptr 1001001 0))),(6,.c (.lit (.ptr 1001002 0))),(7,.c (.int .i64)),(8,.c (.int .i64))],[.box true vZ,.box true lP,.box true oN,.arr true yH,.mat,.arr true (.int .i64),.mat],[]⟩
def yAg:zF:=⟨[(1,.c (.dat false zG)),(2,.c (.lit (.ptr 1001000 0))),(4,.c (.lit (.ptr 1001001 0))),(6,.c (.lit (.ptr 1001002 0))),(7,.c (.int .i64))],[.box true vZ,.box true lP,.box true oN,.arr true yH,.mat,.arr true (.int .i64),.mat],[]⟩
def yAr (f:VP)(d:yUy.den):Option Mv:=(vB (f d.1.1.1 d.1.2.2.2.2.1.1 d.1.2.2.2.2.2.1.1) d.2.1) d.2.2.2.2.1 d.2.2.2.2.2.1 d.2.2.2.2.2.2.1 d.2.2.2.2.2.2.2.1
def VQ:qE:=⟨yUy,[(.exit 2,yAg)],Mv,fun k d=>yAr (Ad k k) d,fun b x _ K=>K (.exit 2) (zS b yAg (((x.1,()),(),(),(),(x.2.1,()),()),((Lc x ()),(),(),x.2.2.2.2.2.2.1,x.2.2.2.2.2.2.2.1,x.2.2.2.2.2.2.2.2.1,x.2.2.2.2.2.2.2.2.2,())))⟩
def yBz:zF:=⟨[(1,.c (.dat false zG)),(2,.c (.lit (.ptr 1001000 0))),(4,.c (.lit (.ptr 1001001 0))),(6,.c (.lit (.ptr 1001002 0))),(7,.c (.int .i64))],[.box true vZ,.box true lP,.box true oN,.arr true yH,.mat,.arr true (.int .i64),.mat],[]⟩
def qV4:zF:=⟨[(2,.c (.lit (.ptr 1001000 0))),(4,.c (.lit (.ptr 1001001 0))),(6,.c (.lit (.ptr 1001002 0)))],[.box true vZ,.box true lP,.box true oN,.arr true yH,.mat,.arr true (.int .i64),.mat],[]⟩
def yHb (f:VR)(d:yBz.den):Option Mw:=(vB (f d.1.1.1 d.1.2.2.2.2.1.1) d.2.1) d.2.2.2.2.1 d.2.2.2.2.2.1 d.2.2.2.2.2.2.1 d.2.2.2.2.2.2.2.1
def VT:qE:=⟨yBz,[(.exit 0,qV4)],Mw,fun k d=>yHb (Af k k) d,fun b x _ K=>K (.exit 0) (zS b qV4 (((),(),(),()),((vO x ()),(),(),x.2.2.2.2.1,x.2.2.2.2.2.1,x.2.2.2.2.2.2.1,x.2.2.2.2.2.2.2,())))⟩
def vJf:qB:=⟨prog,fun _=>false,qJ [Vw,C5,qKb,VC,qS9,qFz]⟩
def VU:zY:=⟨[],[(9,VQ),(5,VT)],false⟩
theorem VV:qI vJf:=zN zM ⟨ySb,G5,vHr,qVi,vPw,vGz,trivial⟩
theorem vE1:qD prog 1000 0 84 (zX (zX (qC f80) 0) 0) VQ:=lp (A:=VU) VQ (fun d=>(d.1.1.1,d.1.2.2.2.2.1.1,(vO d.2.1 (d.2.2.2.2.1,d.2.2.2.2.2.1,d.2.2.2.2.2.2.1,d.2.2.2.2.2.2.2.1)))) yAr Ad Ae VV zK
theorem vEm:qD prog 1000 0 84 (zX (qC f80) 0) VT:=lp (A:=VU) VT (fun d=>(vO d.2.1 (d.2.2.2.2.1,d.2.2.2.2.2.1,d.2.2.2.2.2.2.1,d.2.2.2.2.2.2.2.1))) yHb Af Ag VV (loops1 vE1)
def VW:Nat×zH:=zP 80 [.agg iS,.c (.dat false zG)] (.tup [(true,wU),(false,qX)]) (fun k d=>(jm (vf k) d)) (fun x=>(gj x ()))
theorem yFd:zJ prog VW:=fA (rs:=.tup [(true,wU),(false,qX)]) f80 VU (fun d=>(vC d)) VV (loops1 vEm)
def qYj:zF:=⟨[(1,.c (.int .i64)),(2,.c (.lit (.ptr 1001000 0))),(5,.c (.int .i64)),(6,.c (.int .i64))],[.box true jI],[]⟩
def yOn:zF:=⟨[(5,.c (.int .i64))],[],[]⟩
def yHu (f:VX)(d:qYj.den):Option Int:=(vB (f d.1.1.1 d.1.2.2.1.1 d.1.2.2.2.1.1) d.2.1)
def VY:qE:=⟨qYj,[(.exit 0,yOn)],Int,fun k d=>yHu (Ah k k) d,fun b x _ K=>K (.exit 0) (zS b yOn (((x,()),()),()))⟩
def vQq:qB:=⟨prog,fun _=>false,qJ []⟩
def yDb:zY:=⟨[],[(3,VY)],false⟩
theorem yI4:qI vQq:=zN zM trivial
theorem vAk:qD prog 1000 0 28 (zX (qC f242) 0) VY:=lp (A:=yDb) VY (fun d=>d.1.1.1) yHu Ah Ai yI4 zK
def qOx:Nat×zH:=zP 242 [.agg jD,.c (.int .i64)] (.c (.int .i64)) (fun k d=>(jm (Jc k) d)) (fun x=>(x,()))
theorem vLl:zJ prog qOx:=fA (rs:=.c (.int .i64)) f242 yDb (fun d=>d.1) yI4 (loops1 vAk)
def yQr:zF:=⟨[(1,.c (.dat false zG)),(2,.c (.int .i64)),(3,.c (.lit (.ptr 1001000 0))),(7,.c (.int .i64)),(8,.c (.int .i64)),(9,.c (.int .i64)),(10,.c (.int .i64)),(11,.c (.int .i64))],[.box true jI],[]⟩
def yOw:zF:=⟨[(2,.c (.int .i64)),(3,.c (.lit (.ptr 1001000 0))),(7,.c (.int .i64)),(8,.c (.int .i64)),(9,.c (.int .i64)),(10,.c (.int .i64))],[.box true jI],[]⟩
def yGu:zF:=⟨[(6,.c (.bool))],[],[]⟩
def yLh (f:VZ)(d:yQr.den):Option Mx:=(vB (f d.1.1.1 d.1.2.1.1 d.1.2.2.2.1.1 d.1.2.2.2.2.1.1 d.1.2.2.2.2.2.1.1 d.1.2.2.2.2.2.2.1.1 d.1.2.2.2.2.2.2.2.1.1) d.2.1)
def V0:qE:=⟨yQr,[(.exit 0,yOw),(.ret,yGu)],Mx,fun k d=>yLh (oB k k) d,fun b x _ K=>match x with|.inl x=>K (.exit 0) (zS b yOw (((x.1,()),(),(x.2.1,()),(x.2.2.1,()),(x.2.2.2.1,()),(x.2.2.2.2.1,()),()),((vNc x ()),())))|.inr x=>K .ret (zS b yGu (((x,()),()),()))⟩
def vOf:qB:=⟨prog,fun _=>false,qJ [VB,qOx,VF,VC]⟩
def yCd:zY:=⟨[],[(7,V0)],false⟩
theorem yMu:qI vOf:=zN zM ⟨qVe,vLl,yJi,qVi,trivial⟩
theorem vP6:qD prog 1000 0 130 (zX (qC f205) 0) V0:=lp (A:=yCd) V0 (fun d=>match d with|.inl d=>.inl (d.1.1.1,d.1.2.2.1.1,d.1.2.2.2.1.1,d.1.2.2.2.2.1.1,d.1.2.2.2.2.2.1.1,(qw d.2.1))|.inr d=>.inr d.1.1.1) yLh oB Ak yMu zK
def qH7:Nat×zH:=zP 205 [.agg jD,.c (.dat false zG),.c (.int .i64)] (.c (.bool)) (fun k d=>(ir (Jf k) d)) (fun x=>(x,()))
theorem vNr:zJ prog qH7:=fA (rs:=.c (.bool)) f205 yCd (fun d=>d.1) yMu (loops1 vP6)
def yD3:zF:=⟨[(1,.c (.dat false zG)),(2,.c (.lit (.ptr 1001000 0))),(5,.c (.lit (.osl 1001001 none))),(6,.c (.int .i64))],[.box true jI,.arr true (.int .i64)],[(5,none,(.int .i64),false)]⟩
def yGn:zF:=⟨[(5,.c (.lit (.osl 1001000 none)))],[.arr true (.int .i64)],[]⟩
def yB1 (f:V1)(d:yD3.den):Option (List Int):=(vB (f d.1.1.1 d.1.2.2.2.1.1) d.2.1) d.2.2.1
def V2:qE:=⟨yD3,[(.exit 0,yGn)],(List Int),fun k d=>yB1 (pN k k) d,fun b x _ K=>K (.exit 0) (zS b yGn (((),()),(x,())))⟩
def vG7:qB:=⟨prog,fun _=>false,qJ [qH7]⟩
def ySu:zY:=⟨[],[(3,V2)],false⟩
theorem yOk:qI vG7:=zN zM ⟨vNr,trivial⟩
theorem vM5:qD prog 1000 0 23 (zX (qC f151) 0) V2:=lp (A:=ySu) V2 (fun d=>d.2.1) yB1 pN oC yOk zK
def V3:Nat×zH:=zP 151 [.agg jD,.c (.dat false zG)] (.c (.own (.int .i64))) (fun k d=>(jm (pM k) d)) (fun x=>(x,()))
theorem yS5:zJ prog V3:=fA (rs:=.c (.own (.int .i64))) f151 ySu (fun d=>d.1) yOk (loops1 vM5)
def yPh:Nat×zH:=zP 81 [.agg jD,.c (.dat false zG)] (.c (.bool)) (fun k d=>(jm (E7 k) d)) (fun x=>(x,()))
theorem vCd:zJ prog yPh:=fA (rs:=.c (.bool)) f81 ⟨[],[],false⟩ (fun d=>d.1) (zN (l:=[Vw,V3]) zM ⟨ySb,yS5,trivial⟩) zK
def G6:Nat×zH:=zP 44 [.agg iS,.c (.dat false zG)] (.tup [(true,wU),(false,[.bool])]) (fun k d=>(jm (qn k) d)) (fun x=>(gj x ()))
theorem My:zJ prog G6:=fA (rs:=.tup [(true,wU),(false,[.bool])]) f44 ⟨[],[],false⟩ (fun d=>(vC d)) (zN (l:=[VW,yPh]) zM ⟨yFd,vCd,trivial⟩) zK
def yXh:zF:=⟨[(3,.c (.lit (.ptr 1001000 0))),(6,.c (.lit (.ptr 1001001 0))),(8,.c (.lit (.osl 1001002 none))),(9,.c (.int .i64))],[.box true vZ,.box true wD,.arr true zG],[]⟩
def yR3:zF:=⟨[(6,.c (.lit (.ptr 1001000 0)))],[.box true wD],[]⟩
def yMq:zF:=⟨[(6,.c (.lit (.ptr 1001000 0))),(7,.c (.bool))],[.box true wD],[]⟩
def yTv (f:V4)(d:yXh.den):Option Mz:=(kp (vB (f d.1.2.2.2.1.1) d.2.1) d.2.2.1) d.2.2.2.1
def V5:qE:=⟨yXh,[(.exit 0,yR3),(.ret,yMq)],Mz,fun k d=>yTv (Gw k k) d,fun b x _ K=>match x with|.inl x=>K (.exit 0) (zS b yR3 (((),()),((gi x ()),())))|.inr x=>K .ret (zS b yMq (((),(x.1,()),()),((qVf x ()),())))⟩
def vN3:qB:=⟨prog,fun _=>false,qJ [Vt,G6]⟩
def yAm:zY:=⟨[],[(3,V5)],false⟩
theorem yJv:qI vN3:=zN zM ⟨yJ4,My,trivial⟩
theorem vM8:qD prog 1000 0 37 (zX (qC f19) 0) V5:=lp (A:=yAm) V5 (fun d=>match d with|.inl d=>.inl (wI d.2.1)|.inr d=>.inr (d.1.2.1.1,(wI d.2.1))) yTv Gw Cv yJv zK
def qNi:Nat×zH:=zP 19 [.agg iS,.c (.dat true zG),.c (.int .i64)] (.tup [(true,gl),(false,[.bool])]) (fun k d=>(ir (KC k) d)) (fun x=>(LB x ()))
theorem yZ2:zJ prog qNi:=fA (rs:=.tup [(true,gl),(false,[.bool])]) f19 yAm (fun d=>(CX d)) yJv (loops1 vM8)
def qXp:zF:=⟨[(0,.c (.dat false (.int .i64))),(1,.c (.dat false (.int .i64))),(5,.c (.int .i64))],[],[]⟩
def yFm:zF:=⟨[],[],[]⟩
def yUw:zF:=⟨[(4,.c (.bool))],[],[]⟩
def yWx (f:V6)(d:qXp.den):Option (Unit⊕Bool):=f d.1.1.1 d.1.2.1.1 d.1.2.2.1.1
def V7:qE:=⟨qXp,[(.exit 0,yFm),(.ret,yUw)],(Unit⊕Bool),fun k d=>yWx (ER k k) d,fun b x _ K=>match x with|.inl x=>K (.exit 0) (zS b yFm ((),()))|.inr x=>K .ret (zS b yUw (((x,()),()),()))⟩
def vK1:qB:=⟨prog,fun _=>false,qJ []⟩
def qWc:zY:=⟨[],[(4,V7)],false⟩
theorem yBc:qI vK1:=zN zM trivial
theorem vN1:qD prog 1000 0 26 (zX (qC f53) 0) V7:=lp (A:=qWc) V7 (fun d=>match d with|.inl d=>.inl ()|.inr d=>.inr d.1.1.1) yWx ER zo yBc zK
def G7:Nat×zH:=zP 53 [.c (.dat false (.int .i64)),.c (.dat false (.int .i64))] (.c (.bool)) (fun k d=>pK k d.1 d.2.1) (fun x=>(x,()))
theorem V8:zJ prog G7:=fA (rs:=.c (.bool)) f53 qWc (fun d=>d.1) yBc (loops1 vN1)
def yO4:zF:=⟨[(0,.c (.dat false (.sl (.int .i64)))),(1,.c (.dat false (.sl (.int .i64)))),(5,.c (.int .i64))],[],[]⟩
def qYf:zF:=⟨[],[],[]⟩
def yBd:zF:=⟨[(4,.c (.bool))],[],[]⟩
def yM8 (f:Wa)(d:yO4.den):Option (Unit⊕Bool):=f d.1.1.1 d.1.2.1.1 d.1.2.2.1.1
def Wb:qE:=⟨yO4,[(.exit 0,qYf),(.ret,yBd)],(Unit⊕Bool),fun k d=>yM8 (ES k k) d,fun b x _ K=>match x with|.inl x=>K (.exit 0) (zS b qYf ((),()))|.inr x=>K .ret (zS b yBd (((x,()),()),()))⟩
def vK2:qB:=⟨prog,fun _=>false,qJ [G7]⟩
def yTs:zY:=⟨[],[(4,Wb)],false⟩
theorem yGa:qI vK2:=zN zM ⟨V8,trivial⟩
theorem vP0:qD prog 1000 0 27 (zX (qC f54) 0) Wb:=lp (A:=yTs) Wb (fun d=>match d with|.inl d=>.inl ()|.inr d=>.inr d.1.1.1) yM8 ES zp yGa zK
def MA:Nat×zH:=zP 54 [.c (.dat false (.sl (.int .i64))),.c (.dat false (.sl (.int .i64)))] (.c (.bool)) (fun k d=>u9 k d.1 d.2.1) (fun x=>(x,()))
theorem qWl:zJ prog MA:=fA (rs:=.c (.bool)) f54 yTs (fun d=>d.1) yGa (loops1 vP0)
def yAo:zF:=⟨[(2,.c (.lit (.ptr 1001000 0))),(3,.c (.lit (.ptr 1001001 0))),(5,.c (.int .i64))],[.box true jI,.box true jI],[]⟩
def yV7:zF:=⟨[],[],[]⟩
def yIs:zF:=⟨[(4,.c (.bool))],[],[]⟩
def yNm (f:Wc)(d:yAo.den):Option (Unit⊕Bool):=(vB (vB (f d.1.2.2.1.1) d.2.1) d.2.2.1)
def Wd:qE:=⟨yAo,[(.exit 0,yV7),(.ret,yIs)],(Unit⊕Bool),fun k d=>yNm (EU k k) d,fun b x _ K=>match x with|.inl x=>K (.exit 0) (zS b yV7 ((),()))|.inr x=>K .ret (zS b yIs (((x,()),()),()))⟩
def vBo:qB:=⟨prog,fun t=>[46].any (Nat.beq t),qJ [MA,G7]⟩
def yJ1:zY:=⟨[],[(4,Wd)],false⟩
theorem yAv:qI vBo:=yv (l:=[MA,G7]) (eqT:=fun t=>[46].any (Nat.beq t)) (DB (fun t h=>D9 (p:=fun t=>prog.keyTypeAt 8 t&& !prog.eqGuardType prog.depth t) (l:=[46]) (List.forall_mem_cons.2 ⟨by kernel_rfl,List.forall_mem_nil _⟩) t h)) zM ⟨qWl,V8,trivial⟩
theorem vJ5:qD prog 1000 0 55 (zX (qC f52) 0) Wd:=lp (A:=yJ1) Wd (fun d=>match d with|.inl d=>.inl ()|.inr d=>.inr d.1.1.1) yNm EU zq yAv zK
def qYc:Nat×zH:=zP 52 [.agg jD,.agg jD] (.c (.bool)) (fun k d=>(ko (ET k) d)) (fun x=>(x,()))
theorem vPt:zJ prog qYc:=fA (rs:=.c (.bool)) f52 yJ1 (fun d=>d.1) yAv (loops1 vJ5)
def yEv:zF:=⟨[(0,.c (.dat false zG)),(1,.c (.dat false zG)),(5,.c (.int .i64))],[],[]⟩
def yQj:zF:=⟨[],[],[]⟩
def qX6:zF:=⟨[(4,.c (.bool))],[],[]⟩
def yIq (f:We)(d:yEv.den):Option (Unit⊕Bool):=f d.1.1.1 d.1.2.1.1 d.1.2.2.1.1
def Wg:qE:=⟨yEv,[(.exit 0,yQj),(.ret,qX6)],(Unit⊕Bool),fun k d=>yIq (GQ k k) d,fun b x _ K=>match x with|.inl x=>K (.exit 0) (zS b yQj ((),()))|.inr x=>K .ret (zS b qX6 (((x,()),()),()))⟩
def vNd:qB:=⟨prog,fun t=>[52].any (Nat.beq t),qJ []⟩
def yT6:zY:=⟨[],[(4,Wg)],false⟩
theorem yJ9:qI vNd:=yv (l:=[]) (eqT:=fun t=>[52].any (Nat.beq t)) (DB (fun t h=>D9 (p:=fun t=>prog.keyTypeAt 8 t&& !prog.eqGuardType prog.depth t) (l:=[52]) (List.forall_mem_cons.2 ⟨by kernel_rfl,List.forall_mem_nil _⟩) t h)) zM trivial
theorem vO4:qD prog 1000 0 26 (zX (qC f55) 0) Wg:=lp (A:=yT6) Wg (fun d=>match d with|.inl d=>.inl ()|.inr d=>.inr d.1.1.1) yIq GQ CQ yJ9 zK
def yFw:Nat×zH:=zP 55 [.c (.dat false zG),.c (.dat false zG)] (.c (.bool)) (fun k d=>GP k d.1 d.2.1) (fun x=>(x,()))
theorem vPj:zJ prog yFw:=fA (rs:=.c (.bool)) f55 yT6 (fun d=>d.1) yJ9 (loops1 vO4)
def qPx:Nat×zH:=zP 21 [.agg oL,.agg oL] (.c (.bool)) (fun k d=>KX k (yD d) (vQ3 d)) (fun x=>(x,()))
theorem vEl:zJ prog qPx:=fA (rs:=.c (.bool)) f21 ⟨[],[],true⟩ (fun d=>d.1) (zN (l:=[qYc,G7,MA,yFw]) zM ⟨vPt,V8,qWl,vPj,trivial⟩) zK
def yF4:zF:=⟨[(0,.c (.int .i64)),(1,.c (.int .i64)),(5,.c (.lit (.osl 1001000 none))),(6,.c (.int .i64))],[.arr true (.int .i64)],[]⟩
def yN6:zF:=⟨[(5,.c (.lit (.osl 1001000 none)))],[.arr true (.int .i64)],[]⟩
def yWv (f:Wh)(d:yF4.den):Option (List Int):=f d.1.1.1 d.1.2.1.1 d.1.2.2.2.1.1 d.2.1
def Wi:qE:=⟨yF4,[(.exit 0,yN6)],(List Int),fun k d=>yWv (MB k k) d,fun b x _ K=>K (.exit 0) (zS b yN6 (((),()),(x,())))⟩
def vPy:qB:=⟨prog,fun _=>false,qJ []⟩
def yC4:zY:=⟨[],[(5,Wi)],false⟩
theorem yB6:qI vPy:=zN zM trivial
theorem vCq:qD prog 1000 0 25 (zX (qC f57) 0) Wi:=lp (A:=yC4) Wi (fun d=>d.2.1) yWv MB yWn yB6 zK
def Wj:Nat×zH:=zP 57 [.c (.int .i64),.c (.int .i64)] (.c (.own (.int .i64))) (fun k d=>Wk k d.1 d.2.1) (fun x=>(x,()))
theorem yIg:zJ prog Wj:=fA (rs:=.c (.own (.int .i64))) f57 yC4 (fun d=>d.1) yB6 (loops1 vCq)
def yB5:zF:=⟨[(0,.c (.int .i64)),(1,.c (.int .i64)),(5,.c (.lit (.osl 1001000 none))),(6,.c (.int .i64))],[.mat],[(5,none,(.sl (.int .i64)),true)]⟩
def yTa:zF:=⟨[(5,.c (.lit (.osl 1001000 none)))],[.mat],[]⟩
def yKw (f:Wl)(d:yB5.den):Option (List (List Int)):=f d.1.1.1 d.1.2.1.1 d.1.2.2.2.1.1 d.2.1
def Wm:qE:=⟨yB5,[(.exit 0,yTa)],(List (List Int)),fun k d=>yKw (MC k k) d,fun b x _ K=>K (.exit 0) (zS b yTa (((),()),(x,())))⟩
def vC7:qB:=⟨prog,fun _=>false,qJ [Wj]⟩
def yNk:zY:=⟨[22,23],[(5,Wm)],false⟩
theorem yRu:qI vC7:=zN zM ⟨yIg,trivial⟩
theorem vPb:qD prog 1000 0 25 (zX (qC f56) 0) Wm:=lp (A:=yNk) Wm (fun d=>d.2.1) yKw MC qV7 yRu zK
def qIs:Nat×zH:=zP 56 [.c (.int .i64),.c (.int .i64)] (.c (.mat)) (fun k d=>Wn k d.1 d.2.1) (fun x=>(x,()))
theorem yZo:zJ prog qIs:=fA (rs:=.c (.mat)) f56 yNk (fun d=>d.1) yRu (loops1 vPb)
def yJx:zF:=⟨[(1,.c (.lit (.ptr 1001000 0))),(2,.c (.lit (.ptr 1001001 0))),(3,.c (.int .i64)),(4,.c (.lit (.ptr 1001002 0))),(5,.c (.int .i64))],[.box true nF,.box true gk,.box true K4,.arr true yH,.mat,.arr true (.int .i64),.mat,.arr true (.int .i64)],[(4,some 5,(.int .i64),false)]⟩
def yI0:zF:=⟨[(1,.c (.lit (.ptr 1001000 0))),(2,.c (.lit (.ptr 1001001 0))),(3,.c (.int .i64)),(4,.c (.lit (.ptr 1001002 0)))],[.box true nF,.box true gk,.box true K4,.arr true yH,.mat,.arr true (.int .i64),.mat,.arr true (.int .i64)],[]⟩
def yK0 (f:Wo)(d:yJx.den):Option MD:=f d.1.2.2.1.1 d.1.2.2.2.2.1.1 (vC d.2.1) (d.2.2.1.1,d.2.2.1.2.1,d.2.2.1.2.2.1) (d.2.2.2.1.1,d.2.2.2.1.2.1,d.2.2.2.1.2.2.1) d.2.2.2.2.1 d.2.2.2.2.2.1 d.2.2.2.2.2.2.1 d.2.2.2.2.2.2.2.1 d.2.2.2.2.2.2.2.2.1
def ME:qE:=⟨yJx,[(.exit 0,yI0)],MD,fun k d=>yK0 (Wp k k) d,fun b x _ K=>K (.exit 0) (zS b yI0 (((),(),(x.1,()),(),()),((gj x.2.1 ()),(x.2.2.1.1,x.2.2.1.2.1,x.2.2.1.2.2,()),(x.2.2.2.1.1,x.2.2.2.1.2.1,x.2.2.2.1.2.2,()),x.2.2.2.2.1,x.2.2.2.2.2.1,x.2.2.2.2.2.2.1,x.2.2.2.2.2.2.2.1,x.2.2.2.2.2.2.2.2,())))⟩
def yKk:zF:=⟨[(1,.c (.lit (.ptr 1001000 0))),(2,.c (.lit (.ptr 1001001 0))),(3,.c (.int .i64)),(4,.c (.lit (.ptr 1001002 0))),(6,.c (.int .i64))],[.box true nF,.box true gk,.box true yO3,.arr true yH,.mat,.arr true (.int .i64),.mat,.arr true (.int .i64),.mat],[(4,some 6,(.sl (.int .i64)),true)]⟩
def yDk:zF:=⟨[(2,.c (.lit (.ptr 1001000 0))),(4,.c (.lit (.ptr 1001001 0)))],[.box true gk,.box true yAu,.arr true yH,.mat,.arr true (.int .i64),.mat,.arr true (.int .i64),.mat],[]⟩
def yK2 (f:Wq)(d:yKk.den):Option MF:=f d.1.2.2.1.1 d.1.2.2.2.2.1.1 (vC d.2.1) (d.2.2.1.1,d.2.2.1.2.1,d.2.2.1.2.2.1) (d.2.2.2.1.1,d.2.2.2.1.2.1,d.2.2.2.1.2.2.1) d.2.2.2.2.1 d.2.2.2.2.2.1 d.2.2.2.2.2.2.1 d.2.2.2.2.2.2.2.1 d.2.2.2.2.2.2.2.2.1 d.2.2.2.2.2.2.2.2.2.1
def MG:qE:=⟨yKk,[(.exit 2,yDk)],MF,fun k d=>yK2 (Wr k k) d,fun b x _ K=>K (.exit 2) (zS b yDk (((),(),()),((x.1.1,x.1.2.1,x.1.2.2,()),(x.2.1.1,x.2.1.2.1,x.2.1.2.2,()),x.2.2.1,x.2.2.2.1,x.2.2.2.2.1,x.2.2.2.2.2.1,x.2.2.2.2.2.2.1,x.2.2.2.2.2.2.2,())))⟩
def vB9:qB:=⟨prog,fun _=>false,qJ [qIs,Wj]⟩
def Ws:zY:=⟨[48,49],[(4,ME),(8,MG)],true⟩
theorem Wt:qI vB9:=zN zM ⟨yZo,yIg,trivial⟩
theorem vCh:qD prog 1000 0 52 (zX (qC f23) 0) ME:=lp (A:=Ws) ME (fun d=>(d.1.2.2.1.1,(vC d.2.1),(d.2.2.1.1,d.2.2.1.2.1,d.2.2.1.2.2.1),(d.2.2.2.1.1,d.2.2.2.1.2.1,d.2.2.2.1.2.2.1),d.2.2.2.2.1,d.2.2.2.2.2.1,d.2.2.2.2.2.2.1,d.2.2.2.2.2.2.2.1,d.2.2.2.2.2.2.2.2.1)) yK0 Wp qY3 Wt zK
theorem vE8:qD prog 1000 0 52 (zX (qC f23) 1) MG:=lp (A:=Ws) MG (fun d=>((d.2.1.1,d.2.1.2.1,d.2.1.2.2.1),(d.2.2.1.1,d.2.2.1.2.1,d.2.2.1.2.2.1),d.2.2.2.1,d.2.2.2.2.1,d.2.2.2.2.2.1,d.2.2.2.2.2.2.1,d.2.2.2.2.2.2.2.1,d.2.2.2.2.2.2.2.2.1)) yK2 Wr qYy Wt zK
def qSn:Nat×zH:=zP 23 [.agg iR] (.agg K9) (fun k d=>R3 k (vC d)) (fun x=>(fz x ()))
theorem vPd:zJ prog qSn:=fA (rs:=.agg K9) f23 Ws (fun d=>(yD d)) Wt (oc (n:=2) (by kernel_rfl) fun i hi=>match i,hi with|0,_=>⟨ME,by kernel_rfl,vCh⟩|1,_=>⟨MG,by kernel_rfl,vE8⟩|i+2,hi=>absurd hi (by omega))
def yQa:Nat×zH:=zP 100 [.c (.int .i64)] (.c (.bool)) (fun k d=>KM k d.1) (fun x=>(x,()))
theorem vGd:zJ prog yQa:=fA (rs:=.c (.bool)) f100 ⟨[],[],true⟩ (fun d=>d.1) (zN (l:=[]) zM trivial) zK
def qKu:Nat×zH:=zP 174 [.c (.int .i64)] (.c (.int .i64)) (fun k d=>R0 k d.1) (fun x=>(x,()))
theorem vNh:zJ prog qKu:=fA (rs:=.c (.int .i64)) f174 ⟨[],[],true⟩ (fun d=>d.1) (zN (l:=[]) zM trivial) zK
def yDz:zF:=⟨[(1,.c (.lit (.ptr 1001000 0))),(3,.c (.int .i64)),(4,.c (.int .i64))],[.box true wD],[]⟩
def qZc:zF:=⟨[(3,.c (.int .i64))],[],[]⟩
def yK9:zF:=⟨[(2,.c (.bool))],[],[]⟩
def yJj (f:Wu)(d:yDz.den):Option (Int⊕Bool):=f d.1.2.1.1 d.1.2.2.1.1 (wI d.2.1)
def Wv:qE:=⟨yDz,[(.exit 0,qZc),(.ret,yK9)],(Int⊕Bool),fun k d=>yJj (CN k k) d,fun b x _ K=>match x with|.inl x=>K (.exit 0) (zS b qZc (((x,()),()),()))|.inr x=>K .ret (zS b yK9 (((x,()),()),()))⟩
def vS6:qB:=⟨prog,fun _=>false,qJ [qKu]⟩
def yQw:zY:=⟨[],[(3,Wv)],true⟩
theorem yP5:qI vS6:=zN zM ⟨vNh,trivial⟩
theorem vLg:qD prog 1000 0 21 (zX (qC f101) 0) Wv:=lp (A:=yQw) Wv (fun d=>match d with|.inl d=>.inl d.1.1.1|.inr d=>.inr d.1.1.1) yJj CN RZ yP5 zK
def ySs:Nat×zH:=zP 101 [.agg vI] (.c (.bool)) (fun k d=>CO k (wI d)) (fun x=>(x,()))
theorem vQl:zJ prog ySs:=fA (rs:=.c (.bool)) f101 yQw (fun d=>d.1) yP5 (loops1 vLg)
def yU9:Nat×zH:=zP 102 [.c (.int .i64)] (.c (.bool)) (fun k d=>KN k d.1) (fun x=>(x,()))
theorem vG3:zJ prog yU9:=fA (rs:=.c (.bool)) f102 ⟨[],[],true⟩ (fun d=>d.1) (zN (l:=[]) zM trivial) zK
def yBr:Nat×zH:=zP 58 [.agg iR,.agg GW] (.c (.bool)) (fun k d=>xc k (vC d) (vKj d)) (fun x=>(x,()))
theorem vLp:zJ prog yBr:=fA (rs:=.c (.bool)) f58 ⟨[],[],true⟩ (fun d=>d.1) (zN (l:=[yQa,ySs,yU9]) zM ⟨vGd,vQl,vG3,trivial⟩) zK
def qQh:Nat×zH:=zP 103 [.agg iR,.c (.int .i64)] (.c (.bool)) (fun k d=>KJ k (vC d) d.2.2.2.2.2.1) (fun x=>(x,()))
theorem vH1:zJ prog qQh:=fA (rs:=.c (.bool)) f103 ⟨[],[],true⟩ (fun d=>d.1) (zN (l:=[]) zM trivial) zK
def qRt:Nat×zH:=zP 104 [.agg vI,.c (.int .i64)] (.c (.bool)) (fun k d=>(ko (RT k) d)) (fun x=>(x,()))
theorem vCs:zJ prog qRt:=fA (rs:=.c (.bool)) f104 ⟨[],[],false⟩ (fun d=>d.1) (zN (l:=[]) zM trivial) zK
def qY0:zF:=⟨[(0,.c (.dat false zG)),(1,.c (.int .i64)),(5,.c (.int .i64))],[],[]⟩
def qYb:zF:=⟨[],[],[]⟩
def yRn:zF:=⟨[(4,.c (.int .i64))],[],[]⟩
def yFi (f:Ww)(d:qY0.den):Option (Unit⊕Int):=f d.1.1.1 d.1.2.1.1 d.1.2.2.1.1
def Wx:qE:=⟨qY0,[(.exit 0,qYb),(.ret,yRn)],(Unit⊕Int),fun k d=>yFi (AO k k) d,fun b x _ K=>match x with|.inl x=>K (.exit 0) (zS b qYb ((),()))|.inr x=>K .ret (zS b yRn (((x,()),()),()))⟩
def vHz:qB:=⟨prog,fun _=>false,qJ []⟩
def yJf:zY:=⟨[],[(2,Wx)],false⟩
theorem yHx:qI vHz:=zN zM trivial
theorem yYg:qD prog 1000 0 20 (zX (qC f63) 0) Wx:=lp (A:=yJf) Wx (fun d=>match d with|.inl d=>.inl ()|.inr d=>.inr d.1.1.1) yFi AO AP yHx zK
def G8:Nat×zH:=zP 63 [.c (.dat false zG),.c (.int .i64)] (.c (.int .i64)) (fun k d=>kO k d.1 d.2.1) (fun x=>(x,()))
theorem MH:zJ prog G8:=fA (rs:=.c (.int .i64)) f63 yJf (fun d=>d.1) yHx (loops1 yYg)
def qx:Nat×zH:=zP 105 [.c (.dat true zG),.c (.int .i64)] (.tup [(false,vE),(true,gl),(false,qX)]) (fun k d=>lM k d.1 d.2.1) (fun x=>(Ll x ()))
theorem tH:zJ prog qx:=fA (rs:=.tup [(false,vE),(true,gl),(false,qX)]) f105 ⟨[],[],false⟩ (fun d=>(Lm d)) (zN (l:=[G8]) zM ⟨MH,trivial⟩) zK
def qO4:Nat×zH:=zP 106 [.agg iR,.c (.int .i64)] (.c (.bool)) (fun k d=>GJ k (vC d) d.2.2.2.2.2.1) (fun x=>(x,()))
theorem vDz:zJ prog qO4:=fA (rs:=.c (.bool)) f106 ⟨[],[],true⟩ (fun d=>d.1) (zN (l:=[]) zM trivial) zK
def yVs:zF:=⟨[(1,.c (.dat true zG)),(2,.c (.int .i64)),(3,.c (.lit (.ptr 1001000 0))),(6,.c (.lit (.ptr 1001001 0))),(9,.c (.lit (.osl 1001002 none)))],[.box true vZ,.box true lP,.arr true zG],[(9,none,zG,false)]⟩
def yQf:zF:=⟨[(6,.c (.lit (.ptr 1001000 0))),(7,.c (.dat true zG)),(8,.c (.lit (.osl 1001001 none)))],[.box true vZ,.arr true zG],[]⟩
def yT8 (f:Wy)(d:yVs.den):Option MI:=(vB (f d.1.1.1 d.1.2.1.1) d.2.1) d.2.2.2.1
def Wz:qE:=⟨yVs,[(.ret,yQf)],MI,fun k d=>yT8 (Gx k k) d,fun b x _ K=>K .ret (zS b yQf (((),(x.1,()),(),()),((gm x ()),x.2.2.2.2.2,())))⟩
def yYk:qB:=⟨prog,fun _=>false,qJ [qNi,G6,qx]⟩
def yMc:zY:=⟨[],[(2,Wz)],false⟩
theorem yH1:qI yYk:=zN zM ⟨yZ2,My,tH,trivial⟩
theorem yYb:qD prog 1000 0 43 (zX (qC f223) 0) Wz:=lp (A:=yMc) Wz (fun d=>(d.1.2.1.1,(vO d.2.1 d.2.2.1))) yT8 Gx Cw yH1 zK
def qU3:Nat×zH:=zP 223 [.agg iS,.c (.dat true zG),.c (.int .i64)] (.tup [(true,wU),(false,vE),(false,[.own zG])]) (fun k d=>(ir (KD k) d)) (fun x=>(lQ x ()))
theorem vMd:zJ prog qU3:=fA (rs:=.tup [(true,wU),(false,vE),(false,[.own zG])]) f223 yMc (fun d=>(kW d)) yH1 (loops1 yYb)
def yBt:zF:=⟨[(3,.c (.lit (.ptr 1001000 0))),(6,.c (.lit (.ptr 1001001 0))),(7,.c (.lit (.ptr 1001002 0))),(9,.c (.lit (.osl 1001003 none))),(10,.c (.int .i64)),(11,.c (.int .i64))],[.box true vZ,.box true wD,.box true wD,.arr true zG],[]⟩
def yEf:zF:=⟨[(3,.c (.lit (.ptr 1001000 0))),(6,.c (.lit (.ptr 1001001 0))),(7,.c (.lit (.ptr 1001002 0))),(9,.c (.lit (.osl 1001003 none))),(10,.c (.int .i64))],[.box true vZ,.box true wD,.box true wD,.arr true zG],[]⟩
def yKc:zF:=⟨[(6,.c (.lit (.ptr 1001000 0))),(7,.c (.lit (.ptr 1001001 0))),(8,.c (.bool))],[.box true wD,.box true wD],[]⟩
def yWa (f:WA)(d:yBt.den):Option MJ:=(kp (kp (vB (f d.1.2.2.2.2.1.1 d.1.2.2.2.2.2.1.1) d.2.1) d.2.2.1) d.2.2.2.1) d.2.2.2.2.1
def WB:qE:=⟨yBt,[(.exit 2,yEf),(.ret,yKc)],MJ,fun k d=>yWa (Gz k k) d,fun b x _ K=>match x with|.inl x=>K (.exit 2) (zS b yEf (((),(),(),(),(x.1,()),()),((gm x ()),(vCx x ()),(vHb x ()),x.2.2.2.2.2.2.2.2.2.2.2.2.2.2.2.2.2.2.2,())))|.inr x=>K .ret (zS b yKc (((),(),(x.1,()),()),((Uz x ()),(yNq x ()),())))⟩
def yF0:zF:=⟨[(3,.c (.lit (.ptr 1001000 0))),(6,.c (.lit (.ptr 1001001 0))),(7,.c (.lit (.ptr 1001002 0))),(9,.c (.lit (.osl 1001003 none))),(10,.c (.int .i64))],[.box true vZ,.box true wD,.box true wD,.arr true zG],[]⟩
def yJh:zF:=⟨[(6,.c (.lit (.ptr 1001000 0))),(7,.c (.lit (.ptr 1001001 0)))],[.box true wD,.box true wD],[]⟩
def qW8:zF:=⟨[(6,.c (.lit (.ptr 1001000 0))),(7,.c (.lit (.ptr 1001001 0))),(8,.c (.bool))],[.box true wD,.box true wD],[]⟩
def yWp (f:WC)(d:yF0.den):Option MK:=(kp (kp (vB (f d.1.2.2.2.2.1.1) d.2.1) d.2.2.1) d.2.2.2.1) d.2.2.2.2.1
def WD:qE:=⟨yF0,[(.exit 0,yJh),(.ret,qW8)],MK,fun k d=>yWp (GA k k) d,fun b x _ K=>match x with|.inl x=>K (.exit 0) (zS b yJh (((),(),()),((im x ()),(yF2 x ()),())))|.inr x=>K .ret (zS b qW8 (((),(),(x.1,()),()),((Uz x ()),(yNq x ()),())))⟩
def vF9:qB:=⟨prog,fun _=>false,qJ [Vt,G6]⟩
def WE:zY:=⟨[],[(6,WB),(3,WD)],false⟩
theorem WG:qI vF9:=zN zM ⟨yJ4,My,trivial⟩
theorem vGy:qD prog 1000 0 71 (zX (zX (qC f253) 0) 0) WB:=lp (A:=WE) WB (fun d=>match d with|.inl d=>.inl (d.1.2.2.2.2.1.1,(vO d.2.1 (im d.2.2.1 (im d.2.2.2.1 d.2.2.2.2.1))))|.inr d=>.inr (d.1.2.2.1.1,(im d.2.1 (wI d.2.2.1)))) yWa Gz Cx WG zK
theorem vQ7:qD prog 1000 0 71 (zX (qC f253) 0) WD:=lp (A:=WE) WD (fun d=>match d with|.inl d=>.inl (im d.2.1 (wI d.2.2.1))|.inr d=>.inr (d.1.2.2.1.1,(im d.2.1 (wI d.2.2.1)))) yWp GA Cy WG (loops1 vGy)
def qOs:Nat×zH:=zP 253 [.agg iS,.c (.dat true zG),.c (.int .i64)] (.tup [(true,gl),(true,gl),(false,[.bool])]) (fun k d=>(ir (KE k) d)) (fun x=>(yWz x ()))
theorem vSi:zJ prog qOs:=fA (rs:=.tup [(true,gl),(true,gl),(false,[.bool])]) f253 WE (fun d=>(qYi d)) WG (loops1 vQ7)
def yP1:zF:=⟨[(1,.c (.dat true zG)),(2,.c (.int .i64)),(3,.c (.lit (.ptr 1001000 0))),(6,.c (.lit (.ptr 1001001 0))),(9,.c (.lit (.osl 1001002 none)))],[.box true vZ,.box true lP,.arr true zG],[(9,none,zG,false)]⟩
def yVo:zF:=⟨[(6,.c (.lit (.ptr 1001000 0))),(7,.c (.dat true zG)),(8,.c (.lit (.osl 1001001 none)))],[.box true vZ,.arr true zG],[]⟩
def yOi (f:WH)(d:yP1.den):Option ML:=(vB (f d.1.1.1 d.1.2.1.1) d.2.1) d.2.2.2.1
def WI:qE:=⟨yP1,[(.ret,yVo)],ML,fun k d=>yOi (GB k k) d,fun b x _ K=>K .ret (zS b yVo (((),(x.1,()),(),()),((gm x ()),x.2.2.2.2.2,())))⟩
def vKt:qB:=⟨prog,fun _=>false,qJ [qOs,G6,qx]⟩
def qZg:zY:=⟨[],[(2,WI)],false⟩
theorem yPu:qI vKt:=zN zM ⟨vSi,My,tH,trivial⟩
theorem vMy:qD prog 1000 0 55 (zX (qC f224) 0) WI:=lp (A:=qZg) WI (fun d=>(d.1.2.1.1,(vO d.2.1 d.2.2.1))) yOi GB Cz yPu zK
def qN3:Nat×zH:=zP 224 [.agg iS,.c (.dat true zG),.c (.int .i64)] (.tup [(true,wU),(false,vE),(false,[.own zG])]) (fun k d=>(ir (KF k) d)) (fun x=>(lQ x ()))
theorem yXp:zJ prog qN3:=fA (rs:=.tup [(true,wU),(false,vE),(false,[.own zG])]) f224 qZg (fun d=>(kW d)) yPu (loops1 vMy)
def yK3:zF:=⟨[(1,.c (.dat true zG)),(2,.c (.int .i64)),(3,.c (.lit (.ptr 1001000 0))),(6,.c (.lit (.ptr 1001001 0))),(9,.c (.lit (.osl 1001002 none)))],[.box true vZ,.box true lP,.arr true zG],[(9,none,zG,false)]⟩
def yCx:zF:=⟨[(6,.c (.lit (.ptr 1001000 0))),(7,.c (.dat true zG)),(8,.c (.lit (.osl 1001001 none)))],[.box true vZ,.arr true zG],[]⟩
def yBq (f:WJ)(d:yK3.den):Option MM:=(vB (f d.1.1.1 d.1.2.1.1) d.2.1) d.2.2.2.1
def WK:qE:=⟨yK3,[(.ret,yCx)],MM,fun k d=>yBq (GG k k) d,fun b x _ K=>K .ret (zS b yCx (((),(x.1,()),(),()),((gm x ()),x.2.2.2.2.2,())))⟩
def vI5:qB:=⟨prog,fun _=>false,qJ [qU3,qN3]⟩
def qYe:zY:=⟨[],[(2,WK)],false⟩
theorem yEp:qI vI5:=zN zM ⟨vMd,yXp,trivial⟩
theorem vNn:qD prog 1000 0 45 (zX (qC f186) 0) WK:=lp (A:=qYe) WK (fun d=>(d.1.2.1.1,(vO d.2.1 d.2.2.1))) yBq GG CI yEp zK
def yQc:Nat×zH:=zP 186 [.agg iS,.c (.dat true zG),.c (.int .i64)] (.tup [(true,wU),(false,vE),(false,[.own zG])]) (fun k d=>(ir (GH k) d)) (fun x=>(lQ x ()))
theorem vMq:zJ prog yQc:=fA (rs:=.tup [(true,wU),(false,vE),(false,[.own zG])]) f186 qYe (fun d=>(kW d)) yEp (loops1 vNn)
def yAt:zF:=⟨[(0,.c (.dat false zG)),(1,.c (.dat false (.int .i64))),(5,.c (.lit (.osl 1001000 none))),(6,.c (.int .i64))],[.arr true zG],[(5,none,zG,false)]⟩
def yDy:zF:=⟨[(5,.c (.lit (.osl 1001000 none)))],[.arr true zG],[]⟩
def yQe (f:WL)(d:yAt.den):Option MN:=f d.1.1.1 d.1.2.1.1 d.1.2.2.2.1.1 d.2.1
def WM:qE:=⟨yAt,[(.exit 0,yDy)],MN,fun k d=>yQe (CB k k) d,fun b x _ K=>K (.exit 0) (zS b yDy (((),()),(x,())))⟩
def vO7:qB:=⟨prog,fun _=>false,qJ [C4]⟩
def yEw:zY:=⟨[],[(3,WM)],false⟩
theorem yFr:qI vO7:=zN zM ⟨Mq,trivial⟩
theorem yYc:qD prog 1000 0 60 (zX (qC f226) 0) WM:=lp (A:=yEw) WM (fun d=>d.2.1) yQe CB CC yFr zK
def WN:Nat×zH:=zP 226 [.c (.dat false zG),.c (.dat false (.int .i64))] (.c (.own zG)) (fun k d=>CA k d.1 d.2.1) (fun x=>(x,()))
theorem yHo:zJ prog WN:=fA (rs:=.c (.own zG)) f226 yEw (fun d=>d.1) yFr (loops1 yYc)
def yCz:zF:=⟨[(3,.c (.lit (.ptr 1001000 0))),(8,.c (.lit (.osl 1001001 none))),(9,.c (.lit (.osl 1001002 none))),(10,.c (.int .i64))],[.box true jI,.arr true zG,.arr true (.int .i64)],[(9,none,(.int .i64),false)]⟩
def yAy:zF:=⟨[(3,.c (.lit (.ptr 1001000 0))),(8,.c (.lit (.osl 1001001 none))),(9,.c (.lit (.osl 1001002 none)))],[.box true jI,.arr true zG,.arr true (.int .i64)],[]⟩
def yEh (f:WO)(d:yCz.den):Option MO:=(vB (f d.1.2.2.2.1.1) d.2.1) d.2.2.1 d.2.2.2.1
def MP:qE:=⟨yCz,[(.exit 0,yAy)],MO,fun k d=>yEh (w9 k k) d,fun b x _ K=>K (.exit 0) (zS b yAy (((),(),(),()),((vO x ()),x.2.2.2.2.1,x.2.2.2.2.2,())))⟩
def ySf:zF:=⟨[(3,.c (.lit (.ptr 1001000 0))),(8,.c (.lit (.osl 1001001 none))),(9,.c (.lit (.osl 1001002 none))),(11,.c (.int .i64)),(12,.c (.lit (.osl 1001003 none))),(13,.c (.int .i64))],[.box true jI,.arr true zG,.arr true (.int .i64),.arr true (.int .i64)],[]⟩
def yKj:zF:=⟨[(3,.c (.lit (.ptr 1001000 0))),(8,.c (.lit (.osl 1001001 none))),(9,.c (.lit (.osl 1001002 none))),(11,.c (.int .i64))],[.box true jI,.arr true zG,.arr true (.int .i64)],[]⟩
def yQ4 (f:WQ)(d:ySf.den):Option MQ:=(vB (f d.1.2.2.2.1.1 d.1.2.2.2.2.2.1.1) d.2.1) d.2.2.1 d.2.2.2.1 d.2.2.2.2.1
def WR:qE:=⟨ySf,[(.exit 4,yKj)],MQ,fun k d=>yQ4 (CE k k) d,fun b x _ K=>K (.exit 4) (zS b yKj (((),(),(),(x.1,()),()),((gm x ()),x.2.2.2.2.2.1,x.2.2.2.2.2.2,())))⟩
def qVk:zF:=⟨[(3,.c (.lit (.ptr 1001000 0))),(8,.c (.lit (.osl 1001001 none))),(9,.c (.lit (.osl 1001002 none))),(11,.c (.int .i64))],[.box true jI,.arr true zG,.arr true (.int .i64)],[]⟩
def yDo:zF:=⟨[(6,.c (.lit (.osl 1001000 none))),(7,.c (.int .i64))],[.arr true (.int .i64)],[]⟩
def ySj (f:WS)(d:qVk.den):Option (Int×(List Int)):=(vB (f d.1.2.2.2.1.1) d.2.1) d.2.2.1 d.2.2.2.1
def MR:qE:=⟨qVk,[(.ret,yDo)],(Int×(List Int)),fun k d=>ySj (GC k k) d,fun b x _ K=>K .ret (zS b yDo (((),(x.1,()),()),(x.2,())))⟩
def vRt:qB:=⟨prog,fun _=>false,qJ [G4,C4,WN,V3]⟩
def MS:zY:=⟨[],[(4,MP),(13,WR),(9,MR)],false⟩
theorem MU:qI vRt:=zN zM ⟨qOp,Mq,yHo,yS5,trivial⟩
theorem yZn:qD prog 1000 0 58 (zX (qC f225) 0) MP:=lp (A:=MS) MP (fun d=>(vO d.2.1 (d.2.2.1,d.2.2.2.1))) yEh w9 CD MU zK
theorem yY0:qD prog 1000 0 58 (zX (zX (qC f225) 1) 0) WR:=lp (A:=MS) WR (fun d=>(d.1.2.2.2.1.1,(vO d.2.1 (d.2.2.1,d.2.2.2.1)))) yQ4 CE CF MU zK
theorem vRq:qD prog 1000 0 58 (zX (qC f225) 1) MR:=lp (A:=MS) MR (fun d=>(d.1.2.1.1,d.2.1)) ySj GC CG MU (loops1 yY0)
def qIt:Nat×zH:=zP 225 [.agg jD,.c (.dat false zG),.c (.int .i64)] (.tup [(false,[.own (.int .i64)]),(false,qX)]) (fun k d=>(ir (KG k) d)) (fun x=>(x.1,x.2,()))
theorem vNm:zJ prog qIt:=fA (rs:=.tup [(false,[.own (.int .i64)]),(false,qX)]) f225 MS (fun d=>(d.1,d.2.1)) MU (oc (n:=2) (by kernel_rfl) fun i hi=>match i,hi with|0,_=>⟨MP,by kernel_rfl,yZn⟩|1,_=>⟨MR,by kernel_rfl,vRq⟩|i+2,hi=>absurd hi (by omega))
def yV9:zF:=⟨[(1,.c (.dat true zG)),(6,.c (.lit (.ptr 1001000 0))),(11,.c (.lit (.osl 1001001 none))),(12,.c (.lit (.ptr 1001002 0))),(14,.c (.int .i64))],[.box true lP,.arr true zG,.box true vZ],[]⟩
def yA4:zF:=⟨[(1,.c (.dat true zG)),(6,.c (.lit (.ptr 1001000 0))),(11,.c (.lit (.osl 1001001 none))),(12,.c (.lit (.ptr 1001002 0)))],[.box true lP,.arr true zG,.box true vZ],[]⟩
def yJt (f:WT)(d:yV9.den):Option MV:=(vB (f d.1.1.1 d.1.2.2.2.2.1.1 d.2.2.1) d.2.2.2.1)
def WU:qE:=⟨yV9,[(.exit 0,yA4)],MV,fun k d=>yJt (xa k k) d,fun b x _ K=>K (.exit 0) (zS b yA4 (((x.1,()),(),(),(),()),((),x.2.1,(wi x ()),())))⟩
def vDv:qB:=⟨prog,fun _=>false,qJ [qIt,G4,WN,VW,qx]⟩
def yCj:zY:=⟨[],[(7,WU)],false⟩
theorem yLo:qI vDv:=zN zM ⟨vNm,qOp,yHo,yFd,tH,trivial⟩
theorem vSj:qD prog 1000 0 57 (zX (qC f187) 0) WU:=lp (A:=yCj) WU (fun d=>(d.1.1.1,d.2.2.1,(qw d.2.2.2.1))) yJt xa CH yLo zK
def qVb:Nat×zH:=zP 187 [.agg iS,.c (.dat true zG),.c (.int .i64)] (.tup [(true,wU),(false,vE),(false,[.own zG])]) (fun k d=>(ir (GD k) d)) (fun x=>(lQ x ()))
theorem vRd:zJ prog qVb:=fA (rs:=.tup [(true,wU),(false,vE),(false,[.own zG])]) f187 yCj (fun d=>(kW d)) yLo (loops1 vSj)
def yNi:Nat×zH:=zP 113 [.agg iS,.c (.dat true zG),.c (.int .i64),.c (.bool)] (.tup [(true,wU),(false,vE),(false,[.own zG])]) (fun k d=>(kp (KH k) d)) (fun x=>(lQ x ()))
theorem vPm:zJ prog yNi:=fA (rs:=.tup [(true,wU),(false,vE),(false,[.own zG])]) f113 ⟨[],[],false⟩ (fun d=>(kW d)) (zN (l:=[yQc,qVb]) zM ⟨vMq,vRd,trivial⟩) zK
def yDq:zF:=⟨[(0,.c (.dat false zG)),(3,.c (.lit (.osl 1001000 none))),(4,.c (.int .i64))],[.arr true yA],[(3,none,yA,false)]⟩
def yIw:zF:=⟨[(3,.c (.lit (.osl 1001000 none)))],[.arr true yA],[]⟩
def yR2 (f:WV)(d:yDq.den):Option MW:=f d.1.1.1 d.1.2.2.1.1 d.2.1
def WW:qE:=⟨yDq,[(.exit 0,yIw)],MW,fun k d=>yR2 (BG k k) d,fun b x _ K=>K (.exit 0) (zS b yIw (((),()),(x,())))⟩
def vQh:qB:=⟨prog,fun _=>false,qJ [xl]⟩
def yBx:zY:=⟨[],[(3,WW)],false⟩
theorem qYa:qI vQh:=zN zM ⟨C3,trivial⟩
theorem vEb:qD prog 1000 0 39 (zX (qC f114) 0) WW:=lp (A:=yBx) WW (fun d=>d.2.1) yR2 BG BH qYa zK
def yTq:Nat×zH:=zP 114 [.c (.dat false zG)] (.c (.own yA)) (fun k d=>JY k d.1) (fun x=>(x,()))
theorem yX8:zJ prog yTq:=fA (rs:=.c (.own yA)) f114 yBx (fun d=>d.1) qYa (loops1 vEb)
def WX:Nat×zH:=zP 62 [.agg tF,.c (.bool)] (.tup [(true,kX),(false,[.own yA])]) (fun k d=>(GV (lN k) d)) (fun x=>(CY x ()))
theorem yA3:zJ prog WX:=fA (rs:=.tup [(true,kX),(false,[.own yA])]) f62 ⟨[],[],false⟩ (fun d=>(CZ d)) (zN (l:=[yNi,yTq]) zM ⟨vPm,yX8,trivial⟩) zK
def yVv:zF:=⟨[(3,.c (.lit (.ptr 1001000 0))),(4,.c (.lit (.ptr 1001001 0))),(6,.c (.lit (.osl 1001002 none))),(7,.c (.dat true zG)),(8,.c (.int .i64))],[.box true kn,.box true gk,.arr true yA],[(6,none,yA,false)]⟩
def yOj:zF:=⟨[(3,.c (.lit (.ptr 1001000 0))),(4,.c (.lit (.ptr 1001001 0))),(6,.c (.lit (.osl 1001002 none)))],[.box true kn,.box true gk,.arr true yA],[]⟩
def qZk (f:WY)(d:yVv.den):Option MX:=f d.1.2.2.2.1.1 d.1.2.2.2.2.1.1 (yD d.2.1) (d.2.2.1.1,d.2.2.1.2.1,d.2.2.1.2.2.1) d.2.2.2.1
def MY:qE:=⟨yVv,[(.exit 0,yOj)],MX,fun k d=>qZk (qo k k) d,fun b x _ K=>K (.exit 0) (zS b yOj (((),(),(),()),((fz x.1 ()),(x.2.1.1,x.2.1.2.1,x.2.1.2.2,()),x.2.2,())))⟩
def yV8:zF:=⟨[(3,.c (.lit (.ptr 1001000 0))),(4,.c (.lit (.ptr 1001001 0))),(6,.c (.lit (.osl 1001002 none))),(9,.c (.int .i64))],[.box true kn,.box true gk,.arr true yA],[]⟩
def qZy:zF:=⟨[(3,.c (.lit (.ptr 1001000 0))),(4,.c (.lit (.ptr 1001001 0))),(6,.c (.lit (.osl 1001002 none)))],[.box true kn,.box true gk,.arr true yA],[]⟩
def yMd (f:WZ)(d:yV8.den):Option MZ:=f d.1.2.2.2.1.1 (yD d.2.1) (d.2.2.1.1,d.2.2.1.2.1,d.2.2.1.2.2.1) d.2.2.2.1
def M3:qE:=⟨yV8,[(.exit 2,qZy)],MZ,fun k d=>yMd (qp k k) d,fun b x _ K=>K (.exit 2) (zS b qZy (((),(),(),()),((fz x.1 ()),(x.2.1.1,x.2.1.2.1,x.2.1.2.2,()),x.2.2,())))⟩
def yO7:zF:=⟨[(2,.c (.lit (.ptr 1001000 0))),(3,.c (.lit (.ptr 1001001 0))),(4,.c (.lit (.ptr 1001002 0))),(6,.c (.lit (.osl 1001003 none))),(7,.c (.dat true zG)),(10,.c (.int .i64))],[.box true K1,.box true kn,.box true gk,.arr true yA],[(6,none,yA,false)]⟩
def yUf:zF:=⟨[(2,.c (.lit (.ptr 1001000 0))),(3,.c (.lit (.ptr 1001001 0))),(4,.c (.lit (.ptr 1001002 0))),(6,.c (.lit (.osl 1001003 none)))],[.box true K1,.box true kn,.box true gk,.arr true yA],[]⟩
def yV1 (f:W0)(d:yO7.den):Option M4:=f d.1.2.2.2.2.1.1 d.1.2.2.2.2.2.1.1 (vC d.2.1) (yD d.2.2.1) (d.2.2.2.1.1,d.2.2.2.1.2.1,d.2.2.2.1.2.2.1) d.2.2.2.2.1
def M5:qE:=⟨yO7,[(.exit 4,yUf)],M4,fun k d=>yV1 (qq k k) d,fun b x _ K=>K (.exit 4) (zS b yUf (((),(),(),(),()),((gj x.1 ()),(fz x.2.1 ()),(x.2.2.1.1,x.2.2.1.2.1,x.2.2.1.2.2,()),x.2.2.2,())))⟩
def yYi:qB:=⟨prog,fun _=>false,qJ [qQh,xl,qRt,qx,qO4,WX]⟩
def M6:zY:=⟨[],[(8,MY),(12,M3),(18,M5)],true⟩
theorem M7:qI yYi:=zN zM ⟨vH1,C3,vCs,tH,vDz,yA3,trivial⟩
theorem vIb:qD prog 1000 0 129 (zX (qC f60) 0) MY:=lp (A:=M6) MY (fun d=>((yD d.2.1),(d.2.2.1.1,d.2.2.1.2.1,d.2.2.1.2.2.1),d.2.2.2.1)) qZk qo CJ M7 zK
theorem vRa:qD prog 1000 0 129 (zX (qC f60) 1) M3:=lp (A:=M6) M3 (fun d=>((yD d.2.1),(d.2.2.1.1,d.2.2.1.2.1,d.2.2.1.2.2.1),d.2.2.2.1)) yMd qp CK M7 zK
theorem vO0:qD prog 1000 0 129 (zX (qC f60) 2) M5:=lp (A:=M6) M5 (fun d=>((vC d.2.1),(yD d.2.2.1),(d.2.2.2.1.1,d.2.2.2.1.2.1,d.2.2.2.1.2.2.1),d.2.2.2.2.1)) yV1 qq CL M7 zK
def qZl:Nat×zH:=zP 60 [.agg Mk,.agg tF] (.tup [(true,kX),(false,[.own yA])]) (fun k d=>CM k (vC d) (xh d)) (fun x=>(fz x.1 (x.2,())))
theorem vGe:zJ prog qZl:=fA (rs:=.tup [(true,kX),(false,[.own yA])]) f60 M6 (fun d=>((yD d),d.2.2.2.2.2.2.2.2.2.2.2.1)) M7 (oc (n:=3) (by kernel_rfl) fun i hi=>match i,hi with|0,_=>⟨MY,by kernel_rfl,vIb⟩|1,_=>⟨M3,by kernel_rfl,vRa⟩|2,_=>⟨M5,by kernel_rfl,vO0⟩|i+3,hi=>absurd hi (by omega))
def M8:Nat×zH:=zP 175 [.ptr yUl,.c (.int .i64)] (.c (.int .i64)) (fun k d=>qi k (LY d) d.2.2.2.2.2.2.2.2.2.2.2.2.2.2.2.2.2.2.2.1) (fun x=>(x,()))
theorem W1:zJ prog M8:=fA (rs:=.c (.int .i64)) f175 ⟨[],[],true⟩ (fun d=>d.1) (zN (l:=[]) zM trivial) zK
def W2:Nat×zH:=zP 182 [.agg iR,.c (.int .i64),.c (.int .i64)] (.c (.int .i64)) (fun k d=>Cq k (vC d) d.2.2.2.2.2.1 d.2.2.2.2.2.2.1) (fun x=>(x,()))
theorem qVd:zJ prog W2:=fA (rs:=.c (.int .i64)) f182 ⟨[],[],true⟩ (fun d=>d.1) (zN (l:=[]) zM trivial) zK
def yDl:Nat×zH:=zP 176 [.agg iR,.c (.int .i64),.agg vI] (.c (.int .i64)) (fun k d=>w5 k (vC d) d.2.2.2.2.2.1 (SD d)) (fun x=>(x,()))
theorem vAz:zJ prog yDl:=fA (rs:=.c (.int .i64)) f176 ⟨[],[],true⟩ (fun d=>d.1) (zN (l:=[W2]) zM ⟨qVd,trivial⟩) zK
def yPg:zF:=⟨[(0,.c (.dat false (.int .i64))),(1,.c (.int .i64)),(5,.c (.int .i64))],[],[]⟩
def yQ8:zF:=⟨[],[],[]⟩
def yG5:zF:=⟨[(4,.c (.bool))],[],[]⟩
def yHy (f:W3)(d:yPg.den):Option (Unit⊕Bool):=f d.1.1.1 d.1.2.1.1 d.1.2.2.1.1
def W4:qE:=⟨yPg,[(.exit 0,yQ8),(.ret,yG5)],(Unit⊕Bool),fun k d=>yHy (Cm k k) d,fun b x _ K=>match x with|.inl x=>K (.exit 0) (zS b yQ8 ((),()))|.inr x=>K .ret (zS b yG5 (((x,()),()),()))⟩
def vAu:qB:=⟨prog,fun _=>false,qJ []⟩
def qXq:zY:=⟨[],[(2,W4)],true⟩
theorem yMh:qI vAu:=zN zM trivial
theorem vHk:qD prog 1000 0 18 (zX (qC f140) 0) W4:=lp (A:=qXq) W4 (fun d=>match d with|.inl d=>.inl ()|.inr d=>.inr d.1.1.1) yHy Cm Cn yMh zK
def qLv:Nat×zH:=zP 140 [.c (.dat false (.int .i64)),.c (.int .i64)] (.c (.bool)) (fun k d=>Kw k d.1 d.2.1) (fun x=>(x,()))
theorem vQy:zJ prog qLv:=fA (rs:=.c (.bool)) f140 qXq (fun d=>d.1) yMh (loops1 vHk)
def yJz:zF:=⟨[(0,.c (.dat true (.int .i64))),(1,.c (.int .i64)),(6,.c (.int .i64))],[],[]⟩
def yT2:zF:=⟨[(0,.c (.dat true (.int .i64))),(1,.c (.int .i64)),(6,.c (.int .i64))],[],[]⟩
def qZf (f:W5)(d:yJz.den):Option ((List Int)×Int×Int):=f d.1.1.1 d.1.2.1.1 d.1.2.2.1.1
def W6:qE:=⟨yJz,[(.exit 0,yT2)],((List Int)×Int×Int),fun k d=>qZf (Gu k k) d,fun b x _ K=>K (.exit 0) (zS b yT2 (((x.1,()),(x.2.1,()),(x.2.2,()),()),()))⟩
def vL5:qB:=⟨prog,fun _=>false,qJ [qLv]⟩
def yB7:zY:=⟨[],[(6,W6)],true⟩
theorem qZs:qI vL5:=zN zM ⟨vQy,trivial⟩
theorem vQu:qD prog 1000 0 41 (zX (qC f177) 0) W6:=lp (A:=yB7) W6 (fun d=>(d.1.1.1,d.1.2.1.1,d.1.2.2.1.1)) qZf Gu Co qZs zK
def yXa:Nat×zH:=zP 177 [.c (.dat true (.int .i64)),.c (.int .i64)] (.tup [(false,[.fro (.int .i64)]),(false,qX)]) (fun k d=>w4 k d.1 d.2.1) (fun x=>(x.1,x.2,()))
theorem vIc:zJ prog yXa:=fA (rs:=.tup [(false,[.fro (.int .i64)]),(false,qX)]) f177 yB7 (fun d=>(d.1,d.2.1)) qZs (loops1 vQu)
def W7:Nat×zH:=zP 77 [.agg vI,.agg vI] (.c (.bool)) (fun k d=>(CU (Gn k) d)) (fun x=>(x,()))
theorem yP8:zJ prog W7:=fA (rs:=.c (.bool)) f77 ⟨[],[],false⟩ (fun d=>d.1) (zN (l:=[]) zM trivial) zK
def yEo:zF:=⟨[(0,.c (.dat false zG)),(3,.c (.lit (.ptr 1001000 0))),(5,.c (.int .i64))],[.box true wD],[]⟩
def yB4:zF:=⟨[(5,.c (.int .i64))],[],[]⟩
def yGc (f:W8)(d:yEo.den):Option Int:=(kp (f d.1.1.1 d.1.2.2.1.1) d.2.1)
def W9:qE:=⟨yEo,[(.exit 0,yB4)],Int,fun k d=>yGc (Cg k k) d,fun b x _ K=>K (.exit 0) (zS b yB4 (((x,()),()),()))⟩
def vEz:qB:=⟨prog,fun _=>false,qJ [W7]⟩
def yIh:zY:=⟨[],[(2,W9)],false⟩
theorem yTk:qI vEz:=zN zM ⟨yP8,trivial⟩
theorem yY4:qD prog 1000 0 21 (zX (qC f222) 0) W9:=lp (A:=yIh) W9 (fun d=>d.1.1.1) yGc Cg Ch yTk zK
def M9:Nat×zH:=zP 222 [.c (.dat false zG),.agg vI] (.c (.int .i64)) (fun k d=>(ko (Cf k) d)) (fun x=>(x,()))
theorem Xa:zJ prog M9:=fA (rs:=.c (.int .i64)) f222 yIh (fun d=>d.1) yTk (loops1 yY4)
def G9:Nat×zH:=zP 221 [.c (.dat false zG),.c (.int .i64),.agg vI] (.c (.own zG)) (fun k d=>(LJ (wy k) d)) (fun x=>(x,()))
theorem Na:zJ prog G9:=fA (rs:=.c (.own zG)) f221 ⟨[],[],false⟩ (fun d=>d.1) (zN (l:=[]) zM trivial) zK
def qY8:Nat×zH:=zP 178 [.c (.dat true zG),.agg vI] (.tup [(false,vE),(false,qX)]) (fun k d=>(ko (wz k) d)) (fun x=>(x.1,x.2,()))
theorem vKb:zJ prog qY8:=fA (rs:=.tup [(false,vE),(false,qX)]) f178 ⟨[],[],false⟩ (fun d=>(d.1,d.2.1)) (zN (l:=[G8,M9,G9]) zM ⟨MH,Xa,Na,trivial⟩) zK
def yGx:Nat×zH:=wC 107 [.ptr true xm,.agg GZ] (.c (.int .i64)) [kY] (fun k d=>Ky k (yG d d.2.2.2.2.2.2.2.2.2.2.2.2.2.2.2.2.2.2.1) (vAd d)) (fun x=>(x.1,(tG x.2 ())))
theorem vHx:zJ prog yGx:=fX (rs:=.c (.int .i64)) (os:=[kY]) f107 ⟨[],[],true⟩ 1 (fun d=>(d.1,(xn d))) (zN (l:=[M8,yDl,yXa,qY8]) zM ⟨W1,vAz,vIc,vKb,trivial⟩) zK
def yU2:Nat×zH:=zP 179 [.ptr yUl,.c (.int .i64)] (.tup [(true,gl),(false,[.bool])]) (fun k d=>yOq k (LY d) d.2.2.2.2.2.2.2.2.2.2.2.2.2.2.2.2.2.2.2.1) (fun x=>(gi x.1 (x.2,())))
theorem vPg:zJ prog yU2:=fA (rs:=.tup [(true,gl),(false,[.bool])]) f179 ⟨[],[],true⟩ (fun d=>((wI d),d.2.2.2.2.2.2.2.1)) (zN (l:=[G8]) zM ⟨MH,trivial⟩) zK
def yDh:zF:=⟨[(6,.c (.dat true zG)),(7,.c (.lit (.ptr 1001000 0))),(9,.c (.int .i64))],[.box true wD],[]⟩
def yG2:zF:=⟨[(6,.c (.dat true zG)),(7,.c (.lit (.ptr 1001000 0))),(9,.c (.int .i64))],[.box true wD],[]⟩
def yIz (f:Xb)(d:yDh.den):Option Nb:=f d.1.1.1 d.1.2.2.1.1 (wI d.2.1)
def Xc:qE:=⟨yDh,[(.exit 0,yG2)],Nb,fun k d=>yIz (Ck k k) d,fun b x _ K=>K (.exit 0) (zS b yG2 (((x.1,()),(),(x.2.1,()),()),((gi x.2.2 ()),())))⟩
def vRm:qB:=⟨prog,fun _=>false,qJ [qx,W7,G9]⟩
def yRo:zY:=⟨[],[(5,Xc)],true⟩
theorem yTn:qI vRm:=zN zM ⟨tH,yP8,Na,trivial⟩
theorem vGl:qD prog 1000 0 40 (zX (qC f180) 0) Xc:=lp (A:=yRo) Xc (fun d=>(d.1.1.1,d.1.2.2.1.1,(wI d.2.1))) yIz Ck Cl yTn zK
def yEr:Nat×zH:=zP 180 [.c (.dat true zG),.c (.int .i64)] (.tup [(false,vE),(false,qX)]) (fun k d=>Gs k d.1 d.2.1) (fun x=>(x.1,x.2,()))
theorem vL4:zJ prog yEr:=fA (rs:=.tup [(false,vE),(false,qX)]) f180 yRo (fun d=>(d.1,d.2.1)) yTn (loops1 vGl)
def yP3:Nat×zH:=zP 181 [.c (.dat true zG),.c (.int .i64)] (.tup [(false,vE),(false,qX)]) (fun k d=>Gr k d.1 d.2.1) (fun x=>(x.1,x.2,()))
theorem yZb:zJ prog yP3:=fA (rs:=.tup [(false,vE),(false,qX)]) f181 ⟨[],[],true⟩ (fun d=>(d.1,d.2.1)) (zN (l:=[qx,M9,G9]) zM ⟨tH,Xa,Na,trivial⟩) zK
def yS1:Nat×zH:=zP 183 [.c (.dat true zG),.c (.int .i64),.c (.int .i64)] (.tup [(false,vE),(false,qX)]) (fun k d=>Gq k d.1 d.2.1 d.2.2.1) (fun x=>(x.1,x.2,()))
theorem vFf:zJ prog yS1:=fA (rs:=.tup [(false,vE),(false,qX)]) f183 ⟨[],[],true⟩ (fun d=>(d.1,d.2.1)) (zN (l:=[qx,M9,G9]) zM ⟨tH,Xa,Na,trivial⟩) zK
def yQo:Nat×zH:=wC 108 [.ptr true xm,.c (.p (.int .i64)),.agg GZ] (.c (.int .i64)) [kY] (fun k d=>w7 k (yG d d.2.2.2.2.2.2.2.2.2.2.2.2.2.2.2.2.2.2.1) d.2.2.2.2.2.2.2.2.2.2.2.2.2.2.2.2.2.2.2.1 (yCe d)) (fun x=>(x.1,(tG x.2 ())))
theorem vAf:zJ prog yQo:=fX (rs:=.c (.int .i64)) (os:=[kY]) f108 ⟨[],[],true⟩ 1 (fun d=>(d.1,(xn d))) (zN (l:=[yU2,qx,xl,yEr,yP3,W2,yS1]) zM ⟨vPg,tH,C3,vL4,yZb,qVd,vFf,trivial⟩) zK
def yJy:Nat×zH:=wC 109 [.ptr true xm,.c (.p (.int .i64)),.agg GZ] (.c (.int .i64)) [kY] (fun k d=>w8 k (yG d d.2.2.2.2.2.2.2.2.2.2.2.2.2.2.2.2.2.2.1) d.2.2.2.2.2.2.2.2.2.2.2.2.2.2.2.2.2.2.2.1 (yCe d)) (fun x=>(x.1,(tG x.2 ())))
theorem vL7:zJ prog yJy:=fX (rs:=.c (.int .i64)) (os:=[kY]) f109 ⟨[],[],true⟩ 1 (fun d=>(d.1,(xn d))) (zN (l:=[C5,M8]) zM ⟨G5,W1,trivial⟩) zK
def Xd:Nat×zH:=zP 184 [.c (.dat false (.int .i64)),.c (.int .i64),.c (.int .i64)] (.c (.own (.int .i64))) (fun k d=>ql k d.1 d.2.1 d.2.2.1) (fun x=>(x,()))
theorem yBl:zJ prog Xd:=fA (rs:=.c (.own (.int .i64))) f184 ⟨[],[],true⟩ (fun d=>d.1) (zN (l:=[]) zM trivial) zK
def qRq:Nat×zH:=zP 257 [.c (.int .i64)] (.c (.own (.int .i64))) (fun k d=>Kt k d.1) (fun x=>(x,()))
theorem vBl:zJ prog qRq:=fA (rs:=.c (.own (.int .i64))) f257 ⟨[],[],true⟩ (fun d=>d.1) (zN (l:=[]) zM trivial) zK
def yIe:zF:=⟨[(0,.c (.lit (.osl 1001000 none))),(3,.c (.int .i64))],[.arr true (.int .i64)],[]⟩
def yL9:zF:=⟨[(0,.c (.lit (.osl 1001000 none)))],[.arr true (.int .i64)],[]⟩
def yDv (f:Int→List Int→Option (List Int))(d:yIe.den):Option (List Int):=f d.1.2.1.1 d.2.1
def Xe:qE:=⟨yIe,[(.exit 0,yL9)],(List Int),fun k d=>yDv (Xf k k) d,fun b x _ K=>K (.exit 0) (zS b yL9 (((),()),(x,())))⟩
def vSr:qB:=⟨prog,fun _=>false,qJ []⟩
def qWz:zY:=⟨[],[(2,Xe)],true⟩
theorem yI8:qI vSr:=zN zM trivial
theorem vAq:qD prog 1000 0 35 (zX (qC f258) 0) Xe:=lp (A:=qWz) Xe (fun d=>d.2.1) yDv Xf yOa yI8 zK
def Xg:Nat×zH:=wC 258 [.c (.own (.int .i64))] (.c (.own (.int .i64))) [] (fun k d=>wu k d.1) (fun x=>(x,()))
theorem yN5:zJ prog Xg:=fX (rs:=.c (.own (.int .i64))) (os:=[]) f258 qWz 0 (fun d=>d.1) yI8 (loops1 vAq)
def yQz:zF:=⟨[(1,.c (.int .i64)),(5,.c (.lit (.osl 1001000 none))),(6,.c (.lit (.osl 1001001 none))),(7,.c (.int .i64)),(8,.c (.int .i64))],[.arr true (.int .i64),.arr true (.int .i64)],[]⟩
def yL3:zF:=⟨[(1,.c (.int .i64)),(5,.c (.lit (.osl 1001000 none))),(6,.c (.lit (.osl 1001001 none))),(7,.c (.int .i64))],[.arr true (.int .i64),.arr true (.int .i64)],[]⟩
def yKr (f:Xh)(d:yQz.den):Option Nc:=f d.1.1.1 d.1.2.2.2.1.1 d.1.2.2.2.2.1.1 d.2.1 d.2.2.1
def Xi:qE:=⟨yQz,[(.exit 2,yL3)],Nc,fun k d=>yKr (Xj k k) d,fun b x _ K=>K (.exit 2) (zS b yL3 (((x.1,()),(),(),(x.2.1,()),()),(x.2.2.1,x.2.2.2,())))⟩
def yMf:zF:=⟨[(1,.c (.int .i64)),(5,.c (.lit (.osl 1001000 none))),(6,.c (.lit (.osl 1001001 none))),(7,.c (.int .i64))],[.arr true (.int .i64),.arr true (.int .i64)],[]⟩
def yFb:zF:=⟨[(6,.c (.lit (.osl 1001000 none)))],[.arr true (.int .i64)],[]⟩
def yEm (f:Xk)(d:yMf.den):Option (List Int):=f d.1.1.1 d.1.2.2.2.1.1 d.2.1 d.2.2.1
def Xl:qE:=⟨yMf,[(.exit 0,yFb)],(List Int),fun k d=>yEm (Kk k k) d,fun b x _ K=>K (.exit 0) (zS b yFb (((),()),(x,())))⟩
def vQv:qB:=⟨prog,fun _=>false,qJ [qRq,Xg]⟩
def Xm:zY:=⟨[],[(7,Xi),(4,Xl)],true⟩
theorem Xn:qI vQv:=zN zM ⟨vBl,yN5,trivial⟩
theorem vNp:qD prog 1000 0 47 (zX (zX (qC f234) 0) 0) Xi:=lp (A:=Xm) Xi (fun d=>(d.1.1.1,d.1.2.2.2.1.1,d.2.1,d.2.2.1)) yKr Xj yVa Xn zK
theorem vQx:qD prog 1000 0 47 (zX (qC f234) 0) Xl:=lp (A:=Xm) Xl (fun d=>d.2.1) yEm Kk yHh Xn (loops1 vNp)
def yL8:Nat×zH:=zP 234 [.c (.int .i64),.c (.int .i64)] (.c (.own (.int .i64))) (fun k d=>Ks k d.1 d.2.1) (fun x=>(x,()))
theorem vPc:zJ prog yL8:=fA (rs:=.c (.own (.int .i64))) f234 Xm (fun d=>d.1) Xn (loops1 vQx)
def qWt:zF:=⟨[(0,.c (.lit (.osl 1001000 none))),(1,.c (.int .i64)),(5,.c (.int .i64))],[.arr true (.int .i64)],[]⟩
def yEb:zF:=⟨[(0,.c (.lit (.osl 1001000 none)))],[.arr true (.int .i64)],[]⟩
def yVu (f:Int→Int→List Int→Option (List Int))(d:qWt.den):Option (List Int):=f d.1.2.1.1 d.1.2.2.1.1 d.2.1
def Xo:qE:=⟨qWt,[(.exit 0,yEb)],(List Int),fun k d=>yVu (Ki k k) d,fun b x _ K=>K (.exit 0) (zS b yEb (((),()),(x,())))⟩
def vJr:qB:=⟨prog,fun _=>false,qJ [Xg]⟩
def yG3:zY:=⟨[],[(2,Xo)],true⟩
theorem yU6:qI vJr:=zN zM ⟨yN5,trivial⟩
theorem vM9:qD prog 1000 0 23 (zX (qC f235) 0) Xo:=lp (A:=yG3) Xo (fun d=>d.2.1) yVu Ki yDj yU6 zK
def yQb:Nat×zH:=wC 235 [.c (.own (.int .i64)),.c (.p (.int .i64))] (.c (.own (.int .i64))) [] (fun k d=>Kh k d.1 d.2.1) (fun x=>(x,()))
theorem vLy:zJ prog yQb:=fX (rs:=.c (.own (.int .i64))) (os:=[]) f235 yG3 0 (fun d=>d.1) yU6 (loops1 vM9)
def yTi:zF:=⟨[(0,.c (.lit (.osl 1001000 none))),(1,.c (.int .i64)),(6,.c (.int .i64)),(7,.c (.int .i64))],[.arr true (.int .i64)],[]⟩
def yW1:zF:=⟨[(0,.c (.lit (.osl 1001000 none)))],[.arr true (.int .i64)],[]⟩
def yJg (f:Xp)(d:yTi.den):Option (List Int):=f d.1.2.1.1 d.1.2.2.1.1 d.1.2.2.2.1.1 d.2.1
def Nd:qE:=⟨yTi,[(.exit 0,yW1)],(List Int),fun k d=>yJg (Gg k k) d,fun b x _ K=>K (.exit 0) (zS b yW1 (((),()),(x,())))⟩
def yA5:zF:=⟨[(0,.c (.lit (.osl 1001000 none))),(9,.c (.int .i64))],[.arr true (.int .i64)],[]⟩
def yVr:zF:=⟨[(0,.c (.lit (.osl 1001000 none)))],[.arr true (.int .i64)],[]⟩
def yOp:zF:=⟨[(4,.c (.int .i64)),(5,.c (.bool))],[],[]⟩
def qXm (f:Xq)(d:yA5.den):Option ((List Int)⊕wZ):=f d.1.2.1.1 d.2.1
def Nf:qE:=⟨yA5,[(.exit 2,yVr),(.ret,yOp)],((List Int)⊕wZ),fun k d=>qXm (B9 k k) d,fun b x _ K=>match x with|.inl x=>K (.exit 2) (zS b yVr (((),()),(x,())))|.inr x=>K .ret (zS b yOp (((x.1,()),(x.2,()),()),()))⟩
def vBx:qB:=⟨prog,fun _=>false,qJ []⟩
def Xr:zY:=⟨[],[(3,Nd),(9,Nf)],true⟩
theorem Xs:qI vBx:=zN zM trivial
theorem vSx:qD prog 1000 0 66 (zX (qC f236) 0) Nd:=lp (A:=Xr) Nd (fun d=>d.2.1) yJg Gg yPf Xs zK
theorem yX7:qD prog 1000 0 66 (zX (qC f236) 1) Nf:=lp (A:=Xr) Nf (fun d=>match d with|.inl d=>.inl d.2.1|.inr d=>.inr (d.1.1.1,d.1.2.1.1)) qXm B9 yV0 Xs zK
def yAf:Nat×zH:=wC 236 [.c (.own (.int .i64)),.c (.p (.int .i64))] (.tup [(false,qX),(false,[.bool])]) [] (fun k d=>Kj k d.1 d.2.1) (fun x=>(x.1,x.2,()))
theorem vHf:zJ prog yAf:=fX (rs:=.tup [(false,qX),(false,[.bool])]) (os:=[]) f236 Xr 0 (fun d=>(d.1,d.2.1)) Xs (oc (n:=2) (by kernel_rfl) fun i hi=>match i,hi with|0,_=>⟨Nd,by kernel_rfl,vSx⟩|1,_=>⟨Nf,by kernel_rfl,yX7⟩|i+2,hi=>absurd hi (by omega))
def qIg:Nat×zH:=zP 195 [.c (.int .i64),.c (.int .i64),.c (.int .i64)] (.tup [(false,qX),(false,[.bool])]) (fun k d=>Ku k d.1 d.2.1 d.2.2.1) (fun x=>(x.1,x.2,()))
theorem vOb:zJ prog qIg:=fA (rs:=.tup [(false,qX),(false,[.bool])]) f195 ⟨[],[],true⟩ (fun d=>(d.1,d.2.1)) (zN (l:=[yL8,yQb,yAf]) zM ⟨vPc,vLy,vHf,trivial⟩) zK
def Xt:Nat×zH:=zP 196 [.c (.int .i64),.c (.int .i64)] (.tup [(false,qX),(false,[.bool])]) (fun k d=>Cd k d.1 d.2.1) (fun x=>(x.1,x.2,()))
theorem yIp:zJ prog Xt:=fA (rs:=.tup [(false,qX),(false,[.bool])]) f196 ⟨[],[],true⟩ (fun d=>(d.1,d.2.1)) (zN (l:=[]) zM trivial) zK
def yFh:zF:=⟨[(0,.c (.dat false fa)),(1,.c (.dat false (.int .i64))),(2,.c (.dat false (.int .i64))),(8,.c (.int .i64)),(9,.c (.int .i64))],[],[]⟩
def yK4:zF:=⟨[(8,.c (.int .i64))],[],[]⟩
def yNs:zF:=⟨[(6,.c (.int .i64)),(7,.c (.bool))],[],[]⟩
def yE7 (f:Xu)(d:yFh.den):Option (Int⊕wZ):=f d.1.1.1 d.1.2.1.1 d.1.2.2.1.1 d.1.2.2.2.1.1 d.1.2.2.2.2.1.1
def Xv:qE:=⟨yFh,[(.exit 0,yK4),(.ret,yNs)],(Int⊕wZ),fun k d=>yE7 (Gp k k) d,fun b x _ K=>match x with|.inl x=>K (.exit 0) (zS b yK4 (((x,()),()),()))|.inr x=>K .ret (zS b yNs (((x.1,()),(x.2,()),()),()))⟩
def yY6:qB:=⟨prog,fun _=>false,qJ [qIg,Xt]⟩
def yDe:zY:=⟨[],[(5,Xv)],true⟩
theorem qZ1:qI yY6:=zN zM ⟨vOb,yIp,trivial⟩
theorem vBs:qD prog 1000 0 63 (zX (qC f137) 0) Xv:=lp (A:=yDe) Xv (fun d=>match d with|.inl d=>.inl d.1.1.1|.inr d=>.inr (d.1.1.1,d.1.2.1.1)) yE7 Gp Ce qZ1 zK
def Xw:Nat×zH:=zP 137 [.c (.dat false fa),.c (.dat false (.int .i64)),.c (.dat false (.int .i64))] (.tup [(false,qX),(false,[.bool])]) (fun k d=>wx k d.1 d.2.1 d.2.2.1) (fun x=>(x.1,x.2,()))
theorem qWj:zJ prog Xw:=fA (rs:=.tup [(false,qX),(false,[.bool])]) f137 yDe (fun d=>(d.1,d.2.1)) qZ1 (loops1 vBs)
def yOr:Nat×zH:=wC 110 [.ptr true xm,.c (.p (.int .i64)),.c (.p (.int .i64))] (.c (.int .i64)) [kY] (fun k d=>Kz k (yG d d.2.2.2.2.2.2.2.2.2.2.2.2.2.2.2.2.2.2.1) d.2.2.2.2.2.2.2.2.2.2.2.2.2.2.2.2.2.2.2.1 d.2.2.2.2.2.2.2.2.2.2.2.2.2.2.2.2.2.2.2.2.1) (fun x=>(x.1,(tG x.2 ())))
theorem vHn:zJ prog yOr:=fX (rs:=.c (.int .i64)) (os:=[kY]) f110 ⟨[],[],true⟩ 1 (fun d=>(d.1,(xn d))) (zN (l:=[Xd,Xw,C5]) zM ⟨yBl,qWj,G5,trivial⟩) zK
def yCg:Nat×zH:=zP 185 [.agg lO,.c (.int .i64)] (.tup [(true,tD),(false,qX)]) (fun k d=>Cr k (d.1,d.2.1,d.2.2.1) d.2.2.2.1) (fun x=>(x.1.1,x.1.2.1,x.1.2.2,x.2,()))
theorem vOg:zJ prog yCg:=fA (rs:=.tup [(true,tD),(false,qX)]) f185 ⟨[],[],true⟩ (fun d=>((d.1,d.2.1,d.2.2.1),d.2.2.2.1)) (zN (l:=[Xt,VI]) zM ⟨yIp,ySd,trivial⟩) zK
def yS7:Nat×zH:=wC 111 [.ptr true xm,.c (.p (.bool)),.c (.p (.int .i64)),.c (.p (.int .i64))] (.c (.int .i64)) [kY] (fun k d=>Ct k (yG d d.2.2.2.2.2.2.2.2.2.2.2.2.2.2.2.2.2.2.1) d.2.2.2.2.2.2.2.2.2.2.2.2.2.2.2.2.2.2.2.1 d.2.2.2.2.2.2.2.2.2.2.2.2.2.2.2.2.2.2.2.2.1 d.2.2.2.2.2.2.2.2.2.2.2.2.2.2.2.2.2.2.2.2.2.1) (fun x=>(x.1,(tG x.2 ())))
theorem vSg:zJ prog yS7:=fX (rs:=.c (.int .i64)) (os:=[kY]) f111 ⟨[],[],true⟩ 1 (fun d=>(d.1,(xn d))) (zN (l:=[M8,C5,yCg]) zM ⟨W1,G5,vOg,trivial⟩) zK
def ySv:zF:=⟨[(0,.c (.lit (.ptr 1001000 0))),(7,.c (.lit (.osl 1001001 none))),(8,.c (.lit (.ptr 1001002 0))),(9,.c (.int .i64))],[.box true Xx,.arr true (.int .i64),.box true oN,.arr true yH,.mat,.arr true (.int .i64),.mat],[]⟩
def yQm:zF:=⟨[(0,.c (.lit (.ptr 1001000 0))),(7,.c (.lit (.osl 1001001 none))),(8,.c (.lit (.ptr 1001002 0)))],[.box true Xx,.arr true (.int .i64),.box true oN,.arr true yH,.mat,.arr true (.int .i64),.mat],[]⟩
def yLx:zF:=⟨[(0,.c (.lit (.ptr 1001000 0))),(6,.c (.int .i64))],[.box true Xx],[]⟩
def yIl (f:Xy)(d:ySv.den):Option Ng:=f d.1.2.2.2.1.1 (fO d.2.1) d.2.2.1 d.2.2.2.2.1 d.2.2.2.2.2.1 d.2.2.2.2.2.2.1 d.2.2.2.2.2.2.2.1
def Xz:qE:=⟨ySv,[(.exit 0,yQm),(.ret,yLx)],Ng,fun k d=>yIl (qm k k) d,fun b x _ K=>match x with|.inl x=>K (.exit 0) (zS b yQm (((),(),(),()),((eZ x.1 ()),x.2.1,(),x.2.2.1,x.2.2.2.1,x.2.2.2.2.1,x.2.2.2.2.2,())))|.inr x=>K .ret (zS b yLx (((),(x.1,()),()),((eZ x.2 ()),())))⟩
def yXy:qB:=⟨prog,fun _=>false,qJ [Xd,C5,Xw]⟩
def yFp:zY:=⟨[],[(6,Xz)],true⟩
theorem qVz:qI yXy:=zN zM ⟨yBl,G5,qWj,trivial⟩
theorem vA3:qD prog 1000 1 93 (zX (qC f112) 0) Xz:=lp (A:=yFp) Xz (fun d=>match d with|.inl d=>.inl ((fO d.2.1),d.2.2.1,d.2.2.2.2.1,d.2.2.2.2.2.1,d.2.2.2.2.2.2.1,d.2.2.2.2.2.2.2.1)|.inr d=>.inr (d.1.2.1.1,(fO d.2.1))) yIl qm Cu qVz zK
def yGy:Nat×zH:=wC 112 [.ptr true xm,.c (.p (.int .i64)),.c (.p (.int .i64))] (.c (.int .i64)) [kY] (fun k d=>KA k (yG d d.2.2.2.2.2.2.2.2.2.2.2.2.2.2.2.2.2.2.1) d.2.2.2.2.2.2.2.2.2.2.2.2.2.2.2.2.2.2.2.1 d.2.2.2.2.2.2.2.2.2.2.2.2.2.2.2.2.2.2.2.2.1) (fun x=>(x.1,(tG x.2 ())))
theorem vJ8:zJ prog yGy:=fX (rs:=.c (.int .i64)) (os:=[kY]) f112 yFp 1 (fun d=>(d.1,(xn d))) qVz (loops1 vA3)
def yJ3:Nat×zH:=wC 61 [.ptr true xm,.agg vI] (.c (.int .i64)) [kY] (fun k d=>tx k (yG d d.2.2.2.2.2.2.2.2.2.2.2.2.2.2.2.2.2.2.1) (vAn d)) (fun x=>(x.1,(tG x.2 ())))
theorem yYa:zJ prog yJ3:=fX (rs:=.c (.int .i64)) (os:=[kY]) f61 ⟨[],[],true⟩ 1 (fun d=>(d.1,(xn d))) (zN (l:=[yGx,yQo,yJy,yOr,yS7,yGy]) zM ⟨vHx,vAf,vL7,vHn,vSg,vJ8,trivial⟩) zK
def qMe:Nat×zH:=zP 24 [.agg Mk,.agg tF,.agg GW] (.tup [(true,kX),(false,[.own yA]),(false,qX)]) (fun k d=>GN k (vC d) (xh d) (La d)) (fun x=>(fz x.1 (x.2.1,x.2.2,())))
theorem vHq:zJ prog qMe:=fA (rs:=.tup [(true,kX),(false,[.own yA]),(false,qX)]) f24 ⟨[],[],true⟩ (fun d=>((yD d),d.2.2.2.2.2.2.2.2.2.2.2.1,d.2.2.2.2.2.2.2.2.2.2.2.2.1)) (zN (l:=[yBr,C4,xl,qZl,yJ3,WX,G8]) zM ⟨vLp,Mq,C3,vGe,yYa,yA3,MH,trivial⟩) zK
def yT7:zF:=⟨[(0,.c (.dat false yA)),(1,.c (.dat false yA)),(5,.c (.int .i64))],[],[]⟩
def qWy:zF:=⟨[],[],[]⟩
def yN8:zF:=⟨[(4,.c (.bool))],[],[]⟩
def yU4 (f:XA)(d:yT7.den):Option (Unit⊕Bool):=f d.1.1.1 d.1.2.1.1 d.1.2.2.1.1
def XB:qE:=⟨yT7,[(.exit 0,qWy),(.ret,yN8)],(Unit⊕Bool),fun k d=>yU4 (BI k k) d,fun b x _ K=>match x with|.inl x=>K (.exit 0) (zS b qWy ((),()))|.inr x=>K .ret (zS b yN8 (((x,()),()),()))⟩
def yYw:qB:=⟨prog,fun t=>[81].any (Nat.beq t),qJ []⟩
def yB0:zY:=⟨[],[(4,XB)],false⟩
theorem yIv:qI yYw:=yv (l:=[]) (eqT:=fun t=>[81].any (Nat.beq t)) (DB (fun t h=>D9 (p:=fun t=>prog.keyTypeAt 8 t&& !prog.eqGuardType prog.depth t) (l:=[81]) (List.forall_mem_cons.2 ⟨by kernel_rfl,List.forall_mem_nil _⟩) t h)) zM trivial
theorem vMt:qD prog 1000 0 26 (zX (qC f25) 0) XB:=lp (A:=yB0) XB (fun d=>match d with|.inl d=>.inl ()|.inr d=>.inr d.1.1.1) yU4 BI BJ yIv zK
def qLl:Nat×zH:=zP 25 [.c (.dat false yA),.c (.dat false yA)] (.c (.bool)) (fun k d=>JZ k d.1 d.2.1) (fun x=>(x,()))
theorem vBe:zJ prog qLl:=fA (rs:=.c (.bool)) f25 yB0 (fun d=>d.1) yIv (loops1 vMt)
def qHf:Nat×zH:=zP 124 [.c (.int .i64)] (.c (.bool)) (fun k d=>Ry k d.1) (fun x=>(x,()))
theorem vId:zJ prog qHf:=fA (rs:=.c (.bool)) f124 ⟨[],[],true⟩ (fun d=>d.1) (zN (l:=[iq]) zM ⟨iQ,trivial⟩) zK
def qXl:zF:=⟨[(0,.c (.dat false (.int .i64))),(1,.c (.lit (.fn 124 []))),(7,.c (.int .i64)),(8,.c (.int .i64))],[],[]⟩
def yE1:zF:=⟨[],[],[]⟩
def qV8:zF:=⟨[(4,.c (.int .i64))],[],[]⟩
def qZw (f:XE)(d:qXl.den):Option (Unit⊕Int):=f d.1.1.1 d.1.2.2.1.1 d.1.2.2.2.1.1
def XF:qE:=⟨qXl,[(.exit 0,yE1),(.ret,qV8)],(Unit⊕Int),fun k d=>qZw (wo k k) d,fun b x _ K=>match x with|.inl x=>K (.exit 0) (zS b yE1 ((),()))|.inr x=>K .ret (zS b qV8 (((x,()),()),()))⟩
def vBc:qB:=⟨prog,fun _=>false,qJ [qHf]⟩
def yLs:zY:=⟨[],[(2,XF)],false⟩
theorem yRh:qI vBc:=zN zM ⟨vId,trivial⟩
theorem vEo:qD prog 1000 0 19 (zX (qC f190) 0) XF:=lp (A:=yLs) XF (fun d=>match d with|.inl d=>.inl ()|.inr d=>.inr d.1.1.1) qZw wo B4 yRh zK
def yIu:Nat×zH:=zP 190 [.c (.dat false (.int .i64)),.c (.fn 124)] (.c (.int .i64)) (fun k d=>Rz k d.1) (fun x=>(x,()))
theorem vEr:zJ prog yIu:=fA (rs:=.c (.int .i64)) f190 yLs (fun d=>d.1) yRh (loops1 vEo)
def qOz:Nat×zH:=zP 123 [.c (.dat false (.int .i64)),.c (.fn 124)] (.c (.bool)) (fun k d=>Gc k d.1) (fun x=>(x,()))
theorem vPn:zJ prog qOz:=fA (rs:=.c (.bool)) f123 ⟨[],[],false⟩ (fun d=>d.1) (zN (l:=[yIu]) zM ⟨vEr,trivial⟩) zK
def qL8:Nat×zH:=zP 126 [.c (.int .i64)] (.c (.bool)) (fun k d=>RA k d.1) (fun x=>(x,()))
theorem yYu:zJ prog qL8:=fA (rs:=.c (.bool)) f126 ⟨[],[],true⟩ (fun d=>d.1) (zN (l:=[]) zM trivial) zK
def yKd:zF:=⟨[(0,.c (.dat false (.int .i64))),(1,.c (.lit (.fn 126 []))),(7,.c (.int .i64)),(8,.c (.int .i64))],[],[]⟩
def yVi:zF:=⟨[],[],[]⟩
def yGo:zF:=⟨[(4,.c (.int .i64))],[],[]⟩
def yGm (f:XG)(d:yKd.den):Option (Unit⊕Int):=f d.1.1.1 d.1.2.2.1.1 d.1.2.2.2.1.1
def XH:qE:=⟨yKd,[(.exit 0,yVi),(.ret,yGo)],(Unit⊕Int),fun k d=>yGm (wq k k) d,fun b x _ K=>match x with|.inl x=>K (.exit 0) (zS b yVi ((),()))|.inr x=>K .ret (zS b yGo (((x,()),()),()))⟩
def vNj:qB:=⟨prog,fun _=>false,qJ [qL8]⟩
def yQx:zY:=⟨[],[(2,XH)],false⟩
theorem yEu:qI vNj:=zN zM ⟨yYu,trivial⟩
theorem vDp:qD prog 1000 0 19 (zX (qC f190) 0) XH:=lp (A:=yQx) XH (fun d=>match d with|.inl d=>.inl ()|.inr d=>.inr d.1.1.1) yGm wq B5 yEu zK
def yEk:Nat×zH:=zP 190 [.c (.dat false (.int .i64)),.c (.fn 126)] (.c (.int .i64)) (fun k d=>RB k d.1) (fun x=>(x,()))
theorem vIt:zJ prog yEk:=fA (rs:=.c (.int .i64)) f190 yQx (fun d=>d.1) yEu (loops1 vDp)
def qOo:Nat×zH:=zP 123 [.c (.dat false (.int .i64)),.c (.fn 126)] (.c (.bool)) (fun k d=>Ke k d.1) (fun x=>(x,()))
theorem vPl:zJ prog qOo:=fA (rs:=.c (.bool)) f123 ⟨[],[],false⟩ (fun d=>d.1) (zN (l:=[yEk]) zM ⟨vIt,trivial⟩) zK
def yLl:zF:=⟨[(2,.c (.lit (.ptr 1001000 0))),(3,.c (.lit (.ptr 1001001 0))),(28,.c (.dat false (.sl (.int .i64)))),(29,.c (.int .i64)),(30,.c (.int .i64))],[.box true nF,.box true KZ],[]⟩
def yTh:zF:=⟨[],[],[]⟩
def yOt:zF:=⟨[(4,.c (.bool))],[],[]⟩
def yO9 (f:XI)(d:yLl.den):Option (Unit⊕Bool):=f d.1.2.2.1.1 d.1.2.2.2.1.1 d.1.2.2.2.2.1.1 (vC d.2.1) (yD d.2.2.1)
def XJ:qE:=⟨yLl,[(.exit 0,yTh),(.ret,yOt)],(Unit⊕Bool),fun k d=>yO9 (td k k) d,fun b x _ K=>match x with|.inl x=>K (.exit 0) (zS b yTh ((),()))|.inr x=>K .ret (zS b yOt (((x,()),()),()))⟩
def vEh:qB:=⟨prog,fun _=>false,qJ [qOz,CW,qOo]⟩
def yXf:zY:=⟨[],[(6,XJ)],true⟩
theorem yPm:qI vEh:=zN zM ⟨vPn,G3,vPl,trivial⟩
theorem vG6:qD prog 1000 0 66 (zX (qC f66) 0) XJ:=lp (A:=yXf) XJ (fun d=>match d with|.inl d=>.inl ()|.inr d=>.inr d.1.1.1) yO9 td B6 yPm zK
def qTz:Nat×zH:=zP 66 [.agg iR,.agg oL] (.c (.bool)) (fun k d=>Gd k (vC d) (xh d)) (fun x=>(x,()))
theorem vFr:zJ prog qTz:=fA (rs:=.c (.bool)) f66 yXf (fun d=>d.1) yPm (loops1 vG6)
def yC6:zF:=⟨[(0,.c (.dat false zG)),(1,.c (.lit (.fn 194 []))),(5,.c (.int .i64))],[],[]⟩
def yFn:zF:=⟨[],[],[]⟩
def yKo:zF:=⟨[(4,.c (.bool))],[],[]⟩
def yQ1 (f:XK)(d:yC6.den):Option (Unit⊕Bool):=f d.1.1.1 d.1.2.2.1.1
def XM:qE:=⟨yC6,[(.exit 0,yFn),(.ret,yKo)],(Unit⊕Bool),fun k d=>yQ1 (F6 k k) d,fun b x _ K=>match x with|.inl x=>K (.exit 0) (zS b yFn ((),()))|.inr x=>K .ret (zS b yKo (((x,()),()),()))⟩
def yYx:qB:=⟨prog,fun _=>false,qJ [Lg]⟩
def qW6:zY:=⟨[],[(2,XM)],true⟩
theorem yEs:qI yYx:=zN zM ⟨SU,trivial⟩
theorem vKo:qD prog 1000 0 25 (zX (qC f193) 0) XM:=lp (A:=qW6) XM (fun d=>match d with|.inl d=>.inl ()|.inr d=>.inr d.1.1.1) yQ1 F6 Kb yEs zK
def qJx:Nat×zH:=zP 193 [.c (.dat false zG),.c (.fn 194)] (.c (.bool)) (fun k d=>Ka k d.1) (fun x=>(x,()))
theorem vSl:zJ prog qJx:=fA (rs:=.c (.bool)) f193 qW6 (fun d=>d.1) yEs (loops1 vKo)
def yTg:zF:=⟨[(0,.c (.dat false zG)),(5,.c (.dat false zG)),(6,.c (.int .i64)),(7,.c (.int .i64))],[],[]⟩
def yTl:zF:=⟨[(0,.c (.dat false zG))],[],[]⟩
def yUm:zF:=⟨[(2,.c (.bool))],[],[]⟩
def yRf (f:XN)(d:yTg.den):Option Nh:=f d.1.1.1 d.1.2.1.1 d.1.2.2.1.1 d.1.2.2.2.1.1
def XO:qE:=⟨yTg,[(.exit 0,yTl),(.ret,yUm)],Nh,fun k d=>yRf (wk k k) d,fun b x _ K=>match x with|.inl x=>K (.exit 0) (zS b yTl (((x,()),()),()))|.inr x=>K .ret (zS b yUm (((x,()),()),()))⟩
def vTc:qB:=⟨prog,fun _=>false,qJ [xi,qJx]⟩
def qY5:zY:=⟨[],[(2,XO)],false⟩
theorem qZd:qI vTc:=zN zM ⟨CT,vSl,trivial⟩
theorem vEp:qD prog 1000 0 26 (zX (qC f130) 0) XO:=lp (A:=qY5) XO (fun d=>match d with|.inl d=>.inl d.1.1.1|.inr d=>.inr d.1.1.1) yRf wk B1 qZd zK
def yN0:Nat×zH:=zP 130 [.c (.dat false zG)] (.c (.bool)) (fun k d=>F5 k d.1) (fun x=>(x,()))
theorem yYs:zJ prog yN0:=fA (rs:=.c (.bool)) f130 qY5 (fun d=>d.1) qZd (loops1 vEp)
def yHc:zF:=⟨[(0,.c (.dat false (.int .i64))),(3,.c (.int .i64)),(6,.c (.dat false (.int .i64))),(7,.c (.int .i64)),(8,.c (.int .i64))],[],[]⟩
def yH2:zF:=⟨[(0,.c (.dat false (.int .i64)))],[],[]⟩
def yFs:zF:=⟨[(2,.c (.bool))],[],[]⟩
def yXg (f:XP)(d:yHc.den):Option ((List Int)⊕Bool):=f d.1.1.1 d.1.2.1.1 d.1.2.2.1.1 d.1.2.2.2.1.1 d.1.2.2.2.2.1.1
def XQ:qE:=⟨yHc,[(.exit 0,yH2),(.ret,yFs)],((List Int)⊕Bool),fun k d=>yXg (F8 k k) d,fun b x _ K=>match x with|.inl x=>K (.exit 0) (zS b yH2 (((x,()),()),()))|.inr x=>K .ret (zS b yFs (((x,()),()),()))⟩
def vDq:qB:=⟨prog,fun _=>false,qJ []⟩
def yHq:zY:=⟨[],[(3,XQ)],true⟩
theorem yPw:qI vDq:=zN zM trivial
theorem yYt:qD prog 1000 0 20 (zX (qC f131) 0) XQ:=lp (A:=yHq) XQ (fun d=>match d with|.inl d=>.inl d.1.1.1|.inr d=>.inr d.1.1.1) yXg F8 B2 yPw zK
def yR1:Nat×zH:=zP 131 [.c (.dat false (.int .i64))] (.c (.bool)) (fun k d=>F7 k d.1) (fun x=>(x,()))
theorem vF3:zJ prog yR1:=fA (rs:=.c (.bool)) f131 yHq (fun d=>d.1) yPw (loops1 yYt)
def yTd:Nat×zH:=zP 129 [.c (.dat false (.int .i64)),.c (.int .i64)] (.c (.bool)) (fun k d=>JC k d.1 d.2.1) (fun x=>(x,()))
theorem yZy:zJ prog yTd:=fA (rs:=.c (.bool)) f129 ⟨[],[],true⟩ (fun d=>d.1) (zN (l:=[SI]) zM ⟨yTm,trivial⟩) zK
def qHi:Nat×zH:=zP 127 [.agg vI,.ptr oL] (.c (.bool)) (fun k d=>Kd k (wI d) (vAh d)) (fun x=>(x,()))
theorem vF2:zJ prog qHi:=fA (rs:=.c (.bool)) f127 ⟨[],[],true⟩ (fun d=>d.1) (zN (l:=[LL,iq,yTd]) zM ⟨TQ,iQ,yZy,trivial⟩) zK
end
end Go.Ab.Gi
