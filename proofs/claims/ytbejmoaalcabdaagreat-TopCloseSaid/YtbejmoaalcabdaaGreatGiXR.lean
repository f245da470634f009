/- part 58 -/
import Derived.Test.YtbejmoaalcabdaaGreatGiXS
import Derived.Test.YtbejmoaalcabdaaGreatGiAbE
import Derived.Test.YtbejmoaalcabdaaGreatProg
set_option linter.unusedVariables false
set_option maxRecDepth 100000
set_option maxHeartbeats 4000000
namespace Go.Ab.Gi
open Go.RowKit Go.Lib Go.Proofs Go.Proofs.Tryz
noncomputable section
theorem zM:prog.follows .mixedOrders=true:=by kernel_rfl
def Q8:Nat×zH:=zQ 8 [.c (.int .i64)] (.agg [.int .i64,.own vQ,.int .i64,.int .i64,.int .i64]) (fun k d=>FW k d.1) (fun x=>(ft x ()))
theorem F1q:zJ prog Q8:=fA (rs:=.agg [.int .i64,.own vQ,.int .i64,.int .i64,.int .i64]) f8 ⟨[],[],[],true⟩ (fun d=>(vO d)) (zN (l:=[]) zM trivial) zK
def R2q:Nat×zH:=HN 26 [.c (.p (.int .i64))] (.c (.link 0)) [vH] 1 (.c (.nilp)) [] 0 (fun k d=>QY k d.1) (fun x=>((),(fS x ()))) (fun x=>((),()))
theorem F2q:zJ prog R2q:=fN (rs:=.c (.link 0)) (os:=[vH]) (ns:=1) (rs2:=.c (.nilp)) (os2:=[]) (ns2:=0) f26 ⟨[],[],[],true⟩ 0 (fun d=>(Cg d)) (fun d=>()) (zN (l:=[]) zM trivial) zK
def Q9:Nat×zH:=zQ 97 [.c (.int .i64),.c (.int .i64),.c (.int .i64)] (.c (.bool)) (fun k d=>pf k d.1 d.2.1 d.2.2.1) (fun x=>(x,()))
theorem F3q:zJ prog Q9:=fA (rs:=.c (.bool)) f97 ⟨[],[],[],true⟩ (fun d=>d.1) (zN (l:=[]) zM trivial) zK
def R4q:Nat×zH:=zQ 96 [.agg [.int .i64,.int .i64]] (.c (.bool)) (fun k d=>yEo k (d.1,d.2.1)) (fun x=>(x,()))
theorem F4q:zJ prog R4q:=fA (rs:=.c (.bool)) f96 ⟨[],[],[],true⟩ (fun d=>d.1) (zN (l:=[Q9]) zM ⟨F3q,trivial⟩) zK
def qW1:zL:=⟨[(0,.c (.dat false vQ)),(1,.c (.lit (.fn 96 []))),(7,.c (.int .i64)),(8,.c (.int .i64))],[],[]⟩
def yMm:zL:=⟨[],[],[]⟩
def yAd:zL:=⟨[(4,.c (.int .i64))],[],[]⟩
def qV1 (f:Ra)(d:qW1.den):Option (Unit⊕Int):=f d.1.1.1 d.1.2.2.1.1 d.1.2.2.2.1.1
def Rb:qI:=⟨[qW1],[(.exit 0,yMm),(.ret,yAd)],(Unit⊕Int),fun k d=>qV1 (Rc k k) d,fun b x _ K=>match x with|.inl x=>K (.exit 0) (zV b yMm ((),()))|.inr x=>K .ret (zV b yAd (((x,()),()),()))⟩
def E5q:qE:=⟨prog,fun _=>false,qS [R4q]⟩
def A5q:qB:=⟨[],[(2,Rb)],[],true⟩
theorem B5q:qQ E5q:=zN zM ⟨F4q,trivial⟩
theorem vCm:qH prog 1000 0 19 (qD (qG f150) 0) Rb:=lp (A:=A5q) Rb (fun d=>match d with|.inl d=>.inl ()|.inr d=>.inr d.1.1.1) qV1 Rc yEg B5q zK
def R5q:Nat×zH:=zQ 150 [.c (.dat false vQ),.c (.fn 96)] (.c (.int .i64)) (fun k d=>yJi k d.1) (fun x=>(x,()))
theorem F5q:zJ prog R5q:=fA (rs:=.c (.int .i64)) f150 A5q (fun d=>d.1) B5q (qV vCm)
def R6q:Nat×zH:=zQ 98 [.c (.dat false vQ),.c (.fn 96)] (.c (.bool)) (fun k d=>yI3 k d.1) (fun x=>(x,()))
theorem F6q:zJ prog R6q:=fA (rs:=.c (.bool)) f98 ⟨[],[],[],true⟩ (fun d=>d.1) (zN (l:=[R5q]) zM ⟨F5q,trivial⟩) zK
def Re:Nat×zH:=zQ 54 [.agg mD] (.c (.bool)) (fun k d=>xg k (vO d)) (fun x=>(x,()))
theorem F7q:zJ prog Re:=fA (rs:=.c (.bool)) f54 ⟨[],[],[],true⟩ (fun d=>d.1) (zN (l:=[Q9,R6q]) zM ⟨F3q,F6q,trivial⟩) zK
def J5:Nat×zH:=zQ 214 [.c (.int .i64)] (.c (.bool)) (fun k d=>J6 k d.1) (fun x=>(x,()))
theorem Rf:zJ prog J5:=fA (rs:=.c (.bool)) f214 ⟨[],[],[],true⟩ (fun d=>d.1) (zN (l:=[]) zM trivial) zK
def R9q:Nat×zH:=sV 215 false (.int .u8) (.own (.int .u8)) Rg
theorem F9q:zJ prog R9q:=fC f215 ⟨[],[],[],true⟩ (zN (l:=[]) zM trivial) zK
def yIs:Nat×zH:=zQ 152 [.ptr FZ,.c (.int .i64)] (.c (.own (.int .u8))) (fun k d=>yL6 k (jF d) d.2.2.2.2.2.2.2.2.2.2.1) (fun x=>(x,()))
theorem vCk:zJ prog yIs:=fA (rs:=.c (.own (.int .u8))) f152 ⟨[],[],[],true⟩ (fun d=>d.1) (zN (l:=[J5,R9q]) zM ⟨Rf,F9q,trivial⟩) zK
def yRk:zL:=⟨[(0,.c (.dat false (.int .u8))),(2,.c (.lit (.osl 1001000 none)))],[.arr true (.sl (.int .u8))],[(2,none,(.sl (.int .u8)),false)]⟩
def qT1:zL:=⟨[(0,.c (.dat false (.int .u8))),(2,.c (.lit (.osl 1001000 none)))],[.arr true (.sl (.int .u8))],[]⟩
def yJ8 (f:Rh)(d:yRk.den):Option J7:=f d.1.1.1 d.2.1
def Ri:qI:=⟨[yRk],[(.exit 0,qT1)],J7,fun k d=>yJ8 (Rj k k) d,fun b x _ K=>K (.exit 0) (zV b qT1 (((x.1,()),(),()),(x.2,())))⟩
def vJa:qE:=⟨prog,fun _=>false,qS []⟩
def yNn:qB:=⟨[],[(1,Ri)],[],true⟩
theorem yRl:qQ vJa:=zN zM trivial
theorem yY3:qH prog 1000 0 43 (qD (qG f151) 0) Ri:=lp (A:=yNn) Ri (fun d=>(d.1.1.1,d.2.1)) yJ8 Rj yMo yRl zK
def Rk:Nat×zH:=zQ 151 [.c (.dat false (.int .u8))] (.tup [(false,[.own (.sl (.int .u8))]),(false,qW)]) (fun k d=>Rl k d.1) (fun x=>(x.1,x.2,()))
theorem yKm:zJ prog Rk:=fA (rs:=.tup [(false,[.own (.sl (.int .u8))]),(false,qW)]) f151 yNn (fun d=>(d.1,d.2.1)) yRl (qV yY3)
def qUr:zL:=⟨[(0,.c (.dat false (.int .u8))),(4,.c (.lit (.osl 1001000 none))),(5,.c (.int .u64)),(16,.c (.dat false (.int .u8))),(17,.c (.int .i64)),(18,.c (.int .i64))],[.arr true (.int .i64)],[]⟩
def qYt:zL:=⟨[(0,.c (.dat false (.int .u8))),(4,.c (.lit (.osl 1001000 none))),(5,.c (.int .u64))],[.arr true (.int .i64)],[]⟩
def qWr (f:Rm)(d:qUr.den):Option J8:=f d.1.1.1 d.1.2.2.1.1 d.1.2.2.2.1.1 d.1.2.2.2.2.1.1 d.1.2.2.2.2.2.1.1 d.2.1
def Rn:qI:=⟨[qUr],[(.exit 2,qYt)],J8,fun k d=>qWr (zu k k) d,fun b x _ K=>K (.exit 2) (zV b qYt (((x.1,()),(),(x.2.1,()),()),(x.2.2,())))⟩
def yFg:zL:=⟨[(0,.c (.dat false (.int .u8))),(4,.c (.lit (.osl 1001000 none)))],[.arr true (.int .i64)],[(4,none,(.int .i64),false)]⟩
def yLo:zL:=⟨[(4,.c (.lit (.osl 1001000 none)))],[.arr true (.int .i64)],[]⟩
def qX8 (f:List Int→List Int→Option (List Int))(d:yFg.den):Option (List Int):=f d.1.1.1 d.2.1
def Ro:qI:=⟨[yFg],[(.exit 0,yLo)],(List Int),fun k d=>qX8 (zv k k) d,fun b x _ K=>K (.exit 0) (zV b yLo (((),()),(x,())))⟩
def yZc:qE:=⟨prog,fun _=>false,qS []⟩
def Rp:qB:=⟨[],[(7,Rn),(4,Ro)],[],true⟩
theorem Rq:qQ yZc:=zN zM trivial
theorem vLv:qH prog 1000 0 36 (qD (qD (qG f66) 0) 0) Rn:=lp (A:=Rp) Rn (fun d=>(d.1.1.1,d.1.2.2.1.1,d.2.1)) qWr zu Ip Rq zK
theorem yUa:qH prog 1000 0 36 (qD (qG f66) 0) Ro:=lp (A:=Rp) Ro (fun d=>d.2.1) qX8 zv zw Rq (qV vLv)
def Ch:Nat×zH:=zQ 66 [.c (.dat false (.int .u8))] (.tup [(false,pg),(false,qW)]) (fun k d=>qw k d.1) (fun x=>(x.1,x.2,()))
theorem F0:zJ prog Ch:=fA (rs:=.tup [(false,pg),(false,qW)]) f66 Rp (fun d=>(d.1,d.2.1)) Rq (qV yUa)
def qUt:Nat×zH:=zQ 99 [.ptr FZ,.c (.int .i64)] (.tup [(false,qW),(false,mE),(false,ph)]) (fun k d=>J9 k (jF d) d.2.2.2.2.2.2.2.2.2.2.1) (fun x=>(x.1,x.2.1,x.2.2,()))
theorem yXw:zJ prog qUt:=fA (rs:=.tup [(false,qW),(false,mE),(false,ph)]) f99 ⟨[],[],[],true⟩ (fun d=>(d.1,d.2.1,d.2.2.1)) (zN (l:=[yIs,Rk,Ch]) zM ⟨vCk,yKm,F0,trivial⟩) zK
def Rr:Nat×zH:=zQ 55 [.ptr FZ] (.tup [(false,qW),(false,qW),(false,mE),(false,ph),(false,[.bool])]) (fun k d=>Rs k (jF d)) (fun x=>(ft x ()))
theorem yQz:zJ prog Rr:=fA (rs:=.tup [(false,qW),(false,qW),(false,mE),(false,ph),(false,[.bool])]) f55 ⟨[],[],[(2,3)],true⟩ (fun d=>(d.1,d.2.1,d.2.2.1,d.2.2.2.1,d.2.2.2.2.1)) (zN (l:=[qUt]) zM ⟨yXw,trivial⟩) (yo (n:=1) (by kernel_rfl) fun i hi=>match i,hi with|0,_=>.inr ⟨by kernel_rfl,zK⟩|i+1,hi=>absurd hi (by omega))
def Rt:Nat×zH:=zQ 87 [.c (.int .i64)] (.c (.bool)) (fun k d=>EL k d.1) (fun x=>(x,()))
theorem yHy:zJ prog Rt:=fA (rs:=.c (.bool)) f87 ⟨[],[],[],false⟩ (fun d=>d.1) (zN (l:=[]) zM trivial) zK
def yJy:zL:=⟨[(1,.c (.int .i64)),(5,.c (.lit (.osl 1001000 none))),(13,.c (.int .i64)),(14,.c (.int .i64))],[.arr true (.int .i64)],[]⟩
def qTu:zL:=⟨[(5,.c (.lit (.osl 1001000 none)))],[.arr true (.int .i64)],[]⟩
def yNr (f:Ru)(d:yJy.den):Option (List Int):=f d.1.1.1 d.1.2.2.1.1 d.1.2.2.2.1.1 d.2.1
def Rv:qI:=⟨[yJy],[(.exit 0,qTu)],(List Int),fun k d=>yNr (EM k k) d,fun b x _ K=>K (.exit 0) (zV b qTu (((),()),(x,())))⟩
def yT8:qE:=⟨prog,fun _=>false,qS [Rt]⟩
def qYa:qB:=⟨[],[(5,Rv)],[],false⟩
theorem yH8:qQ yT8:=zN zM ⟨yHy,trivial⟩
theorem vEa:qH prog 1000 0 23 (qD (qG f51) 0) Rv:=lp (A:=qYa) Rv (fun d=>d.2.1) yNr EM Av yH8 zK
def Ka:Nat×zH:=zQ 51 [.c (.int .i64),.c (.int .i64)] (.c (.own (.int .i64))) (fun k d=>vq k d.1 d.2.1) (fun x=>(x,()))
theorem Rw:zJ prog Ka:=fA (rs:=.c (.own (.int .i64))) f51 qYa (fun d=>d.1) yH8 (qV vEa)
def yPr:zL:=⟨[(0,.c (.int .i64)),(1,.c (.int .i64)),(5,.c (.lit (.osl 1001000 none))),(13,.c (.int .i64)),(14,.c (.int .i64))],[.mat],[]⟩
def yBu:zL:=⟨[(5,.c (.lit (.osl 1001000 none)))],[.mat],[]⟩
def qUi (f:Rx)(d:yPr.den):Option (List (List Int)):=f d.1.1.1 d.1.2.1.1 d.1.2.2.2.1.1 d.1.2.2.2.2.1.1 d.2.1
def Ry:qI:=⟨[yPr],[(.exit 0,yBu)],(List (List Int)),fun k d=>qUi (EN k k) d,fun b x _ K=>K (.exit 0) (zV b yBu (((),()),(x,())))⟩
def yU7:qE:=⟨prog,fun _=>false,qS [Rt,Ka]⟩
def yMc:qB:=⟨[11],[(5,Ry)],[],false⟩
theorem yAj:qQ yU7:=zN zM ⟨yHy,Rw,trivial⟩
theorem vLs:qH prog 1000 0 25 (qD (qG f50) 0) Ry:=lp (A:=yMc) Ry (fun d=>d.2.1) qUi EN Ax yAj zK
def Rz:Nat×zH:=zQ 50 [.c (.int .i64),.c (.int .i64)] (.c (.mat)) (fun k d=>Aw k d.1 d.2.1) (fun x=>(x,()))
theorem yMv:zJ prog Rz:=fA (rs:=.c (.mat)) f50 yMc (fun d=>d.1) yAj (qV vLs)
def yIe:zL:=⟨[(1,.c (.lit (.ptr 1001000 0))),(2,.c (.lit (.ptr 1001001 0))),(3,.c (.int .i64)),(4,.c (.lit (.ptr 1001002 0))),(20,.c (.dat false vQ)),(21,.c (.int .i64)),(22,.c (.int .i64))],[.box true tL,.box true lg,.box true yR9,.arr true yD,.mat,.arr true (.int .i64),.mat,.arr true (.int .i64)],[(4,some 5,(.int .i64),false)]⟩
def qY7:zL:=⟨[(1,.c (.lit (.ptr 1001000 0))),(2,.c (.lit (.ptr 1001001 0))),(3,.c (.int .i64)),(4,.c (.lit (.ptr 1001002 0)))],[.box true tL,.box true lg,.box true yR9,.arr true yD,.mat,.arr true (.int .i64),.mat,.arr true (.int .i64)],[]⟩
def yJa (f:RA)(d:yIe.den):Option Kb:=f d.1.2.2.1.1 d.1.2.2.2.2.1.1 d.1.2.2.2.2.2.1.1 d.1.2.2.2.2.2.2.1.1 (vO d.2.1) (d.2.2.1.1,d.2.2.1.2.1,d.2.2.1.2.2.1) (d.2.2.2.1.1,d.2.2.2.1.2.1,d.2.2.2.1.2.2.1) d.2.2.2.2.1 d.2.2.2.2.2.1 d.2.2.2.2.2.2.1 d.2.2.2.2.2.2.2.1 d.2.2.2.2.2.2.2.2.1
def Kc:qI:=⟨[yIe],[(.exit 0,qY7)],Kb,fun k d=>yJa (RB k k) d,fun b x _ K=>K (.exit 0) (zV b qY7 (((),(),(x.1,()),(),()),((ft x.2.1 ()),(x.2.2.1.1,x.2.2.1.2.1,x.2.2.1.2.2,()),(x.2.2.2.1.1,x.2.2.2.1.2.1,x.2.2.2.1.2.2,()),x.2.2.2.2.1,x.2.2.2.2.2.1,x.2.2.2.2.2.2.1,x.2.2.2.2.2.2.2.1,x.2.2.2.2.2.2.2.2,())))⟩
def yD2:zL:=⟨[(1,.c (.lit (.ptr 1001000 0))),(2,.c (.lit (.ptr 1001001 0))),(4,.c (.lit (.ptr 1001002 0))),(34,.c (.int .i64)),(35,.c (.int .i64))],[.box true tL,.box true lg,.box true [.int .i64,.lit (.osl 1001003 none),.lit (.osl 1001004 none),.lit (.osl 1001005 none),.lit (.osl 1001006 none),.lit (.osl 1001007 none),.lit (.osl 1001008 none),.lit .nsl,.lit .nsl,.int .i64,.bool],.arr true yD,.mat,.arr true (.int .i64),.mat,.arr true (.int .i64),.mat],[(4,some 6,(.sl (.int .i64)),true)]⟩
def qYy:zL:=⟨[(2,.c (.lit (.ptr 1001000 0))),(4,.c (.lit (.ptr 1001001 0)))],[.box true lg,.box true [.int .i64,.lit (.osl 1001002 none),.lit (.osl 1001003 none),.lit (.osl 1001004 none),.lit (.osl 1001005 none),.lit (.osl 1001006 none),.lit (.osl 1001007 none),.lit .nsl,.lit .nsl,.int .i64,.bool],.arr true yD,.mat,.arr true (.int .i64),.mat,.arr true (.int .i64),.mat],[]⟩
def yGl (f:RD)(d:yD2.den):Option Ke:=f d.1.2.2.2.1.1 d.1.2.2.2.2.1.1 (vO d.2.1) (d.2.2.1.1,d.2.2.1.2.1,d.2.2.1.2.2.1) (d.2.2.2.1.1,d.2.2.2.1.2.1,d.2.2.2.1.2.2.1) d.2.2.2.2.1 d.2.2.2.2.2.1 d.2.2.2.2.2.2.1 d.2.2.2.2.2.2.2.1 d.2.2.2.2.2.2.2.2.1 d.2.2.2.2.2.2.2.2.2.1
def Kf:qI:=⟨[yD2],[(.exit 2,qYy)],Ke,fun k d=>yGl (RE k k) d,fun b x _ K=>K (.exit 2) (zV b qYy (((),(),()),((x.1.1,x.1.2.1,x.1.2.2,()),(x.2.1.1,x.2.1.2.1,x.2.1.2.2,()),x.2.2.1,x.2.2.2.1,x.2.2.2.2.1,x.2.2.2.2.2.1,x.2.2.2.2.2.2.1,x.2.2.2.2.2.2.2,())))⟩
def yV3:qE:=⟨prog,fun _=>false,qS [Rz,Ka]⟩
def RF:qB:=⟨[43,44],[(4,Kc),(9,Kf)],[],true⟩
theorem RG:qQ yV3:=zN zM ⟨yMv,Rw,trivial⟩
theorem vD5:qH prog 1000 0 48 (qD (qG f20) 0) Kc:=lp (A:=RF) Kc (fun d=>(d.1.2.2.1.1,(vO d.2.1),(d.2.2.1.1,d.2.2.1.2.1,d.2.2.1.2.2.1),(d.2.2.2.1.1,d.2.2.2.1.2.1,d.2.2.2.1.2.2.1),d.2.2.2.2.1,d.2.2.2.2.2.1,d.2.2.2.2.2.2.1,d.2.2.2.2.2.2.2.1,d.2.2.2.2.2.2.2.2.1)) yJa RB yBj RG zK
theorem vDg:qH prog 1000 0 48 (qD (qG f20) 1) Kf:=lp (A:=RF) Kf (fun d=>((d.2.1.1,d.2.1.2.1,d.2.1.2.2.1),(d.2.2.1.1,d.2.2.1.2.1,d.2.2.1.2.2.1),d.2.2.2.1,d.2.2.2.2.1,d.2.2.2.2.2.1,d.2.2.2.2.2.2.1,d.2.2.2.2.2.2.2.1,d.2.2.2.2.2.2.2.2.1)) yGl RE yHw RG zK
def RH:Nat×zH:=zQ 20 [.agg mD] (.agg Kg) (fun k d=>nL k (vO d)) (fun x=>(jJ x ()))
theorem yBc:zJ prog RH:=fA (rs:=.agg Kg) f20 RF (fun d=>(vT d)) RG (loopsOK_of (n:=2) (by kernel_rfl) fun i hi=>match i,hi with|0,_=>⟨Kc,by kernel_rfl,vD5⟩|1,_=>⟨Kf,by kernel_rfl,vDg⟩|i+2,hi=>absurd hi (by omega))
def qQn:Nat×zH:=zQ 101 [.c (.bool)] (.c (.int .i64)) (fun k d=>JP k d.1) (fun x=>(x,()))
theorem yWf:zJ prog qQn:=fA (rs:=.c (.int .i64)) f101 ⟨[],[],[],true⟩ (fun d=>d.1) (zN (l:=[]) zM trivial) zK
def yM1:zL:=⟨[(3,.c (.lit (.osl 1001000 none))),(5,.c (.int .i64)),(6,.c (.int .i64)),(11,.c (.dat false (.int .i64))),(12,.c (.int .i64)),(13,.c (.int .i64))],[.arr true (.int .u8)],[]⟩
def qS2:zL:=⟨[(3,.c (.lit (.osl 1001000 none))),(11,.c (.dat false (.int .i64))),(12,.c (.int .i64)),(13,.c (.int .i64))],[.arr true (.int .u8)],[]⟩
def qUu (f:RI)(d:yM1.den):Option Kh:=f d.1.2.1.1 d.1.2.2.1.1 d.1.2.2.2.1.1 d.1.2.2.2.2.1.1 d.1.2.2.2.2.2.1.1 d.2.1
def RJ:qI:=⟨[yM1],[(.exit 2,qS2)],Kh,fun k d=>qUu (tD k k) d,fun b x _ K=>K (.exit 2) (zV b qS2 (((),(x.1,()),(x.2.1,()),(x.2.2.1,()),()),(x.2.2.2,())))⟩
def yQ6:zL:=⟨[(3,.c (.lit (.osl 1001000 none))),(11,.c (.dat false (.int .i64))),(12,.c (.int .i64)),(13,.c (.int .i64))],[.arr true (.int .u8)],[]⟩
def yBv:zL:=⟨[(3,.c (.lit (.osl 1001000 none)))],[.arr true (.int .u8)],[]⟩
def yIw (f:RK)(d:yQ6.den):Option (List Int):=f d.1.2.1.1 d.1.2.2.1.1 d.1.2.2.2.1.1 d.2.1
def RM:qI:=⟨[yQ6],[(.exit 0,yBv)],(List Int),fun k d=>yIw (w5 k k) d,fun b x _ K=>K (.exit 0) (zV b yBv (((),()),(x,())))⟩
def vCv:qE:=⟨prog,fun _=>false,qS []⟩
def RN:qB:=⟨[],[(6,RJ),(3,RM)],[],true⟩
theorem RO:qQ vCv:=zN zM trivial
theorem yU0:qH prog 1000 0 31 (qD (qD (qG f115) 0) 0) RJ:=lp (A:=RN) RJ (fun d=>(d.1.2.1.1,d.1.2.2.1.1,d.1.2.2.2.1.1,d.2.1)) qUu tD JN RO zK
theorem yV9:qH prog 1000 0 31 (qD (qG f115) 0) RM:=lp (A:=RN) RM (fun d=>d.2.1) yIw w5 BY RO (qV yU0)
def F1:Nat×zH:=zQ 115 [.c (.dat false (.int .i64))] (.c (.own (.int .u8))) (fun k d=>tE k d.1) (fun x=>(x,()))
theorem Ki:zJ prog F1:=fA (rs:=.c (.own (.int .u8))) f115 RN (fun d=>d.1) RO (qV yV9)
def qF4:Nat×zH:=zQ 158 [.c (.dat false (.int .i64))] (.c (.own (.int .u8))) (fun k d=>JO k d.1) (fun x=>(x,()))
theorem vJ6:zJ prog qF4:=fA (rs:=.c (.own (.int .u8))) f158 ⟨[],[],[],true⟩ (fun d=>d.1) (zN (l:=[F1]) zM ⟨Ki,trivial⟩) zK
def qSk:zL:=⟨[(3,.c (.lit (.osl 1001000 none))),(6,.c (.dat false (.sl (.int .i64)))),(7,.c (.int .i64)),(8,.c (.int .i64))],[.arr true (.int .u8)],[(3,none,(.int .u8),false)]⟩
def qT3:zL:=⟨[(3,.c (.lit (.osl 1001000 none)))],[.arr true (.int .u8)],[]⟩
def qYv (f:RP)(d:qSk.den):Option (List Int):=f d.1.2.1.1 d.1.2.2.1.1 d.1.2.2.2.1.1 d.2.1
def RQ:qI:=⟨[qSk],[(.exit 0,qT3)],(List Int),fun k d=>qYv (BZ k k) d,fun b x _ K=>K (.exit 0) (zV b qT3 (((),()),(x,())))⟩
def yV6:qE:=⟨prog,fun _=>false,qS [qF4]⟩
def yGg:qB:=⟨[],[(3,RQ)],[],true⟩
theorem qVw:qQ yV6:=zN zM ⟨vJ6,trivial⟩
theorem vEg:qH prog 1000 0 18 (qD (qG f102) 0) RQ:=lp (A:=yGg) RQ (fun d=>d.2.1) qYv BZ B1 qVw zK
def qDn:Nat×zH:=zQ 102 [.c (.dat false (.sl (.int .i64)))] (.c (.own (.int .u8))) (fun k d=>FN k d.1) (fun x=>(x,()))
theorem vBb:zJ prog qDn:=fA (rs:=.c (.own (.int .u8))) f102 yGg (fun d=>d.1) qVw (qV vEg)
def yAg:zL:=⟨[(1,.c (.lit (.ptr 1001000 0))),(3,.c (.lit (.ptr 1001001 0))),(4,.c (.lit (.osl 1001002 none))),(39,.c (.dat true yD)),(40,.c (.int .i64)),(41,.c (.int .i64))],[.box true lh,.box true fT,.arr true (.sl (.int .i64))],[]⟩
def qYl:zL:=⟨[(1,.c (.lit (.ptr 1001000 0))),(3,.c (.lit (.ptr 1001001 0))),(4,.c (.lit (.osl 1001002 none)))],[.box true lh,.box true fT,.arr true (.sl (.int .i64))],[]⟩
def yJs (f:RR)(d:yAg.den):Option Kj:=f d.1.2.2.2.1.1 d.1.2.2.2.2.1.1 d.1.2.2.2.2.2.1.1 (vT d.2.1) (vM d.2.2.1) d.2.2.2.1
def Kk:qI:=⟨[yAg],[(.exit 0,qYl)],Kj,fun k d=>yJs (w7 k k) d,fun b x _ K=>K (.exit 0) (zV b qYl (((),(),(),()),((jJ x.1 ()),(wT x.2.1 ()),x.2.2,())))⟩
def yEb:zL:=⟨[(1,.c (.lit (.ptr 1001000 0))),(4,.c (.lit (.osl 1001001 none))),(79,.c (.dat true zO)),(80,.c (.int .i64)),(81,.c (.int .i64))],[.box true lh,.arr true (.sl (.int .i64))],[]⟩
def qWn:zL:=⟨[(1,.c (.lit (.ptr 1001000 0))),(4,.c (.lit (.osl 1001001 none)))],[.box true lh,.arr true (.sl (.int .i64))],[]⟩
def yJc (f:RT)(d:yEb.den):Option Kl:=f d.1.2.2.1.1 d.1.2.2.2.1.1 d.1.2.2.2.2.1.1 (vT d.2.1) d.2.2.1
def Km:qI:=⟨[yEb],[(.exit 2,qWn)],Kl,fun k d=>yJc (w8 k k) d,fun b x _ K=>K (.exit 2) (zV b qWn (((),(),()),((jJ x.1 ()),x.2,())))⟩
def ySl:qE:=⟨prog,fun _=>false,qS [qQn,qDn]⟩
def RU:qB:=⟨[],[(4,Kk),(14,Km)],[],true⟩
theorem RV:qQ ySl:=zN zM ⟨yWf,vBb,trivial⟩
theorem vG0:qH prog 1000 0 110 (qD (qG f57) 0) Kk:=lp (A:=RU) Kk (fun d=>((vT d.2.1),(vM d.2.2.1),d.2.2.2.1)) yJs w7 B4 RV zK
theorem yWc:qH prog 1000 0 110 (qD (qG f57) 1) Km:=lp (A:=RU) Km (fun d=>((vT d.2.1),d.2.2.1)) yJc w8 B5 RV zK
def Ck:Nat×zH:=zQ 57 [.agg F2] (.c (.own (.int .u8))) (fun k d=>jo k (vT d)) (fun x=>(x,()))
theorem F3:zJ prog Ck:=fA (rs:=.c (.own (.int .u8))) f57 RU (fun d=>d.1) RV (loopsOK_of (n:=2) (by kernel_rfl) fun i hi=>match i,hi with|0,_=>⟨Kk,by kernel_rfl,vG0⟩|1,_=>⟨Km,by kernel_rfl,yWc⟩|i+2,hi=>absurd hi (by omega))
def RW:Nat×zH:=zQ 153 [.c (.dat false (.int .u8))] (.tup [(false,[.own (.int .u8)]),(false,[.bool])]) (fun k d=>FL k d.1) (fun x=>(x.1,x.2,()))
theorem qXq:zJ prog RW:=fA (rs:=.tup [(false,[.own (.int .u8)]),(false,[.bool])]) f153 ⟨[],[],[],true⟩ (fun d=>(d.1,d.2.1)) (zN (l:=[]) zM trivial) zK
def yRj:Nat×zH:=zQ 154 [.ptr FZ] (.c (.int .i64)) (fun k d=>QR k (jF d)) (fun x=>(x,()))
theorem vH6:zJ prog yRj:=fA (rs:=.c (.int .i64)) f154 ⟨[],[],[],true⟩ (fun d=>d.1) (zN (l:=[]) zM trivial) zK
def Kn:Nat×zH:=zQ 216 [.ptr FZ] (.c (.bool)) (fun k d=>Ko k (jF d)) (fun x=>(x,()))
theorem RX:zJ prog Kn:=fA (rs:=.c (.bool)) f216 ⟨[],[],[],true⟩ (fun d=>d.1) (zN (l:=[]) zM trivial) zK
def Kp:Nat×zH:=yX 217 [.ptr true jq] (.c (.bool)) [vH] 0 (fun k d=>F4 k (jF d)) (fun x=>(x.1,(fS x.2 ())))
theorem qOp:zJ prog Kp:=fX (rs:=.c (.bool)) (os:=[vH]) (ns:=0) f217 ⟨[],[],[(6,3)],true⟩ 1 (fun d=>(d.1,(Cg d))) (zN (l:=[]) zM trivial) (yo (n:=1) (by kernel_rfl) fun i hi=>match i,hi with|0,_=>.inr ⟨by kernel_rfl,zK⟩|i+1,hi=>absurd hi (by omega))
def yQs:Nat×zH:=yX 155 [.ptr true jq,.c (.p (.int .i64))] (.c (.int .i64)) [vH] 0 (fun k d=>JL k (jF d) d.2.2.2.2.2.2.2.2.2.2.1) (fun x=>(x.1,(fS x.2 ())))
theorem yYi:zJ prog yQs:=fX (rs:=.c (.int .i64)) (os:=[vH]) (ns:=0) f155 ⟨[],[],[],true⟩ 1 (fun d=>(d.1,(Cg d))) (zN (l:=[Kn,J5,Kp]) zM ⟨RX,Rf,qOp,trivial⟩) zK
def RY:Nat×zH:=yX 156 [.ptr true jq,.c (.p (.int .i64)),.c (.p (.dat false (.int .u8)))] (.c (.int .i64)) [vH] 0 (fun k d=>rE k (jF d) d.2.2.2.2.2.2.2.2.2.2.1 d.2.2.2.2.2.2.2.2.2.2.2.1) (fun x=>(x.1,(fS x.2 ())))
theorem yLc:zJ prog RY:=fX (rs:=.c (.int .i64)) (os:=[vH]) (ns:=0) f156 ⟨[],[],[],true⟩ 1 (fun d=>(d.1,(Cg d))) (zN (l:=[Kn,J5,Kp]) zM ⟨RX,Rf,qOp,trivial⟩) zK
def RZ:Nat×zH:=yX 157 [.ptr true jq] (.c (.int .i64)) [vH] 0 (fun k d=>BX k (jF d)) (fun x=>(x.1,(fS x.2 ())))
theorem qUj:zJ prog RZ:=fX (rs:=.c (.int .i64)) (os:=[vH]) (ns:=0) f157 ⟨[],[],[(4,3)],true⟩ 1 (fun d=>(d.1,(Cg d))) (zN (l:=[Kn,Kp]) zM ⟨RX,qOp,trivial⟩) (yo (n:=1) (by kernel_rfl) fun i hi=>match i,hi with|0,_=>.inr ⟨by kernel_rfl,zK⟩|i+1,hi=>absurd hi (by omega))
def R0:Nat×zH:=yX 100 [.ptr true jq,.c (.p (.int .i64)),.c (.p (.int .i64)),.c (.p (.dat false (.int .u8)))] (.c (.int .i64)) [vH] 0 (fun k d=>JR k (jF d) d.2.2.2.2.2.2.2.2.2.2.1 d.2.2.2.2.2.2.2.2.2.2.2.1 d.2.2.2.2.2.2.2.2.2.2.2.2.1) (fun x=>(x.1,(fS x.2 ())))
theorem yPz:zJ prog R0:=fX (rs:=.c (.int .i64)) (os:=[vH]) (ns:=0) f100 ⟨[],[],[],true⟩ 1 (fun d=>(d.1,(Cg d))) (zN (l:=[F1,RW,yRj,yQs,RY,RZ]) zM ⟨Ki,qXq,vH6,yYi,yLc,qUj,trivial⟩) zK
def qHs:Nat×zH:=HN 56 [.ptr true jq,.c (.p (.dat false (.int .u8)))] (.tup [(false,[.link 1]),(false,mE),(false,ph),(false,qW)]) [vH,Kq] 1 (.tup [(false,[.nilp]),(false,[.own (.int .u8)]),(false,[.own (.sl (.int .u8))]),(false,qW)]) [vH] 0 (fun k d=>qSm k (jF d) d.2.2.2.2.2.2.2.2.2.2.1) (fun x=>((),x.1,x.2.1,x.2.2.1,(fS x.2.2.2.1 ((),(wT x.2.2.2.2 ()))))) (fun x=>((),x.1,x.2.1,x.2.2.1,(fS x.2.2.2 ())))
theorem vKu:zJ prog qHs:=fN (rs:=.tup [(false,[.link 1]),(false,mE),(false,ph),(false,qW)]) (os:=[vH,Kq]) (ns:=1) (rs2:=.tup [(false,[.nilp]),(false,[.own (.int .u8)]),(false,[.own (.sl (.int .u8))]),(false,qW)]) (os2:=[vH]) (ns2:=0) f56 ⟨[],[],[],true⟩ 1 (fun d=>(d.2.1,d.2.2.1,d.2.2.2.1,(yC5 d),(yU3 d))) (fun d=>(d.2.1,d.2.2.1,d.2.2.2.1,(yC5 d))) (zN (l:=[Rr,R0]) zM ⟨yQz,yPz,trivial⟩) zK
def yDu:Nat×zH:=zQ 159 [.c (.dat true (.int .u8))] (.tup [(false,pg),(false,mE),(false,[.bool])]) (fun k d=>yEe k d.1) (fun x=>(x.1,x.2.1,x.2.2,()))
theorem yS4:zJ prog yDu:=fA (rs:=.tup [(false,pg),(false,mE),(false,[.bool])]) f159 ⟨[],[],[],true⟩ (fun d=>(d.1,d.2.1,d.2.2.1)) (zN (l:=[Ch]) zM ⟨F0,trivial⟩) zK
def Kr:Nat×zH:=yX 105 [.ptr true [.p (.dat true (.int .u8)),.p (.bool)]] (.c (.own (.int .i64))) [[.fro (.int .u8),.bool]] 0 (fun k d=>Cl k (d.1,d.2.1)) (fun x=>(x.1,x.2.1,x.2.2,()))
theorem R1:zJ prog Kr:=fX (rs:=.c (.own (.int .i64))) (os:=[[.fro (.int .u8),.bool]]) (ns:=0) f105 ⟨[],[],[],true⟩ 1 (fun d=>(d.1,(d.2.1,d.2.2.1))) (zN (l:=[yDu]) zM ⟨yS4,trivial⟩) zK
def qQ9:Nat×zH:=yX 103 [.ptr true [.p (.dat true (.int .u8)),.p (.bool)],.c (.p (.int .i64))] (.c (.own (.int .i64))) [[.fro (.int .u8),.bool]] 0 (fun k d=>Ks k (d.1,d.2.1) d.2.2.1) (fun x=>(x.1,x.2.1,x.2.2,()))
theorem vKt:zJ prog qQ9:=fX (rs:=.c (.own (.int .i64))) (os:=[[.fro (.int .u8),.bool]]) (ns:=0) f103 ⟨[],[],[],true⟩ 1 (fun d=>(d.1,(d.2.1,d.2.2.1))) (zN (l:=[Kr]) zM ⟨R1,trivial⟩) zK
def yN4:zL:=⟨[(0,.c (.lit (.ptr 1001000 0))),(1,.c (.int .i64)),(5,.c (.lit (.osl 1001001 none)))],[.box true Cm,.arr true (.sl (.int .i64))],[(5,none,(.sl (.int .i64)),false)]⟩
def yKi:zL:=⟨[(0,.c (.lit (.ptr 1001000 0))),(5,.c (.lit (.osl 1001001 none)))],[.box true Cm,.arr true (.sl (.int .i64))],[]⟩
def yPq (f:R2)(d:yN4.den):Option Kt:=f d.1.2.1.1 (d.2.1.1,d.2.1.2.1) d.2.2.1
def R3:qI:=⟨[yN4],[(.exit 0,yKi)],Kt,fun k d=>yPq (R4 k k) d,fun b x _ K=>K (.exit 0) (zV b yKi (((),(),()),((x.1.1,x.1.2,()),x.2,())))⟩
def vB0:qE:=⟨prog,fun _=>false,qS [Kr]⟩
def qWd:qB:=⟨[],[(2,R3)],[],true⟩
theorem yRb:qQ vB0:=zN zM ⟨R1,trivial⟩
theorem vH3:qH prog 1000 1 23 (qD (qG f104) 0) R3:=lp (A:=qWd) R3 (fun d=>((d.2.1.1,d.2.1.2.1),d.2.2.1)) yPq R4 yM9 yRb zK
def qFw:Nat×zH:=yX 104 [.ptr true [.p (.dat true (.int .u8)),.p (.bool)],.c (.p (.int .i64))] (.c (.own (.sl (.int .i64)))) [[.fro (.int .u8),.bool]] 0 (fun k d=>Ku k (d.1,d.2.1) d.2.2.1) (fun x=>(x.1,x.2.1,x.2.2,()))
theorem yZg:zJ prog qFw:=fX (rs:=.c (.own (.sl (.int .i64)))) (os:=[[.fro (.int .u8),.bool]]) (ns:=0) f104 qWd 1 (fun d=>(d.1,(d.2.1,d.2.2.1))) yRb (qV vH3)
def qI9:Nat×zH:=zQ 106 [.c (.dat false (.int .u8)),.c (.dat false (.int .u8))] (.c (.bool)) (fun k d=>qUz k d.1 d.2.1) (fun x=>(x,()))
theorem vLg:zJ prog qI9:=fA (rs:=.c (.bool)) f106 ⟨[],[],[],true⟩ (fun d=>d.1) (zN (l:=[]) zM trivial) zK
def yPn:zL:=⟨[(0,.c (.dat true (.int .u8))),(2,.c (.lit (.ptr 1001000 0))),(4,.c (.lit (.ptr 1001001 0))),(5,.c (.lit (.osl 1001002 none))),(6,.c (.lit (.ptr 1001003 0))),(7,.c (.int .i64))],[.box true lg,.box true Cm,.arr true (.int .i64),.box true qWx,.arr true yD],[(6,some 1,yD,false)]⟩
def yJf:zL:=⟨[(0,.c (.dat true (.int .u8))),(2,.c (.lit (.ptr 1001000 0))),(4,.c (.lit (.ptr 1001001 0))),(5,.c (.lit (.osl 1001002 none))),(6,.c (.lit (.ptr 1001003 0)))],[.box true lg,.box true Cm,.arr true (.int .i64),.box true qWx,.arr true yD],[]⟩
def yM8 (f:R5)(d:yPn.den):Option Kv:=f d.1.1.1 d.1.2.2.2.2.2.1.1 (d.2.1.1,d.2.1.2.1,d.2.1.2.2.1) (d.2.2.1.1,d.2.2.1.2.1) d.2.2.2.1 (d.2.2.2.2.1.1,d.2.2.2.2.1.2.1,d.2.2.2.2.1.2.2.1) d.2.2.2.2.2.1
def Kw:qI:=⟨[yPn],[(.exit 0,yJf)],Kv,fun k d=>yM8 (R6 k k) d,fun b x _ K=>K (.exit 0) (zV b yJf (((x.1,()),(),(),(),(),()),((x.2.1.1,x.2.1.2.1,x.2.1.2.2,()),(x.2.2.1.1,x.2.2.1.2,()),x.2.2.2.1,(x.2.2.2.2.1.1,x.2.2.2.2.1.2.1,x.2.2.2.2.1.2.2,()),x.2.2.2.2.2,())))⟩
def qVr:zL:=⟨[(0,.c (.dat true (.int .u8))),(2,.c (.lit (.ptr 1001000 0))),(4,.c (.lit (.ptr 1001001 0))),(6,.c (.lit (.ptr 1001002 0))),(9,.c (.int .i64))],[.box true lg,.box true Cm,.box true qUd,.arr true yD,.arr true (.sl (.int .i64)),.arr true (.int .i64),.arr true (.sl (.int .i64)),.arr true (.int .i64),.arr true (.sl (.int .i64)),.arr true zO],[(6,some 7,zO,false)]⟩
def yRy:zL:=⟨[(0,.c (.dat true (.int .u8))),(2,.c (.lit (.ptr 1001000 0))),(4,.c (.lit (.ptr 1001001 0))),(6,.c (.lit (.ptr 1001002 0)))],[.box true lg,.box true Cm,.box true qUd,.arr true yD,.arr true (.sl (.int .i64)),.arr true (.int .i64),.arr true (.sl (.int .i64)),.arr true (.int .i64),.arr true (.sl (.int .i64)),.arr true zO],[]⟩
def qV0 (f:R7)(d:qVr.den):Option Kx:=f d.1.1.1 d.1.2.2.2.2.1.1 (d.2.1.1,d.2.1.2.1,d.2.1.2.2.1) (d.2.2.1.1,d.2.2.1.2.1) (d.2.2.2.1.1,d.2.2.2.1.2.1,d.2.2.2.1.2.2.1) d.2.2.2.2.1 d.2.2.2.2.2.1 d.2.2.2.2.2.2.1 d.2.2.2.2.2.2.2.1 d.2.2.2.2.2.2.2.2.1 d.2.2.2.2.2.2.2.2.2.1 d.2.2.2.2.2.2.2.2.2.2.1
def Ky:qI:=⟨[qVr],[(.exit 2,yRy)],Kx,fun k d=>qV0 (R8 k k) d,fun b x _ K=>K (.exit 2) (zV b yRy (((x.1,()),(),(),(),()),((x.2.1.1,x.2.1.2.1,x.2.1.2.2,()),(x.2.2.1.1,x.2.2.1.2,()),(x.2.2.2.1.1,x.2.2.2.1.2.1,x.2.2.2.1.2.2,()),x.2.2.2.2.1,x.2.2.2.2.2.1,x.2.2.2.2.2.2.1,x.2.2.2.2.2.2.2.1,x.2.2.2.2.2.2.2.2.1,x.2.2.2.2.2.2.2.2.2.1,x.2.2.2.2.2.2.2.2.2.2,())))⟩
def ySm:qE:=⟨prog,fun _=>false,qS [qQ9,qFw,Kr,Ck,qI9]⟩
def R9:qB:=⟨[],[(5,Kw),(15,Ky)],[],true⟩
theorem Sa:qQ ySm:=zN zM ⟨vKt,yZg,R1,F3,vLg,trivial⟩
theorem vIh:qH prog 1000 0 146 (qD (qG f58) 0) Kw:=lp (A:=R9) Kw (fun d=>(d.1.1.1,(d.2.1.1,d.2.1.2.1,d.2.1.2.2.1),(d.2.2.1.1,d.2.2.1.2.1),d.2.2.2.1,(d.2.2.2.2.1.1,d.2.2.2.2.1.2.1,d.2.2.2.2.1.2.2.1),d.2.2.2.2.2.1)) yM8 R6 yAr Sa zK
theorem yUi:qH prog 1000 0 146 (qD (qG f58) 1) Ky:=lp (A:=R9) Ky (fun d=>(d.1.1.1,(d.2.1.1,d.2.1.2.1,d.2.1.2.2.1),(d.2.2.1.1,d.2.2.1.2.1),(d.2.2.2.1.1,d.2.2.2.1.2.1,d.2.2.2.1.2.2.1),d.2.2.2.2.1,d.2.2.2.2.2.1,d.2.2.2.2.2.2.1,d.2.2.2.2.2.2.2.1,d.2.2.2.2.2.2.2.2.1,d.2.2.2.2.2.2.2.2.2.1,d.2.2.2.2.2.2.2.2.2.2.1)) qV0 R8 yOd Sa zK
def Sb:Nat×zH:=zQ 58 [.c (.dat true (.int .u8))] (.tup [(true,pj),(false,[.bool])]) (fun k d=>Kz k d.1) (fun x=>(jJ x.1 (x.2,())))
theorem yE8:zJ prog Sb:=fA (rs:=.tup [(true,pj),(false,[.bool])]) f58 R9 (fun d=>((vT d),d.2.2.2.2.2.2.2.2.2.2.2.1)) Sa (loopsOK_of (n:=2) (by kernel_rfl) fun i hi=>match i,hi with|0,_=>⟨Kw,by kernel_rfl,vIh⟩|1,_=>⟨Ky,by kernel_rfl,yUi⟩|i+2,hi=>absurd hi (by omega))
def KA:Nat×zH:=zQ 67 [.c (.int .i64)] (.c (.int .i64)) (fun k d=>qx k d.1) (fun x=>(x,()))
theorem Sc:zJ prog KA:=fA (rs:=.c (.int .i64)) f67 ⟨[],[],[],true⟩ (fun d=>d.1) (zN (l:=[]) zM trivial) zK
def F5:Nat×zH:=zQ 29 [.c (.dat false (.int .u8))] (.tup [(true,mF),(false,qW)]) (fun k d=>lQ k d.1) (fun x=>(kU x.1 (x.2,())))
theorem KB:zJ prog F5:=fA (rs:=.tup [(true,mF),(false,qW)]) f29 ⟨[],[],[],true⟩ (fun d=>((jX d),d.2.2.2.2.2.2.2.1)) (zN (l:=[Ch,KA]) zM ⟨F0,Sc,trivial⟩) zK
def Sd:Nat×zH:=zQ 60 [.c (.dat false (.int .u8))] (.tup [(true,Cn),(false,qW)]) (fun k d=>Se k d.1) (fun x=>(Co x.1 (x.2,())))
theorem yGs:zJ prog Sd:=fA (rs:=.tup [(true,Cn),(false,qW)]) f60 ⟨[],[],[],true⟩ (fun d=>((lZ d),d.2.2.2.2.2.2.2.2.1)) (zN (l:=[Ch,F5]) zM ⟨F0,KB,trivial⟩) zK
def yHe:Nat×zH:=zQ 132 [.c (.int .i64)] (.c (.bool)) (fun k d=>JB k d.1) (fun x=>(x,()))
theorem vCe:zJ prog yHe:=fA (rs:=.c (.bool)) f132 ⟨[],[],[],true⟩ (fun d=>d.1) (zN (l:=[]) zM trivial) zK
def yQ0:Nat×zH:=zQ 133 [.c (.int .i64)] (.c (.bool)) (fun k d=>FF k d.1) (fun x=>(x,()))
theorem vLe:zJ prog yQ0:=fA (rs:=.c (.bool)) f133 ⟨[],[],[],true⟩ (fun d=>d.1) (zN (l:=[]) zM trivial) zK
def qZ1:zL:=⟨[(13,.c (.dat true (.int .i64))),(14,.c (.int .i64)),(15,.c (.int .i64))],[],[]⟩
def yCs:zL:=⟨[],[],[]⟩
def qZy:zL:=⟨[(2,.c (.bool))],[],[]⟩
def yNd (f:Sf)(d:qZ1.den):Option (Unit⊕Bool):=f d.1.1.1 d.1.2.1.1 d.1.2.2.1.1
def Sg:qI:=⟨[qZ1],[(.exit 0,yCs),(.ret,qZy)],(Unit⊕Bool),fun k d=>yNd (FE k k) d,fun b x _ K=>match x with|.inl x=>K (.exit 0) (zV b yCs ((),()))|.inr x=>K .ret (zV b qZy (((x,()),()),()))⟩
def vCs:qE:=⟨prog,fun _=>false,qS [KA]⟩
def yDl:qB:=⟨[],[(5,Sg)],[],true⟩
theorem yFy:qQ vCs:=zN zM ⟨Sc,trivial⟩
theorem vDv:qH prog 1000 0 22 (qD (qG f134) 0) Sg:=lp (A:=yDl) Sg (fun d=>match d with|.inl d=>.inl ()|.inr d=>.inr d.1.1.1) yNd FE JA yFy zK
def Sh:Nat×zH:=zQ 134 [.agg wE] (.c (.bool)) (fun k d=>nK k (jX d)) (fun x=>(x,()))
theorem yNk:zJ prog Sh:=fA (rs:=.c (.bool)) f134 yDl (fun d=>d.1) yFy (qV vDv)
def qS9:Nat×zH:=zQ 88 [.agg mD,.agg tM,.agg F6] (.c (.int .i64)) (fun k d=>tC k (vO d) (tH d) (yRe d)) (fun x=>(x,()))
theorem yS0:zJ prog qS9:=fA (rs:=.c (.int .i64)) f88 ⟨[],[],[],true⟩ (fun d=>d.1) (zN (l:=[yHe,yQ0,Sh]) zM ⟨vCe,vLe,yNk,trivial⟩) zK
def qMl:Nat×zH:=zQ 194 [.agg wE,.ptr [.int .i64]] (.c (.bool)) (fun k d=>(pn (Qt k) d)) (fun x=>(x,()))
theorem vBw:zJ prog qMl:=fA (rs:=.c (.bool)) f194 ⟨[],[],[],false⟩ (fun d=>d.1) (zN (l:=[]) zM trivial) zK
def yJj:zL:=⟨[(1,.c (.lit (.fn 194 [1001000]))),(5,.c (.lit (.osl 1001001 none))),(8,.c (.dat false zO)),(9,.c (.int .i64)),(10,.c (.int .i64))],[.robox [.int .i64],.arr true zO],[(5,none,zO,false)]⟩
def qY2:zL:=⟨[(5,.c (.lit (.osl 1001000 none)))],[.arr true zO],[]⟩
def qW0 (f:Si)(d:yJj.den):Option KC:=f d.1.2.2.1.1 d.1.2.2.2.1.1 d.1.2.2.2.2.1.1 d.2.1.1 d.2.2.1
def Sj:qI:=⟨[yJj],[(.exit 0,qY2)],KC,fun k d=>qW0 (Fk k k) d,fun b x _ K=>K (.exit 0) (zV b qY2 (((),()),(x,())))⟩
def yXp:qE:=⟨prog,fun _=>false,qS [qMl]⟩
def yQx:qB:=⟨[],[(3,Sj)],[],false⟩
theorem yPh:qQ yXp:=zN zM ⟨vBw,trivial⟩
theorem vMi:qH prog 1000 0 23 (qD (qG f193) 0) Sj:=lp (A:=yQx) Sj (fun d=>d.2.1) qW0 Fk Bp yPh zK
def yBa:Nat×zH:=zQ 193 [.c (.dat false zO),.fn 194 [[.int .i64]]] (.c (.own zO)) (fun k d=>Qs k d.1 d.2.1) (fun x=>(x,()))
theorem vK7:zJ prog yBa:=fA (rs:=.c (.own zO)) f193 yQx (fun d=>d.1) yPh (qV vMi)
def Sk:Nat×zH:=zQ 135 [.c (.dat false zO),.c (.int .i64)] (.c (.own zO)) (fun k d=>Fj k d.1 d.2.1) (fun x=>(x,()))
theorem qTz:zJ prog Sk:=fA (rs:=.c (.own zO)) f135 ⟨[],[],[],false⟩ (fun d=>d.1) (zN (l:=[yBa]) zM ⟨vK7,trivial⟩) zK
def yA4:Nat×zH:=yX 90 [.ptr true [.p (.int .i64),.p (.nil),.p (.int .i64),.p (.int .i64),.p (.int .i64),.p (.int .i64),.p (.nil),.p (.nil),.p (.nil),.p (.nil),.p (.nil),.p (.nil),.p (.nil),.p (.nil),.p (.int .i64),.p (.bool),.p (.int .i64),.p (.nil)],.c (.p (.int .i64)),.c (.p (.dat false (.int .i64)))] (.tup []) [yPc] 0 (fun k d=>qTq k (d.1,(Sl d (d.2.2.2.2.2.2.2.2.2.2.2.2.2.2.1,d.2.2.2.2.2.2.2.2.2.2.2.2.2.2.2.1,d.2.2.2.2.2.2.2.2.2.2.2.2.2.2.2.2.1))) d.2.2.2.2.2.2.2.2.2.2.2.2.2.2.2.2.2.2.1 d.2.2.2.2.2.2.2.2.2.2.2.2.2.2.2.2.2.2.2.1) (fun x=>(wV x ()))
theorem vKo:zJ prog yA4:=fX (rs:=.tup []) (os:=[yPc]) (ns:=0) f90 ⟨[],[],[],true⟩ 1 (fun d=>(jQ d)) (zN (l:=[]) zM trivial) zK
def yOy:Nat×zH:=zQ 89 [.agg tM,.c (.int .i64)] (.c (.own qP)) (fun k d=>FG k (vT d) d.2.2.2.2.2.2.2.2.2.2.2.1) (fun x=>(x,()))
theorem vBc:zJ prog yOy:=fA (rs:=.c (.own qP)) f89 ⟨[],[],[],true⟩ (fun d=>d.1) (zN (l:=[Sk,yA4]) zM ⟨qTz,vKo,trivial⟩) zK
def Sm:Nat×zH:=yX 90 [.ptr true tN,.c (.p (.int .i64)),.c (.p (.dat false (.int .i64)))] (.tup []) [wG] 0 (fun k d=>JG k (jt d) d.2.2.2.2.2.2.2.2.2.2.2.2.2.2.2.2.2.2.1 d.2.2.2.2.2.2.2.2.2.2.2.2.2.2.2.2.2.2.2.1) (fun x=>(wV x ()))
theorem yPe:zJ prog Sm:=fX (rs:=.tup []) (os:=[wG]) (ns:=0) f90 ⟨[],[],[],true⟩ 1 (fun d=>(jQ d)) (zN (l:=[]) zM trivial) zK
def hZ:Nat×zH:=zQ 107 [.c (.int .i64),.c (.int .i64),.c (.int .i64)] (.c (.bool)) (fun k d=>yY k d.1 d.2.1 d.2.2.1) (fun x=>(x,()))
theorem iT:zJ prog hZ:=fA (rs:=.c (.bool)) f107 ⟨[],[],[],true⟩ (fun d=>d.1) (zN (l:=[]) zM trivial) zK
def yRo:Nat×zH:=zQ 271 [.agg mD,.c (.int .i64)] (.c (.bool)) (fun k d=>Ft k (vO d) d.2.2.2.2.2.1) (fun x=>(x,()))
theorem yZj:zJ prog yRo:=fA (rs:=.c (.bool)) f271 ⟨[],[],[],true⟩ (fun d=>d.1) (zN (l:=[]) zM trivial) zK
def yLg:Nat×zH:=zQ 238 [.agg mD,.c (.int .i64),.agg wE] (.c (.bool)) (fun k d=>Jl k (vO d) d.2.2.2.2.2.1 (yBg d)) (fun x=>(x,()))
theorem vAl:zJ prog yLg:=fA (rs:=.c (.bool)) f238 ⟨[],[],[],true⟩ (fun d=>d.1) (zN (l:=[yRo]) zM ⟨yZj,trivial⟩) zK
def KD:Nat×zH:=zQ 200 [.agg mD,.c (.int .i64),.c (.int .i64)] (.c (.int .i64)) (fun k d=>wo k (vO d) d.2.2.2.2.2.1 d.2.2.2.2.2.2.1) (fun x=>(x,()))
theorem Sn:zJ prog KD:=fA (rs:=.c (.int .i64)) f200 ⟨[],[],[],true⟩ (fun d=>d.1) (zN (l:=[]) zM trivial) zK
def So:Nat×zH:=zQ 195 [.agg mD,.c (.int .i64),.agg wE] (.c (.int .i64)) (fun k d=>BH k (vO d) d.2.2.2.2.2.1 (yBg d)) (fun x=>(x,()))
theorem qX5:zJ prog So:=fA (rs:=.c (.int .i64)) f195 ⟨[],[],[],true⟩ (fun d=>d.1) (zN (l:=[yLg,KD]) zM ⟨vAl,Sn,trivial⟩) zK
def yE6:Nat×zH:=zQ 285 [.c (.int .i64)] (.c (.bool)) (fun k d=>IM k d.1) (fun x=>(x,()))
theorem yXx:zJ prog yE6:=fA (rs:=.c (.bool)) f285 ⟨[],[],[],true⟩ (fun d=>d.1) (zN (l:=[]) zM trivial) zK
def qK3:Nat×zH:=zQ 257 [.c (.int .i64),.c (.int .i64)] (.c (.bool)) (fun k d=>IL k d.1 d.2.1) (fun x=>(x,()))
theorem vK5:zJ prog qK3:=fA (rs:=.c (.bool)) f257 ⟨[],[],[],true⟩ (fun d=>d.1) (zN (l:=[yE6]) zM ⟨yXx,trivial⟩) zK
def qG1:Nat×zH:=zQ 258 [.c (.int .i64)] (.c (.bool)) (fun k d=>IP k d.1) (fun x=>(x,()))
theorem vIm:zJ prog qG1:=fA (rs:=.c (.bool)) f258 ⟨[],[],[],true⟩ (fun d=>d.1) (zN (l:=[]) zM trivial) zK
def qWu:zL:=⟨[(0,.c (.dat false (.int .i64))),(1,.c (.int .i64)),(6,.c (.int .i64)),(7,.c (.int .i64)),(8,.c (.int .i64))],[],[]⟩
def yBh:zL:=⟨[(0,.c (.dat false (.int .i64))),(1,.c (.int .i64)),(6,.c (.int .i64)),(7,.c (.int .i64))],[],[]⟩
def yCl (f:Sp)(d:qWu.den):Option KE:=f d.1.1.1 d.1.2.1.1 d.1.2.2.1.1 d.1.2.2.2.1.1 d.1.2.2.2.2.1.1
def Sq:qI:=⟨[qWu],[(.exit 0,yBh)],KE,fun k d=>yCl (E6 k k) d,fun b x _ K=>K (.exit 0) (zV b yBh (((x.1,()),(x.2.1,()),(x.2.2.1,()),(x.2.2.2,()),()),()))⟩
def vEf:qE:=⟨prog,fun _=>false,qS [qK3,qG1]⟩
def yBm:qB:=⟨[],[(3,Sq)],[],true⟩
theorem yP2:qQ vEf:=zN zM ⟨vK5,vIm,trivial⟩
theorem vMy:qH prog 1000 0 54 (qD (qG f222) 0) Sq:=lp (A:=yBm) Sq (fun d=>(d.1.1.1,d.1.2.1.1,d.1.2.2.1.1,d.1.2.2.2.1.1)) yCl E6 IN yP2 zK
def Sr:Nat×zH:=zQ 222 [.c (.dat false (.int .i64)),.c (.int .i64)] (.tup [(false,qW),(false,[.bool])]) (fun k d=>A4 k d.1 d.2.1) (fun x=>(x.1,x.2,()))
theorem yPk:zJ prog Sr:=fA (rs:=.tup [(false,qW),(false,[.bool])]) f222 yBm (fun d=>(d.1,d.2.1)) yP2 (qV vMy)
def F7:Nat×zH:=sV 240 false (.int .i64) (.own (.int .i64)) np
theorem KF:zJ prog F7:=fC f240 ⟨[],[],[],false⟩ (zN (l:=[]) zM trivial) zK
theorem yZl (A X:Option Addr)(n c vc:Nat)(w w':World)(rv:Value)(hr:(Builtin.append_ #[37,37] 37 #[.slice A n c,.slice X 1 vc]).run prog w=.ok rv w'):
    Calls prog 239 #[.slice A n c,.int .i64 n,.slice X 1 vc] w fun e mu=>e=.returned rv∧mu=w':=by
  have t0:prog.underlying 37=some (.slice 2):=by kernel_rfl
  have t3:prog.underlying 3=some (.int .i64):=by kernel_rfl
  have z0:∀w,(Go.sizeOf 2).run prog w=.ok 1 w:=fun w=>by kernel_rfl
  have u0:=run_underlying t0;have u3:=run_underlying t3
  go_enter Proofs.Tryz.func239,Proofs.Tryz.ntmps239
  go_wp2_with (at_builtin;refine Lib.wpList_append_run _ rfl _ _ _ _ rfl _ _ rfl rfl _ _ hr ?_)
  all_goals (go_ret;exact⟨rfl,rfl⟩)
theorem vAu:HO prog 239 37 3 1 where
  ends:=yZl
  grow B off n c i X vo vc N G w w1 w2 w3 hi hnc aX Ss hG hz hA hB:=by
    simp only[Nat.mul_one] at hA hB
    have t0:prog.underlying 37=some (.slice 2):=by kernel_rfl
    have t3:prog.underlying 3=some (.int .i64):=by kernel_rfl
    have z0:∀w,(Go.sizeOf 2).run prog w=.ok 1 w:=fun w=>by kernel_rfl
    have u0:=run_underlying t0;have u3:=run_underlying t3
    have mixed:prog.follows .mixedOrders=true:=zM
    have Su:¬((i:Int)=(n:Int)):=by omega
    have Sv:IntKind.i64.wrap ((i:Int)+1)=(i:Int)+1:=by rw[IntKind.wrap_i64];omega
    have pO:(0:Int)≤(i:Int)+1:=by omega
    have ey:i≤n:=by omega
    have eZ:((i:Int)+1).toNat=i+1:=by omega
    have JY:¬(c=i):=by omega
    have hz3:(c:Int)<(n:Int)+1:=by omega
    have Sw:(i:Int)≤(n:Int):=by omega
    have hGi:¬(G=i):=by omega
    have Sx:¬(G=i+1):=by omega
    go_enter Proofs.Tryz.func239,Proofs.Tryz.ntmps239
    go_wp2_with (first
      |(at_builtin;refine Lib.wpList_append_run _ rfl _ _ _ _ rfl _ _ rfl rfl _ _ hz ?_)
      |(at_builtin;refine HS _ rfl _ _ 37 37 rfl _ _ rfl rfl (hA _) ?_))
    go_region_law_o (refine HT rfl _ _ 37 37 rfl (.slice (some ⟨N,(i+1),none⟩) (n+1-(i+1)) (G-(i+1))) (.slice (some ⟨B,off+i,none⟩) (n-i) (c-i)) (by simp[Act.eval,Act.put]) (by simp[Act.eval,Act.put]) (hB (G-(i+1)) (c-i)) ?_)
    go_wp2
    go_ret
    exact⟨rfl,rfl⟩
  shift B off n c i X vo vc w w1 w2 hi aX Ss mV hA hB:=by
    simp only[Nat.mul_one] at hA hB
    have t0:prog.underlying 37=some (.slice 2):=by kernel_rfl
    have t3:prog.underlying 3=some (.int .i64):=by kernel_rfl
    have z0:∀w,(Go.sizeOf 2).run prog w=.ok 1 w:=fun w=>by kernel_rfl
    have u0:=run_underlying t0;have u3:=run_underlying t3
    have mixed:prog.follows .mixedOrders=true:=zM
    have Su:¬((i:Int)=(n:Int)):=by omega
    have Sv:IntKind.i64.wrap ((i:Int)+1)=(i:Int)+1:=by rw[IntKind.wrap_i64];omega
    have pO:(0:Int)≤(i:Int)+1:=by omega
    have ey:i≤n:=by omega
    have eZ:((i:Int)+1).toNat=i+1:=by omega
    have JY:¬(c=i):=by omega
    have rA:=fun lb cb=>Zy (P:=prog) (fo:=272) (tb:=4) (e:=2) (size:=1) Proofs.Tryz.func272 (by kernel_rfl) (by kernel_rfl) (by kernel_rfl) (by kernel_rfl) t0 z0 mV vo (off+(i+1)) vc lb cb
    have hb2:¬(c=i+1):=by omega
    have Sw:(i:Int)≤(n:Int)+1:=by omega
    go_enter Proofs.Tryz.func239,Proofs.Tryz.ntmps239
    go_wp2_with (simp only[rA])
    go_region_law_o (refine HT rfl _ _ 37 37 rfl (.slice (some ⟨B,off+(i+1),none⟩) (n-i) (c-(i+1))) (.slice (some ⟨B,off+i,none⟩) (n+1-i) (c-i)) (by simp[Act.eval,Act.put]) (by simp[Act.eval,Act.put]) (hA _ _) ?_)
    go_wp2_with (at_builtin;refine HS _ rfl _ _ 37 37 rfl _ _ rfl rfl (hB _) ?_)
    go_ret
    exact⟨rfl,rfl⟩
def yBi:Nat×zH:=(239,OT (.int .i64) 8)
theorem vHy:zJ prog yBi:=ZG (e:=2) (fn:=f239) vAu
def Sy:Nat×zH:=zQ 196 [.c (.dat true (.int .i64)),.c (.int .i64)] (.tup [(false,[.fro (.int .i64)]),(false,qW)]) (fun k d=>A5 k d.1 d.2.1) (fun x=>(x.1,x.2,()))
theorem qT8:zJ prog Sy:=fA (rs:=.tup [(false,[.fro (.int .i64)]),(false,qW)]) f196 ⟨[],[],[],true⟩ (fun d=>(d.1,d.2.1)) (zN (l:=[Sr,F7,yBi]) zM ⟨yPk,KF,vHy,trivial⟩) zK
def qGh:Nat×zH:=zQ 149 [.agg wE,.ptr [.int .i64]] (.c (.bool)) (fun k d=>(pn (P0 k) d)) (fun x=>(x,()))
theorem yVs:zJ prog qGh:=fA (rs:=.c (.bool)) f149 ⟨[],[],[],false⟩ (fun d=>d.1) (zN (l:=[]) zM trivial) zK
def yNj:zL:=⟨[(0,.c (.dat false zO)),(1,.c (.lit (.fn 149 [1001000]))),(7,.c (.int .i64)),(8,.c (.int .i64))],[.robox [.int .i64]],[]⟩
def yB7:zL:=⟨[],[],[]⟩
def qZ0:zL:=⟨[(4,.c (.int .i64))],[],[]⟩
def yBb (f:Sz)(d:yNj.den):Option (Unit⊕Int):=f d.1.1.1 d.1.2.2.1.1 d.1.2.2.2.1.1 d.2.1.1
def SA:qI:=⟨[yNj],[(.exit 0,yB7),(.ret,qZ0)],(Unit⊕Int),fun k d=>yBb (AQ k k) d,fun b x _ K=>match x with|.inl x=>K (.exit 0) (zV b yB7 ((),()))|.inr x=>K .ret (zV b qZ0 (((x,()),()),()))⟩
def yX0:qE:=⟨prog,fun _=>false,qS [qGh]⟩
def qTj:qB:=⟨[],[(2,SA)],[],false⟩
theorem yD7:qQ yX0:=zN zM ⟨yVs,trivial⟩
theorem yVr:qH prog 1000 0 19 (qD (qG f148) 0) SA:=lp (A:=qTj) SA (fun d=>match d with|.inl d=>.inl ()|.inr d=>.inr d.1.1.1) yBb AQ AR yD7 zK
def yRp:Nat×zH:=zQ 148 [.c (.dat false zO),.fn 149 [[.int .i64]]] (.c (.int .i64)) (fun k d=>P1 k d.1 d.2.1) (fun x=>(x,()))
theorem vGy:zJ prog yRp:=fA (rs:=.c (.int .i64)) f148 qTj (fun d=>d.1) yD7 (qV yVr)
def xi:Nat×zH:=zQ 94 [.c (.dat false zO),.c (.int .i64)] (.c (.int .i64)) (fun k d=>my k d.1 d.2.1) (fun x=>(x,()))
theorem Cp:zJ prog xi:=fA (rs:=.c (.int .i64)) f94 ⟨[],[],[],false⟩ (fun d=>d.1) (zN (l:=[yRp]) zM ⟨vGy,trivial⟩) zK
def yQy:Nat×zH:=zQ 286 [.c (.int .i64)] (.c (.bool)) (fun k d=>IH k d.1) (fun x=>(x,()))
theorem yZv:zJ prog yQy:=fA (rs:=.c (.bool)) f286 ⟨[],[],[],false⟩ (fun d=>d.1) (zN (l:=[]) zM trivial) zK
def yI5:Nat×zH:=zQ 260 [.c (.int .i64),.c (.int .i64)] (.c (.int .i64)) (fun k d=>E1 k d.1 d.2.1) (fun x=>(x,()))
theorem yV5:zJ prog yI5:=fA (rs:=.c (.int .i64)) f260 ⟨[],[],[],false⟩ (fun d=>d.1) (zN (l:=[yQy]) zM ⟨yZv,trivial⟩) zK
def yR2:zL:=⟨[(3,.c (.int .i64)),(6,.c (.dat false (.int .i64))),(7,.c (.int .i64)),(8,.c (.int .i64))],[],[]⟩
def yAx:zL:=⟨[(3,.c (.int .i64))],[],[]⟩
def yQ2:zL:=⟨[(2,.c (.int .i64))],[],[]⟩
def yL1 (f:SB)(d:yR2.den):Option (Int⊕Int):=f d.1.1.1 d.1.2.1.1 d.1.2.2.1.1 d.1.2.2.2.1.1
def SC:qI:=⟨[yR2],[(.exit 0,yAx),(.ret,yQ2)],(Int⊕Int),fun k d=>yL1 (AT k k) d,fun b x _ K=>match x with|.inl x=>K (.exit 0) (zV b yAx (((x,()),()),()))|.inr x=>K .ret (zV b yQ2 (((x,()),()),()))⟩
def ySy:qE:=⟨prog,fun _=>false,qS []⟩
def yCi:qB:=⟨[],[(3,SC)],[],false⟩
theorem yFc:qQ ySy:=zN zM trivial
theorem yW9:qH prog 1000 0 18 (qD (qG f259) 0) SC:=lp (A:=yCi) SC (fun d=>match d with|.inl d=>.inl d.1.1.1|.inr d=>.inr d.1.1.1) yL1 AT qUa yFc zK
def qXd:Nat×zH:=zQ 259 [.c (.dat false (.int .i64))] (.c (.int .i64)) (fun k d=>IG k d.1) (fun x=>(x,()))
theorem yT3:zJ prog qXd:=fA (rs:=.c (.int .i64)) f259 yCi (fun d=>d.1) yFc (qV yW9)
def KG:Nat×zH:=zQ 224 [.agg wE,.agg wE] (.c (.int .i64)) (fun k d=>(F8 (AU k) d)) (fun x=>(x,()))
theorem SD:zJ prog KG:=fA (rs:=.c (.int .i64)) f224 ⟨[],[],[],false⟩ (fun d=>d.1) (zN (l:=[yI5,qXd]) zM ⟨yV5,yT3,trivial⟩) zK
def KH:Nat×zH:=sV 242 false zO (.own zO) tj
theorem SE:zJ prog KH:=fC f242 ⟨[],[],[],false⟩ (zN (l:=[]) zM trivial) zK
theorem vKw (A X:Option Addr)(n c vc:Nat)(w w':World)(rv:Value)(hr:(Builtin.append_ #[40,40] 40 #[.slice A n c,.slice X 1 vc]).run prog w=.ok rv w'):
    Calls prog 241 #[.slice A n c,.int .i64 n,.slice X 1 vc] w fun e mu=>e=.returned rv∧mu=w':=by
  have t0:prog.underlying 40=some (.slice 142):=by kernel_rfl
  have t3:prog.underlying 3=some (.int .i64):=by kernel_rfl
  have z0:∀w,(Go.sizeOf 142).run prog w=.ok 7 w:=fun w=>by kernel_rfl
  have u0:=run_underlying t0;have u3:=run_underlying t3
  go_enter Proofs.Tryz.func241,Proofs.Tryz.ntmps241
  go_wp2_with (at_builtin;refine Lib.wpList_append_run _ rfl _ _ _ _ rfl _ _ rfl rfl _ _ hr ?_)
  all_goals (go_ret;exact⟨rfl,rfl⟩)
theorem yXl:HO prog 241 40 3 7 where
  ends:=vKw
  grow B off n c i X vo vc N G w w1 w2 w3 hi hnc aX Ss hG hz hA hB:=by
    have t0:prog.underlying 40=some (.slice 142):=by kernel_rfl
    have t3:prog.underlying 3=some (.int .i64):=by kernel_rfl
    have z0:∀w,(Go.sizeOf 142).run prog w=.ok 7 w:=fun w=>by kernel_rfl
    have u0:=run_underlying t0;have u3:=run_underlying t3
    have mixed:prog.follows .mixedOrders=true:=zM
    have Su:¬((i:Int)=(n:Int)):=by omega
    have Sv:IntKind.i64.wrap ((i:Int)+1)=(i:Int)+1:=by rw[IntKind.wrap_i64];omega
    have pO:(0:Int)≤(i:Int)+1:=by omega
    have ey:i≤n:=by omega
    have eZ:((i:Int)+1).toNat=i+1:=by omega
    have JY:¬(c=i):=by omega
    have hz3:(c:Int)<(n:Int)+1:=by omega
    have Sw:(i:Int)≤(n:Int):=by omega
    have hGi:¬(G=i):=by omega
    have Sx:¬(G=i+1):=by omega
    go_enter Proofs.Tryz.func241,Proofs.Tryz.ntmps241
    go_wp2_with (first
      |(at_builtin;refine Lib.wpList_append_run _ rfl _ _ _ _ rfl _ _ rfl rfl _ _ hz ?_)
      |(at_builtin;refine HS _ rfl _ _ 40 40 rfl _ _ rfl rfl (hA _) ?_))
    go_region_law_o (refine HT rfl _ _ 40 40 rfl (.slice (some ⟨N,(i+1)*7,none⟩) (n+1-(i+1)) (G-(i+1))) (.slice (some ⟨B,off+i*7,none⟩) (n-i) (c-i)) (by simp[Act.eval,Act.put]) (by simp[Act.eval,Act.put]) (hB (G-(i+1)) (c-i)) ?_)
    go_wp2
    go_ret
    exact⟨rfl,rfl⟩
  shift B off n c i X vo vc w w1 w2 hi aX Ss mV hA hB:=by
    have t0:prog.underlying 40=some (.slice 142):=by kernel_rfl
    have t3:prog.underlying 3=some (.int .i64):=by kernel_rfl
    have z0:∀w,(Go.sizeOf 142).run prog w=.ok 7 w:=fun w=>by kernel_rfl
    have u0:=run_underlying t0;have u3:=run_underlying t3
    have mixed:prog.follows .mixedOrders=true:=zM
    have Su:¬((i:Int)=(n:Int)):=by omega
    have Sv:IntKind.i64.wrap ((i:Int)+1)=(i:Int)+1:=by rw[IntKind.wrap_i64];omega
    have pO:(0:Int)≤(i:Int)+1:=by omega
    have ey:i≤n:=by omega
    have eZ:((i:Int)+1).toNat=i+1:=by omega
    have JY:¬(c=i):=by omega
    have rA:=fun lb cb=>Zy (P:=prog) (fo:=274) (tb:=4) (e:=142) (size:=7) Proofs.Tryz.func274 (by kernel_rfl) (by kernel_rfl) (by kernel_rfl) (by kernel_rfl) t0 z0 mV vo (off+(i+1)*7) vc lb cb
    have hb2:¬(c=i+1):=by omega
    have Sw:(i:Int)≤(n:Int)+1:=by omega
    go_enter Proofs.Tryz.func241,Proofs.Tryz.ntmps241
    go_wp2_with (simp only[rA])
    go_region_law_o (refine HT rfl _ _ 40 40 rfl (.slice (some ⟨B,off+(i+1)*7,none⟩) (n-i) (c-(i+1))) (.slice (some ⟨B,off+i*7,none⟩) (n+1-i) (c-i)) (by simp[Act.eval,Act.put]) (by simp[Act.eval,Act.put]) (hA _ _) ?_)
    go_wp2_with (at_builtin;refine HS _ rfl _ _ 40 40 rfl _ _ rfl rfl (hB _) ?_)
    go_ret
    exact⟨rfl,rfl⟩
def SF:Nat×zH:=(241,OT zO 56)
theorem yK9:zJ prog SF:=ZG (e:=142) (fn:=f241) yXl
def qXb:zL:=⟨[(0,.c (.dat true zO)),(3,.c (.lit (.ptr 1001000 0))),(6,.c (.int .i64))],[.box true ku],[]⟩
def yM3:zL:=⟨[(0,.c (.dat true zO)),(3,.c (.lit (.ptr 1001000 0))),(6,.c (.int .i64))],[.box true ku],[]⟩
def yGa (f:SG)(d:qXb.den):Option KI:=f d.1.1.1 d.1.2.2.1.1 (jX d.2.1)
def SH:qI:=⟨[qXb],[(.exit 1,yM3)],KI,fun k d=>yGa (AV k k) d,fun b x _ K=>K (.exit 1) (zV b yM3 (((x.1,()),(),(x.2.1,()),()),((kU x.2.2 ()),())))⟩
def vKj:qE:=⟨prog,fun _=>false,qS [xi,KG,KH,SF]⟩
def qXh:qB:=⟨[],[(6,SH)],[],true⟩
theorem qTl:qQ vKj:=zN zM ⟨Cp,SD,SE,yK9,trivial⟩
theorem vI8:qH prog 1000 0 40 (qD (qG f197) 0) SH:=lp (A:=qXh) SH (fun d=>(d.1.1.1,d.1.2.2.1.1,(jX d.2.1))) yGa AV AW qTl zK
def F9:Nat×zH:=zQ 197 [.c (.dat true zO),.agg wE] (.tup [(false,[.fro zO]),(false,qW)]) (fun k d=>tl k d.1 (E5 d)) (fun x=>(x.1,x.2,()))
theorem KJ:zJ prog F9:=fA (rs:=.tup [(false,[.fro zO]),(false,qW)]) f197 qXh (fun d=>(d.1,d.2.1)) qTl (qV vI8)
def qX9:Nat×zH:=yX 136 [.ptr true tO,.agg [.int .i64,.int .i64,.int .i64,.int .i64,.int .i64,.int .i64]] (.c (.int .i64)) [wG] 0 (fun k d=>Jm k (jQ d) (yAq d)) (fun x=>(x.1,(wV x.2 ())))
theorem vIy:zJ prog qX9:=fX (rs:=.c (.int .i64)) (os:=[wG]) (ns:=0) f136 ⟨[],[],[],true⟩ 1 (fun d=>(d.1,(ic d))) (zN (l:=[hZ,So,Sy,F9]) zM ⟨iT,qX5,qT8,KJ,trivial⟩) zK
def SI:Nat×zH:=zQ 198 [.ptr SJ,.c (.int .i64)] (.tup [(true,mF),(false,qW)]) (fun k d=>SK k (jQ d) d.2.2.2.2.2.2.2.2.2.2.2.2.2.2.2.2.2.2.1) (fun x=>(kU x.1 (x.2,())))
theorem qT7:zJ prog SI:=fA (rs:=.tup [(true,mF),(false,qW)]) f198 ⟨[],[],[],true⟩ (fun d=>((jX d),d.2.2.2.2.2.2.2.1)) (zN (l:=[xi]) zM ⟨Cp,trivial⟩) zK
def SM:Nat×zH:=yX 243 [.c (.own zO),.c (.p (.int .i64)),.c (.p (.int .i64))] (.c (.own zO)) [] 0 (fun k d=>E0 k d.1 d.2.1 d.2.2.1) (fun x=>(x,()))
theorem yLs:zJ prog SM:=fX (rs:=.c (.own zO)) (os:=[]) (ns:=0) f243 ⟨[],[],[],false⟩ 0 (fun d=>d.1) (zN (l:=[]) zM trivial) zK
def tP:Nat×zH:=zQ 199 [.c (.dat true zO),.c (.int .i64)] (.tup [(false,[.fro zO]),(true,mF),(false,qW)]) (fun k d=>ny k d.1 d.2.1) (fun x=>(SN x ()))
theorem xj:zJ prog tP:=fA (rs:=.tup [(false,[.fro zO]),(true,mF),(false,qW)]) f199 ⟨[],[],[],false⟩ (fun d=>(SO d)) (zN (l:=[xi,KH,SM]) zM ⟨Cp,SE,yLs,trivial⟩) zK
def SP:Nat×zH:=yX 90 [.ptr true tO,.c (.p (.int .i64)),.c (.p (.dat false (.int .i64)))] (.tup []) [wG] 0 (fun k d=>tA k (jQ d) d.2.2.2.2.2.2.2.2.2.2.2.2.2.2.2.2.2.2.1 d.2.2.2.2.2.2.2.2.2.2.2.2.2.2.2.2.2.2.2.1) (fun x=>(wV x ()))
theorem yO0:zJ prog SP:=fX (rs:=.tup []) (os:=[wG]) (ns:=0) f90 ⟨[],[],[],true⟩ 1 (fun d=>(jQ d)) (zN (l:=[]) zM trivial) zK
def SQ:Nat×zH:=zQ 201 [.c (.dat true zO),.c (.int .i64),.c (.int .i64)] (.tup [(false,[.fro zO]),(false,qW)]) (fun k d=>AY k d.1 d.2.1 d.2.2.1) (fun x=>(x.1,x.2,()))
theorem yIi:zJ prog SQ:=fA (rs:=.tup [(false,[.fro zO]),(false,qW)]) f201 ⟨[],[],[],true⟩ (fun d=>(d.1,d.2.1)) (zN (l:=[tP,F9]) zM ⟨xj,KJ,trivial⟩) zK
def qPo:Nat×zH:=zQ 199 [.c (.dat false zO),.c (.int .i64)] (.tup [(false,[.own zO]),(true,mF),(false,qW)]) (fun k d=>P8 k d.1 d.2.1) (fun x=>(SN x ()))
theorem vBi:zJ prog qPo:=fA (rs:=.tup [(false,[.own zO]),(true,mF),(false,qW)]) f199 ⟨[],[],[],false⟩ (fun d=>(SO d)) (zN (l:=[xi,KH,SM]) zM ⟨Cp,SE,yLs,trivial⟩) zK
def yG8:zL:=⟨[(6,.c (.lit (.osl 1001000 none))),(7,.c (.lit (.ptr 1001001 0))),(9,.c (.int .i64))],[.arr true zO,.box true ku],[]⟩
def yE5:zL:=⟨[(6,.c (.lit (.osl 1001000 none))),(7,.c (.lit (.ptr 1001001 0))),(9,.c (.int .i64))],[.arr true zO,.box true ku],[]⟩
def yGq (f:SR)(d:yG8.den):Option KK:=f d.1.2.2.1.1 d.2.1 (jX d.2.2.1)
def SS:qI:=⟨[yG8],[(.exit 0,yE5)],KK,fun k d=>yGq (A0 k k) d,fun b x _ K=>K (.exit 0) (zV b yE5 (((),(),(x.1,()),()),(x.2.1,(kU x.2.2 ()),())))⟩
def vId:qE:=⟨prog,fun _=>false,qS [qPo,KG,SF]⟩
def yM5:qB:=⟨[],[(5,SS)],[],true⟩
theorem qZn:qQ vId:=zN zM ⟨vBi,SD,yK9,trivial⟩
theorem vEl:qH prog 1000 0 41 (qD (qG f202) 0) SS:=lp (A:=yM5) SS (fun d=>(d.1.2.2.1.1,d.2.1,(jX d.2.2.1))) yGq A0 A2 qZn zK
def SU:Nat×zH:=zQ 202 [.c (.dat true zO),.c (.int .i64)] (.tup [(false,[.fro zO]),(false,qW)]) (fun k d=>A3 k d.1 d.2.1) (fun x=>(x.1,x.2,()))
theorem yDm:zJ prog SU:=fA (rs:=.tup [(false,[.fro zO]),(false,qW)]) f202 yM5 (fun d=>(d.1,d.2.1)) qZn (qV vEl)
def SW:Nat×zH:=zQ 203 [.c (.dat true zO),.c (.int .i64)] (.tup [(false,[.fro zO]),(false,qW)]) (fun k d=>AZ k d.1 d.2.1) (fun x=>(x.1,x.2,()))
theorem yDr:zJ prog SW:=fA (rs:=.tup [(false,[.fro zO]),(false,qW)]) f203 ⟨[],[],[],true⟩ (fun d=>(d.1,d.2.1)) (zN (l:=[tP,F9]) zM ⟨xj,KJ,trivial⟩) zK
def yDs:Nat×zH:=yX 137 [.ptr true tO,.agg wE] (.c (.int .i64)) [wG] 0 (fun k d=>wq k (jQ d) (Cq d)) (fun x=>(x.1,(wV x.2 ())))
theorem vE4:zJ prog yDs:=fX (rs:=.c (.int .i64)) (os:=[wG]) (ns:=0) f137 ⟨[],[],[],true⟩ 1 (fun d=>(d.1,(ic d))) (zN (l:=[SI,tP,SP,hZ,KD,SQ,SU,SW]) zM ⟨qT7,xj,yO0,iT,Sn,yIi,yDm,yDr,trivial⟩) zK
def qVn:Nat×zH:=sV 244 false yD (.own yD) Pm
theorem vAv:zJ prog qVn:=fC f244 ⟨[],[],[],false⟩ (zN (l:=[]) zM trivial) zK
def qJv:Nat×zH:=sV 207 true (.sl (.int .i64)) (.jun) Pg
theorem yTf:zJ prog qJv:=fC f207 ⟨[],[],[],false⟩ (zN (l:=[]) zM trivial) zK
def yMt:zL:=⟨[(3,.c (.lit (.osl 1001000 none))),(8,.c (.dat true (.sl (.int .i64)))),(9,.c (.int .i64)),(10,.c (.int .i64))],[.pmat],[]⟩
def yJm:zL:=⟨[(3,.c (.lit (.osl 1001000 none)))],[.pmat],[]⟩
def qV5 (f:SX)(d:yMt.den):Option ((List (List Int))×Nat):=f d.1.2.1.1 d.1.2.2.1.1 d.1.2.2.2.1.1 d.2.1.1 d.2.1.2
def SY:qI:=⟨[yMt],[(.exit 0,yJm)],((List (List Int))×Nat),fun k d=>qV5 (Es k k) d,fun b x _ K=>K (.exit 0) (zV b yJm (((),()),((x.1,x.2),())))⟩
def yUr:qE:=⟨prog,fun _=>false,qS [qJv,F7]⟩
def yEn:qB:=⟨[],[(3,SY)],[],false⟩
theorem qTb:qQ yUr:=zN zM ⟨yTf,KF,trivial⟩
theorem vFl:qH prog 1000 0 22 (qD (qG f245) 0) SY:=lp (A:=yEn) SY (fun d=>d.2.1) qV5 Es zl qTb zK
def yDn:Nat×zH:=zQ 245 [.c (.dat true (.sl (.int .i64)))] (.c (.mat)) (fun k d=>Et k d.1) (fun x=>(x,()))
theorem vH2:zJ prog yDn:=fA (rs:=.c (.mat)) f245 yEn (fun d=>d.1) qTb (qV vFl)
def po:Nat×zH:=zQ 204 [.agg [.dat false yD,.dat true (.sl (.int .i64)),.dat false (.int .i64),.dat true (.sl (.int .i64))]] (.agg [.own yD,.mat,.own (.int .i64),.mat]) (fun k d=>(fw (jR k) d)) (fun x=>(wT x ()))
theorem rH:zJ prog po:=fA (rs:=.agg [.own yD,.mat,.own (.int .i64),.mat]) f204 ⟨[],[],[],false⟩ (fun d=>(vM d)) (zN (l:=[qVn,yDn,F7]) zM ⟨vAv,vH2,KF,trivial⟩) zK
def SZ:Nat×zH:=zQ 205 [.ptr SJ,.c (.int .i64)] (.c (.bool)) (fun k d=>S0 k (jQ d) d.2.2.2.2.2.2.2.2.2.2.2.2.2.2.2.2.2.2.1) (fun x=>(x,()))
theorem yOv:zJ prog SZ:=fA (rs:=.c (.bool)) f205 ⟨[],[],[],true⟩ (fun d=>d.1) (zN (l:=[hZ]) zM ⟨iT,trivial⟩) zK
def yDb:Nat×zH:=yX 138 [.ptr true tO,.agg wE] (.c (.int .i64)) [wG] 0 (fun k d=>wu k (jQ d) (Cq d)) (fun x=>(x.1,(wV x.2 ())))
theorem vMp:zJ prog yDb:=fX (rs:=.c (.int .i64)) (os:=[wG]) (ns:=0) f138 ⟨[],[],[],true⟩ 1 (fun d=>(d.1,(ic d))) (zN (l:=[po,SZ,hZ]) zM ⟨rH,yOv,iT,trivial⟩) zK
def Ga:Nat×zH:=zQ 206 [.ptr SJ,.c (.int .i64)] (.c (.bool)) (fun k d=>Gc k (jQ d) d.2.2.2.2.2.2.2.2.2.2.2.2.2.2.2.2.2.2.1) (fun x=>(x,()))
theorem KL:zJ prog Ga:=fA (rs:=.c (.bool)) f206 ⟨[],[],[],true⟩ (fun d=>d.1) (zN (l:=[hZ]) zM ⟨iT,trivial⟩) zK
def S1:Nat×zH:=sV 207 true (.sl (.int .i64)) (.own (.sl (.int .i64))) BI
theorem yE2:zJ prog S1:=fC f207 ⟨[],[],[],false⟩ (zN (l:=[]) zM trivial) zK
def Gd:Nat×zH:=zQ 208 [.c (.dat false (.int .i64)),.c (.int .i64),.c (.int .i64)] (.c (.own (.int .i64))) (fun k d=>nC k d.1 d.2.1 d.2.2.1) (fun x=>(x,()))
theorem KM:zJ prog Gd:=fA (rs:=.c (.own (.int .i64))) f208 ⟨[],[],[],true⟩ (fun d=>d.1) (zN (l:=[F7]) zM ⟨KF,trivial⟩) zK
def yKr:Nat×zH:=zQ 254 [.c (.int .i64)] (.c (.bool)) (fun k d=>Qc k d.1) (fun x=>(x,()))
theorem vD0:zJ prog yKr:=fA (rs:=.c (.bool)) f254 ⟨[],[],[],true⟩ (fun d=>d.1) (zN (l:=[]) zM trivial) zK
def yK0:Nat×zH:=zQ 255 [.c (.int .u64),.c (.int .u64)] (.tup [(false,[.int .u64]),(false,[.int .u64])]) (fun k d=>E8 k d.1 d.2.1) (fun x=>(x.1,x.2,()))
theorem vIu:zJ prog yK0:=fA (rs:=.tup [(false,[.int .u64]),(false,[.int .u64])]) f255 ⟨[],[],[],true⟩ (fun d=>(d.1,d.2.1)) (zN (l:=[]) zM trivial) zK
def yLm:Nat×zH:=zQ 295 [.c (.int .u64)] (.c (.int .i64)) (fun k d=>yPs k d.1) (fun x=>(x,()))
theorem vJv:zJ prog yLm:=fA (rs:=.c (.int .i64)) f295 ⟨[],[],[],true⟩ (fun d=>d.1) (zN (l:=[]) zM trivial) zK
def qQa:Nat×zH:=zQ 284 [.c (.int .u64)] (.c (.int .i64)) (fun k d=>yIf k d.1) (fun x=>(x,()))
theorem yVl:zJ prog qQa:=fA (rs:=.c (.int .i64)) f284 ⟨[],[],[],true⟩ (fun d=>d.1) (zN (l:=[yLm]) zM ⟨vJv,trivial⟩) zK
def yKz:zL:=⟨[(2,.c (.int .u64)),(8,.c (.int .u64)),(9,.c (.int .u64)),(10,.c (.int .u64)),(11,.c (.int .u64)),(13,.c (.int .u64)),(14,.c (.int .u64)),(15,.c (.int .u64)),(16,.c (.int .u64))],[],[]⟩
def yOt:zL:=⟨[(2,.c (.int .u64)),(8,.c (.int .u64)),(9,.c (.int .u64)),(10,.c (.int .u64)),(11,.c (.int .u64)),(13,.c (.int .u64)),(14,.c (.int .u64)),(15,.c (.int .u64))],[],[]⟩
def yBn (f:S2)(d:yKz.den):Option KN:=f d.1.1.1 d.1.2.1.1 d.1.2.2.1.1 d.1.2.2.2.1.1 d.1.2.2.2.2.1.1 d.1.2.2.2.2.2.1.1 d.1.2.2.2.2.2.2.1.1 d.1.2.2.2.2.2.2.2.1.1 d.1.2.2.2.2.2.2.2.2.1.1
def KO:qI:=⟨[yKz],[(.exit 0,yOt)],KN,fun k d=>yBn (S3 k k) d,fun b x _ K=>K (.exit 0) (zV b yOt (((x.1,()),(x.2.1,()),(x.2.2.1,()),(x.2.2.2.1,()),(x.2.2.2.2.1,()),(x.2.2.2.2.2.1,()),(x.2.2.2.2.2.2.1,()),(x.2.2.2.2.2.2.2,()),()),()))⟩
def qSe:zL:=⟨[(2,.c (.int .u64)),(8,.c (.int .u64)),(9,.c (.int .u64)),(10,.c (.int .u64)),(14,.c (.int .u64)),(15,.c (.int .u64)),(16,.c (.int .u64)),(17,.c (.int .u64)),(18,.c (.int .u64))],[],[]⟩
def ySc:zL:=⟨[(2,.c (.int .u64)),(8,.c (.int .u64)),(14,.c (.int .u64)),(15,.c (.int .u64)),(17,.c (.int .u64)),(18,.c (.int .u64))],[],[]⟩
def qV6 (f:S4)(d:qSe.den):Option KP:=f d.1.1.1 d.1.2.1.1 d.1.2.2.1.1 d.1.2.2.2.1.1 d.1.2.2.2.2.1.1 d.1.2.2.2.2.2.1.1 d.1.2.2.2.2.2.2.1.1 d.1.2.2.2.2.2.2.2.1.1 d.1.2.2.2.2.2.2.2.2.1.1
def KQ:qI:=⟨[qSe],[(.exit 2,ySc)],KP,fun k d=>qV6 (S5 k k) d,fun b x _ K=>K (.exit 2) (zV b ySc (((x.1,()),(x.2.1,()),(x.2.2.1,()),(x.2.2.2.1,()),(x.2.2.2.2.1,()),(x.2.2.2.2.2,()),()),()))⟩
def vBn:qE:=⟨prog,fun _=>false,qS [qQa]⟩
def S6:qB:=⟨[],[(17,KO),(24,KQ)],[],true⟩
theorem S7:qQ vBn:=zN zM ⟨yVl,trivial⟩
theorem vEu:qH prog 1000 0 135 (qD (qG f256) 0) KO:=lp (A:=S6) KO (fun d=>(d.1.1.1,d.1.2.1.1,d.1.2.2.1.1,d.1.2.2.2.1.1,d.1.2.2.2.2.1.1,d.1.2.2.2.2.2.1.1,d.1.2.2.2.2.2.2.1.1,d.1.2.2.2.2.2.2.2.1.1)) yBn S3 qZ9 S7 zK
theorem vFy:qH prog 1000 0 135 (qD (qG f256) 1) KQ:=lp (A:=S6) KQ (fun d=>(d.1.1.1,d.1.2.1.1,d.1.2.2.1.1,d.1.2.2.2.1.1,d.1.2.2.2.2.1.1,d.1.2.2.2.2.2.1.1)) qV6 S5 yF7 S7 zK
def yOb:Nat×zH:=zQ 256 [.c (.int .u64),.c (.int .u64),.c (.int .u64)] (.tup [(false,[.int .u64]),(false,[.int .u64])]) (fun k d=>IS k d.1 d.2.1 d.2.2.1) (fun x=>(x.1,x.2,()))
theorem yTh:zJ prog yOb:=fA (rs:=.tup [(false,[.int .u64]),(false,[.int .u64])]) f256 S6 (fun d=>(d.1,d.2.1)) S7 (loopsOK_of (n:=2) (by kernel_rfl) fun i hi=>match i,hi with|0,_=>⟨KO,by kernel_rfl,vEu⟩|1,_=>⟨KQ,by kernel_rfl,vFy⟩|i+2,hi=>absurd hi (by omega))
def S8:Nat×zH:=(178,HM)
theorem qZ3:zJ prog S8:=vGo (fn:=f178)
def qLd:Nat×zH:=zQ 221 [.c (.int .i64),.c (.int .i64),.c (.int .i64)] (.tup [(false,qW),(false,[.bool])]) (fun k d=>IT k d.1 d.2.1 d.2.2.1) (fun x=>(x.1,x.2,()))
theorem vIa:zJ prog qLd:=fA (rs:=.tup [(false,qW),(false,[.bool])]) f221 ⟨[],[],[],true⟩ (fun d=>(d.1,d.2.1)) (zN (l:=[yKr,yK0,yOb,S8]) zM ⟨vD0,vIu,yTh,qZ3,trivial⟩) zK
def yN7:zL:=⟨[(4,.c (.int .i64)),(5,.c (.int .u64)),(9,.c (.dat false (.int .i64))),(10,.c (.int .i64)),(11,.c (.int .i64))],[],[]⟩
def yBy:zL:=⟨[(4,.c (.int .i64)),(5,.c (.int .u64))],[],[]⟩
def qWa (f:S9)(d:yN7.den):Option yV:=f d.1.1.1 d.1.2.1.1 d.1.2.2.1.1 d.1.2.2.2.1.1 d.1.2.2.2.2.1.1
def Ta:qI:=⟨[yN7],[(.exit 0,yBy)],yV,fun k d=>qWa (A7 k k) d,fun b x _ K=>K (.exit 0) (zV b yBy (((x.1,()),(x.2,()),()),()))⟩
def vBk:qE:=⟨prog,fun _=>false,qS [S8]⟩
def yAo:qB:=⟨[],[(4,Ta)],[],false⟩
theorem qZs:qQ vBk:=zN zM ⟨qZ3,trivial⟩
theorem vCq:qH prog 1000 0 37 (qD (qG f111) 0) Ta:=lp (A:=yAo) Ta (fun d=>(d.1.1.1,d.1.2.1.1)) qWa A7 A8 qZs zK
def Tb:Nat×zH:=zQ 111 [.c (.dat false (.int .i64))] (.tup [(false,qW),(false,[.bool])]) (fun k d=>E7 k d.1) (fun x=>(x.1,x.2,()))
theorem qXj:zJ prog Tb:=fA (rs:=.tup [(false,qW),(false,[.bool])]) f111 yAo (fun d=>(d.1,d.2.1)) qZs (qV vCq)
def yLv:zL:=⟨[(1,.c (.dat false (.int .i64))),(2,.c (.dat false (.int .i64))),(8,.c (.lit (.osl 1001000 none))),(25,.c (.dat false vQ)),(26,.c (.int .i64)),(27,.c (.int .i64))],[.arr true (.int .i64)],[(8,none,(.int .i64),false)]⟩
def yP4:zL:=⟨[(8,.c (.lit (.osl 1001000 none)))],[.arr true (.int .i64)],[]⟩
def qW6:zL:=⟨[(6,.c (.int .i64)),(7,.c (.bool))],[],[]⟩
def qVg (f:Tc)(d:yLv.den):Option ((List Int)⊕(Int×Bool)):=f d.1.1.1 d.1.2.1.1 d.1.2.2.2.1.1 d.1.2.2.2.2.1.1 d.1.2.2.2.2.2.1.1 d.2.1
def Td:qI:=⟨[yLv],[(.exit 0,yP4),(.ret,qW6)],((List Int)⊕(Int×Bool)),fun k d=>qVg (Bb k k) d,fun b x _ K=>match x with|.inl x=>K (.exit 0) (zV b yP4 (((),()),(x,())))|.inr x=>K .ret (zV b qW6 (((x.1,()),(x.2,()),()),()))⟩
def vAa:qE:=⟨prog,fun _=>false,qS [qLd,Tb]⟩
def yRa:qB:=⟨[],[(5,Td)],[],true⟩
theorem yEy:qQ vAa:=zN zM ⟨vIa,qXj,trivial⟩
theorem yUf:qH prog 1000 0 57 (qD (qG f170) 0) Td:=lp (A:=yRa) Td (fun d=>match d with|.inl d=>.inl d.2.1|.inr d=>.inr (d.1.1.1,d.1.2.1.1)) qVg Bb Bc yEy zK
def Cr:Nat×zH:=zQ 170 [.c (.dat false vQ),.c (.dat false (.int .i64)),.c (.dat false (.int .i64))] (.tup [(false,qW),(false,[.bool])]) (fun k d=>oP k d.1 d.2.1 d.2.2.1) (fun x=>(x.1,x.2,()))
theorem Ge:zJ prog Cr:=fA (rs:=.tup [(false,qW),(false,[.bool])]) f170 yRa (fun d=>(d.1,d.2.1)) yEy (qV yUf)
def yP9:Nat×zH:=yX 139 [.ptr true tO,.c (.p (.int .i64)),.c (.p (.int .i64))] (.c (.int .i64)) [wG] 0 (fun k d=>Jn k (jQ d) d.2.2.2.2.2.2.2.2.2.2.2.2.2.2.2.2.2.2.1 d.2.2.2.2.2.2.2.2.2.2.2.2.2.2.2.2.2.2.2.1) (fun x=>(x.1,(wV x.2 ())))
theorem vIb:zJ prog yP9:=fX (rs:=.c (.int .i64)) (os:=[wG]) (ns:=0) f139 ⟨[],[],[],true⟩ 1 (fun d=>(d.1,(ic d))) (zN (l:=[Ga,hZ,S1,Gd,Cr,po]) zM ⟨KL,iT,yE2,KM,Ge,rH,trivial⟩) zK
def yQc:Nat×zH:=zQ 95 [.c (.int .i64),.c (.int .i64)] (.tup [(false,qW),(false,[.bool])]) (fun k d=>Jo k d.1 d.2.1) (fun x=>(x.1,x.2,()))
theorem yUb:zJ prog yQc:=fA (rs:=.tup [(false,qW),(false,[.bool])]) f95 ⟨[],[],[],false⟩ (fun d=>(d.1,d.2.1)) (zN (l:=[]) zM trivial) zK
def Te:Nat×zH:=zQ 161 [.agg pq] (.c (.bool)) (fun k d=>HX k d.1 d.2.1 d.2.2.1) (fun x=>(x,()))
theorem qZd:zJ prog Te:=fA (rs:=.c (.bool)) f161 ⟨[],[],[],false⟩ (fun d=>d.1) (zN (l:=[]) zM trivial) zK
def Tf:Nat×zH:=zQ 246 [.agg pq,.c (.int .i64)] (.tup [(true,Ct),(false,qW)]) (fun k d=>Fx k (d.1,d.2.1,d.2.2.1) d.2.2.2.1) (fun x=>(x.1.1,x.1.2.1,x.1.2.2,x.2,()))
theorem yF3:zJ prog Tf:=fA (rs:=.tup [(true,Ct),(false,qW)]) f246 ⟨[],[],[],true⟩ (fun d=>((d.1,d.2.1,d.2.2.1),d.2.2.2.1)) (zN (l:=[yQc,Te]) zM ⟨yUb,qZd,trivial⟩) zK
def Tg:Nat×zH:=zQ 209 [.agg pq,.c (.int .i64)] (.tup [(true,Ct),(false,qW)]) (fun k d=>BK k (d.1,d.2.1,d.2.2.1) d.2.2.2.1) (fun x=>(x.1.1,x.1.2.1,x.1.2.2,x.2,()))
theorem yGi:zJ prog Tg:=fA (rs:=.tup [(true,Ct),(false,qW)]) f209 ⟨[],[],[],true⟩ (fun d=>((d.1,d.2.1,d.2.2.1),d.2.2.2.1)) (zN (l:=[Tf]) zM ⟨yF3,trivial⟩) zK
def KR:Nat×zH:=zQ 247 [.agg pq,.c (.int .i64)] (.c (.int .i64)) (fun k d=>(fw (ta k) d)) (fun x=>(x,()))
theorem Th:zJ prog KR:=fA (rs:=.c (.int .i64)) f247 ⟨[],[],[],false⟩ (fun d=>d.1) (zN (l:=[]) zM trivial) zK
def Ti:Nat×zH:=zQ 210 [.agg pq,.c (.int .i64),.c (.int .i64)] (.tup [(true,Ct),(false,qW)]) (fun k d=>BL k (d.1,d.2.1,d.2.2.1) d.2.2.2.1 d.2.2.2.2.1) (fun x=>(x.1.1,x.1.2.1,x.1.2.2,x.2,()))
theorem yIy:zJ prog Ti:=fA (rs:=.tup [(true,Ct),(false,qW)]) f210 ⟨[],[],[],true⟩ (fun d=>((d.1,d.2.1,d.2.2.1),d.2.2.2.1)) (zN (l:=[Tf,KR]) zM ⟨yF3,Th,trivial⟩) zK
def Tj:Nat×zH:=zQ 211 [.agg pq,.c (.int .i64)] (.c (.int .i64)) (fun k d=>BM k (d.1,d.2.1,d.2.2.1) d.2.2.2.1) (fun x=>(x,()))
theorem yOz:zJ prog Tj:=fA (rs:=.c (.int .i64)) f211 ⟨[],[],[],true⟩ (fun d=>d.1) (zN (l:=[]) zM trivial) zK
def yDk:Nat×zH:=yX 140 [.ptr true tO,.c (.p (.int .i64)),.c (.p (.int .i64)),.c (.p (.int .i64))] (.c (.int .i64)) [wG] 0 (fun k d=>Tl k (jQ d) d.2.2.2.2.2.2.2.2.2.2.2.2.2.2.2.2.2.2.1 d.2.2.2.2.2.2.2.2.2.2.2.2.2.2.2.2.2.2.2.1 d.2.2.2.2.2.2.2.2.2.2.2.2.2.2.2.2.2.2.2.2.1) (fun x=>(x.1,(wV x.2 ())))
theorem vAk:zJ prog yDk:=fX (rs:=.c (.int .i64)) (os:=[wG]) (ns:=0) f140 ⟨[],[],[],true⟩ 1 (fun d=>(d.1,(ic d))) (zN (l:=[hZ,Tg,Ti,Tj,po]) zM ⟨iT,yGi,yIy,yOz,rH,trivial⟩) zK
def yCp:zL:=⟨[(0,.c (.lit (.ptr 1001000 0))),(7,.c (.lit (.osl 1001002 none))),(8,.c (.lit (.ptr 1001003 0))),(40,.c (.dat true (.sl (.int .i64)))),(41,.c (.int .i64)),(42,.c (.int .i64))],[.box true Tm,.arr true qP,.arr true (.int .i64),.box true yHu,.arr true yD,.mat,.arr true (.int .i64),.mat],[]⟩
def qUn:zL:=⟨[(0,.c (.lit (.ptr 1001000 0))),(7,.c (.lit (.osl 1001002 none))),(8,.c (.lit (.ptr 1001003 0)))],[.box true Tm,.arr true qP,.arr true (.int .i64),.box true yHu,.arr true yD,.mat,.arr true (.int .i64),.mat],[]⟩
def qUw:zL:=⟨[(0,.c (.lit (.ptr 1001000 0))),(6,.c (.int .i64))],[.box true Tm,.arr true qP],[]⟩
def yCq (f:Tn)(d:yCp.den):Option KS:=f d.1.2.2.2.1.1 d.1.2.2.2.2.1.1 d.1.2.2.2.2.2.1.1 (jt d.2.1) d.2.2.1 d.2.2.2.1 d.2.2.2.2.2.1 d.2.2.2.2.2.2.1 d.2.2.2.2.2.2.2.1 d.2.2.2.2.2.2.2.2.1
def To:qI:=⟨[yCp],[(.exit 0,qUn),(.ret,qUw)],KS,fun k d=>yCq (Tp k k) d,fun b x _ K=>match x with|.inl x=>K (.exit 0) (zV b qUn (((),(),(),()),((vF x.1 ()),x.2.1,x.2.2.1,(),x.2.2.2.1,x.2.2.2.2.1,x.2.2.2.2.2.1,x.2.2.2.2.2.2,())))|.inr x=>K .ret (zV b qUw (((),(x.1,()),()),((vF x.2.1 ()),x.2.2,())))⟩
def vFr:qE:=⟨prog,fun _=>false,qS [Ga,hZ,Gd,po,Cr]⟩
def yHj:qB:=⟨[],[(6,To)],[],true⟩
theorem yJw:qQ vFr:=zN zM ⟨KL,iT,KM,rH,Ge,trivial⟩
theorem vDd:qH prog 1000 1 81 (qD (qG f141) 0) To:=lp (A:=yHj) To (fun d=>match d with|.inl d=>.inl ((jt d.2.1),d.2.2.1,d.2.2.2.1,d.2.2.2.2.2.1,d.2.2.2.2.2.2.1,d.2.2.2.2.2.2.2.1,d.2.2.2.2.2.2.2.2.1)|.inr d=>.inr (d.1.2.1.1,(jt d.2.1),d.2.2.1)) yCq Tp yA7 yJw zK
def yIv:Nat×zH:=yX 141 [.ptr true tO,.c (.p (.int .i64)),.c (.p (.int .i64))] (.c (.int .i64)) [wG] 0 (fun k d=>yLw k (jQ d) d.2.2.2.2.2.2.2.2.2.2.2.2.2.2.2.2.2.2.1 d.2.2.2.2.2.2.2.2.2.2.2.2.2.2.2.2.2.2.2.1) (fun x=>(x.1,(wV x.2 ())))
theorem vKg:zJ prog yIv:=fX (rs:=.c (.int .i64)) (os:=[wG]) (ns:=0) f141 yHj 1 (fun d=>(d.1,(ic d))) yJw (qV vDd)
def yFj:Nat×zH:=yX 91 [.ptr true tO,.agg wE] (.c (.int .i64)) [wG] 0 (fun k d=>JC k (jQ d) (Cq d)) (fun x=>(x.1,(wV x.2 ())))
theorem vGp:zJ prog yFj:=fX (rs:=.c (.int .i64)) (os:=[wG]) (ns:=0) f91 ⟨[],[],[],true⟩ 1 (fun d=>(d.1,(ic d))) (zN (l:=[qX9,yDs,yDb,yP9,yDk,yIv]) zM ⟨vIy,vE4,vMp,vIb,vAk,vKg,trivial⟩) zK
def Tq:Nat×zH:=zQ 112 [.agg mD,.c (.int .i64)] (.c (.bool)) (fun k d=>(pt (Ji k) d)) (fun x=>(x,()))
theorem qZm:zJ prog Tq:=fA (rs:=.c (.bool)) f112 ⟨[],[],[],false⟩ (fun d=>d.1) (zN (l:=[]) zM trivial) zK
def KT:Nat×zH:=zQ 144 [.c (.int .i64),.c (.int .i64),.c (.dat false (.int .i64))] (.agg Cn) (fun k d=>nG k d.1 d.2.1 d.2.2.1) (fun x=>(Co x ()))
theorem Ts:zJ prog KT:=fA (rs:=.agg Cn) f144 ⟨[],[],[],false⟩ (fun d=>(lZ d)) (zN (l:=[]) zM trivial) zK
def yOu:zL:=⟨[(1,.c (.lit (.ptr 1001000 0))),(2,.c (.lit (.ptr 1001001 0))),(4,.c (.lit (.osl 1001002 none))),(10,.c (.dat true zO)),(11,.c (.int .i64)),(12,.c (.int .i64))],[.box true lh,.box true lg,.arr true qP],[(4,none,qP,false)]⟩
def qSi:zL:=⟨[(1,.c (.lit (.ptr 1001000 0))),(2,.c (.lit (.ptr 1001001 0))),(4,.c (.lit (.osl 1001002 none)))],[.box true lh,.box true lg,.arr true qP],[]⟩
def qTt (f:Tt)(d:yOu.den):Option KU:=(rI (f d.1.2.2.2.1.1 d.1.2.2.2.2.1.1 d.1.2.2.2.2.2.1.1) d.2.1) d.2.2.1.1 d.2.2.1.2.1 d.2.2.1.2.2.1 d.2.2.2.1
def KV:qI:=⟨[yOu],[(.exit 0,qSi)],KU,fun k d=>qTt (BA k k) d,fun b x _ K=>K (.exit 0) (zV b qSi (((),(),(),()),((tQ x ()),(x.2.2.2.2.2.2.2.2.2.2.2.1,x.2.2.2.2.2.2.2.2.2.2.2.2.1,x.2.2.2.2.2.2.2.2.2.2.2.2.2.1,()),x.2.2.2.2.2.2.2.2.2.2.2.2.2.2,())))⟩
def yP3:zL:=⟨[(1,.c (.lit (.ptr 1001000 0))),(2,.c (.lit (.ptr 1001001 0))),(4,.c (.lit (.osl 1001002 none))),(28,.c (.dat true yD)),(29,.c (.int .i64)),(30,.c (.int .i64))],[.box true lh,.box true lg,.arr true qP],[]⟩
def yA0:zL:=⟨[(1,.c (.lit (.ptr 1001000 0))),(2,.c (.lit (.ptr 1001001 0))),(4,.c (.lit (.osl 1001002 none)))],[.box true lh,.box true lg,.arr true qP],[]⟩
def yL7 (f:Tu)(d:yP3.den):Option KW:=(rI (f d.1.2.2.2.1.1 d.1.2.2.2.2.1.1 d.1.2.2.2.2.2.1.1) d.2.1) d.2.2.1.1 d.2.2.1.2.1 d.2.2.1.2.2.1 d.2.2.2.1
def KX:qI:=⟨[yP3],[(.exit 2,yA0)],KW,fun k d=>yL7 (BC k k) d,fun b x _ K=>K (.exit 2) (zV b yA0 (((),(),(),()),((tQ x ()),(x.2.2.2.2.2.2.2.2.2.2.2.1,x.2.2.2.2.2.2.2.2.2.2.2.2.1,x.2.2.2.2.2.2.2.2.2.2.2.2.2.1,()),x.2.2.2.2.2.2.2.2.2.2.2.2.2.2,())))⟩
def yWx:qE:=⟨prog,fun _=>false,qS [KT]⟩
def Tv:qB:=⟨[],[(3,KV),(8,KX)],[],false⟩
theorem Tw:qQ yWx:=zN zM ⟨Ts,trivial⟩
theorem vJb:qH prog 1000 0 48 (qD (qG f142) 0) KV:=lp (A:=Tv) KV (fun d=>(tQ d.2.1 (d.2.2.1.1,d.2.2.1.2.1,d.2.2.1.2.2.1,d.2.2.2.1))) qTt BA BB Tw zK
theorem yZf:qH prog 1000 0 48 (qD (qG f142) 1) KX:=lp (A:=Tv) KX (fun d=>(tQ d.2.1 (d.2.2.1.1,d.2.2.1.2.1,d.2.2.1.2.2.1,d.2.2.2.1))) yL7 BC BD Tw zK
def qQh:Nat×zH:=zQ 142 [.agg F2] (.tup [(true,yDv),(false,[.own qP])]) (fun k d=>(rI (Jh k) d)) (fun x=>(tR x ()))
theorem vFe:zJ prog qQh:=fA (rs:=.tup [(true,yDv),(false,[.own qP])]) f142 Tv (fun d=>(nQ d)) Tw (loopsOK_of (n:=2) (by kernel_rfl) fun i hi=>match i,hi with|0,_=>⟨KV,by kernel_rfl,vJb⟩|1,_=>⟨KX,by kernel_rfl,yZf⟩|i+2,hi=>absurd hi (by omega))
def qPg:Nat×zH:=zQ 143 [.agg wE,.c (.int .i64)] (.c (.bool)) (fun k d=>(pn (Qw k) d)) (fun x=>(x,()))
theorem vGi:zJ prog qPg:=fA (rs:=.c (.bool)) f143 ⟨[],[],[],false⟩ (fun d=>d.1) (zN (l:=[]) zM trivial) zK
def qKi:Nat×zH:=zQ 145 [.agg mD,.c (.int .i64)] (.c (.bool)) (fun k d=>(pt (Jj k) d)) (fun x=>(x,()))
theorem yWz:zJ prog qKi:=fA (rs:=.c (.bool)) f145 ⟨[],[],[],false⟩ (fun d=>d.1) (zN (l:=[]) zM trivial) zK
def yLk:Nat×zH:=zQ 282 [.agg wE,.c (.int .i64)] (.c (.bool)) (fun k d=>(pn (PS k) d)) (fun x=>(x,()))
theorem yT0:zJ prog yLk:=fA (rs:=.c (.bool)) f282 ⟨[],[],[],false⟩ (fun d=>d.1) (zN (l:=[]) zM trivial) zK
def qDv:Nat×zH:=zQ 281 [.agg wE,.ptr [.int .i64]] (.c (.bool)) (fun k d=>(pn (PR k) d)) (fun x=>(x,()))
theorem vH1:zJ prog qDv:=fA (rs:=.c (.bool)) f281 ⟨[],[],[],false⟩ (fun d=>d.1) (zN (l:=[yLk]) zM ⟨yT0,trivial⟩) zK
def yGo:zL:=⟨[(1,.c (.lit (.fn 281 [1001000]))),(5,.c (.lit (.osl 1001001 none))),(8,.c (.dat false zO)),(9,.c (.int .i64)),(10,.c (.int .i64))],[.robox [.int .i64],.arr true zO],[(5,none,zO,false)]⟩
def qY5:zL:=⟨[(5,.c (.lit (.osl 1001000 none)))],[.arr true zO],[]⟩
def yCk (f:Tx)(d:yGo.den):Option KY:=f d.1.2.2.1.1 d.1.2.2.2.1.1 d.1.2.2.2.2.1.1 d.2.1.1 d.2.2.1
def Tz:qI:=⟨[yGo],[(.exit 0,qY5)],KY,fun k d=>yCk (EW k k) d,fun b x _ K=>K (.exit 0) (zV b qY5 (((),()),(x,())))⟩
def yS6:qE:=⟨prog,fun _=>false,qS [qDv]⟩
def qW8:qB:=⟨[],[(3,Tz)],[],false⟩
theorem yQi:qQ yS6:=zN zM ⟨vH1,trivial⟩
theorem yVa:qH prog 1000 0 23 (qD (qG f193) 0) Tz:=lp (A:=qW8) Tz (fun d=>d.2.1) yCk EW AL yQi zK
def qT6:Nat×zH:=zQ 193 [.c (.dat false zO),.fn 281 [[.int .i64]]] (.c (.own zO)) (fun k d=>PQ k d.1 d.2.1) (fun x=>(x,()))
theorem yWh:zJ prog qT6:=fA (rs:=.c (.own zO)) f193 qW8 (fun d=>d.1) yQi (qV yVa)
def KZ:Nat×zH:=zQ 252 [.c (.dat false zO),.c (.int .i64)] (.c (.own zO)) (fun k d=>AK k d.1 d.2.1) (fun x=>(x,()))
theorem TA:zJ prog KZ:=fA (rs:=.c (.own zO)) f252 ⟨[],[],[],false⟩ (fun d=>d.1) (zN (l:=[qT6]) zM ⟨yWh,trivial⟩) zK
def qIq:Nat×zH:=zQ 299 [.agg wE,.ptr wE] (.c (.bool)) (fun k d=>(F8 (PV k) d)) (fun x=>(x,()))
theorem vCw:zJ prog qIq:=fA (rs:=.c (.bool)) f299 ⟨[],[],[],false⟩ (fun d=>d.1) (zN (l:=[]) zM trivial) zK
def yLu:zL:=⟨[(0,.c (.dat false zO)),(1,.c (.lit (.fn 299 [1001000]))),(7,.c (.int .i64)),(8,.c (.int .i64))],[.robox ku],[]⟩
def qWv:zL:=⟨[],[],[]⟩
def yKh:zL:=⟨[(4,.c (.int .i64))],[],[]⟩
def yI1 (f:TB)(d:yLu.den):Option (Unit⊕Int):=(tS (f d.1.1.1 d.1.2.2.1.1 d.1.2.2.2.1.1) d.2.1)
def TC:qI:=⟨[yLu],[(.exit 0,qWv),(.ret,yKh)],(Unit⊕Int),fun k d=>yI1 (AM k k) d,fun b x _ K=>match x with|.inl x=>K (.exit 0) (zV b qWv ((),()))|.inr x=>K .ret (zV b yKh (((x,()),()),()))⟩
def vMw:qE:=⟨prog,fun _=>false,qS [qIq]⟩
def yOs:qB:=⟨[],[(2,TC)],[],false⟩
theorem yDo:qQ vMw:=zN zM ⟨vCw,trivial⟩
theorem yVm:qH prog 1000 0 19 (qD (qG f148) 0) TC:=lp (A:=yOs) TC (fun d=>match d with|.inl d=>.inl ()|.inr d=>.inr d.1.1.1) yI1 AM AN yDo zK
def qSh:Nat×zH:=zQ 148 [.c (.dat false zO),.fn 299 [wE]] (.c (.int .i64)) (fun k d=>(pn (PW k) d)) (fun x=>(x,()))
theorem yYs:zJ prog qSh:=fA (rs:=.c (.int .i64)) f148 yOs (fun d=>d.1) yDo (qV yVm)
def qWf:Nat×zH:=zQ 177 [.c (.dat false zO),.fn 299 [wE]] (.c (.bool)) (fun k d=>(pn (IF k) d)) (fun x=>(x,()))
theorem yYd:zJ prog qWf:=fA (rs:=.c (.bool)) f177 ⟨[],[],[],false⟩ (fun d=>d.1) (zN (l:=[qSh]) zM ⟨yYs,trivial⟩) zK
def qPy:Nat×zH:=yX 298 [.agg wE,.ptr true [.map],.ptr false [.p (.dat false zO)]] (.c (.bool)) [[.map]] 0 (fun k d=>(TD (PY k) d)) (fun x=>(x.1,x.2,()))
theorem ySq:zJ prog qPy:=fX (rs:=.c (.bool)) (os:=[[.map]]) (ns:=0) f298 ⟨[],[],[],false⟩ 3 (fun d=>(d.1,d.2.1)) (zN (l:=[qWf]) zM ⟨yYd,trivial⟩) zK
def qSx:zL:=⟨[(1,.c (.lit (.fn 298 [1001000,1001002]))),(5,.c (.lit (.osl 1001003 none))),(8,.c (.dat false zO)),(9,.c (.int .i64)),(10,.c (.int .i64))],[.box true [.lit (.map 1001001)],.imap,.robox [.dat false zO],.arr true zO],[(5,none,zO,false)]⟩
def yL4:zL:=⟨[(1,.c (.lit (.fn 298 [1001000,1001002]))),(5,.c (.lit (.osl 1001003 none)))],[.box true [.lit (.map 1001001)],.imap,.robox [.dat false zO],.arr true zO],[]⟩
def qSf (f:TE)(d:qSx.den):Option K0:=f d.1.2.2.1.1 d.1.2.2.2.1.1 d.1.2.2.2.2.1.1 d.2.2.1 d.2.2.2.1.1 d.2.2.2.2.1
def TF:qI:=⟨[qSx],[(.exit 0,yL4)],K0,fun k d=>qSf (AO k k) d,fun b x _ K=>K (.exit 0) (zV b yL4 (((),(),()),((),x.1,(x.2.1,()),x.2.2,())))⟩
def vE2:qE:=⟨prog,fun _=>false,qS [qPy]⟩
def yHn:qB:=⟨[],[(3,TF)],[],false⟩
theorem yNf:qQ vE2:=zN zM ⟨ySq,trivial⟩
theorem yT2:qH prog 1000 2 23 (qD (qG f193) 0) TF:=lp (A:=yHn) TF (fun d=>(d.2.2.1,d.2.2.2.1.1,d.2.2.2.2.1)) qSf AO AP yNf zK
def yQn:Nat×zH:=yX 193 [.c (.p (.dat false zO)),.fn 298 [(true,[.map]),(false,[.p (.dat false zO)])]] (.c (.own zO)) [[.map]] 0 (fun k d=>PX k d.1 d.2.1 d.2.2.1) (fun x=>(x.1,x.2,()))
theorem vA0:zJ prog yQn:=fX (rs:=.c (.own zO)) (os:=[[.map]]) (ns:=0) f193 yHn 2 (fun d=>(d.1,d.2.1)) yNf (qV yT2)
def TG:Nat×zH:=zQ 290 [.c (.dat false zO),.c (.int .i64)] (.c (.own zO)) (fun k d=>EY k d.1 d.2.1) (fun x=>(x,()))
theorem qUk:zJ prog TG:=fA (rs:=.c (.own zO)) f290 ⟨[],[],[],false⟩ (fun d=>d.1) (zN (l:=[KZ,yQn]) zM ⟨TA,vA0,trivial⟩) zK
def K1:Nat×zH:=zQ 173 [.agg ju,.agg wE] (.c (.bool)) (fun k d=>(rI (zm k) d)) (fun x=>(x,()))
theorem TH:zJ prog K1:=fA (rs:=.c (.bool)) f173 ⟨[],[],[],false⟩ (fun d=>d.1) (zN (l:=[]) zM trivial) zK
def qEa:Nat×zH:=zQ 300 [.agg wE,.ptr ju] (.c (.bool)) (fun k d=>(rI (PM k) d)) (fun x=>(x,()))
theorem vJ7:zJ prog qEa:=fA (rs:=.c (.bool)) f300 ⟨[],[],[],false⟩ (fun d=>d.1) (zN (l:=[K1]) zM ⟨TH,trivial⟩) zK
def qZi:zL:=⟨[(0,.c (.dat false zO)),(1,.c (.lit (.fn 300 [1001000]))),(7,.c (.int .i64)),(8,.c (.int .i64))],[.robox nR],[]⟩
def qUs:zL:=⟨[],[],[]⟩
def qXy:zL:=⟨[(4,.c (.int .i64))],[],[]⟩
def yCm (f:TI)(d:qZi.den):Option (Unit⊕Int):=(fw (f d.1.1.1 d.1.2.2.1.1 d.1.2.2.2.1.1) d.2.1)
def TJ:qI:=⟨[qZi],[(.exit 0,qUs),(.ret,qXy)],(Unit⊕Int),fun k d=>yCm (EU k k) d,fun b x _ K=>match x with|.inl x=>K (.exit 0) (zV b qUs ((),()))|.inr x=>K .ret (zV b qXy (((x,()),()),()))⟩
def vDe:qE:=⟨prog,fun _=>false,qS [qEa]⟩
def qVh:qB:=⟨[],[(2,TJ)],[],false⟩
theorem qZu:qQ vDe:=zN zM ⟨vJ7,trivial⟩
theorem yVt:qH prog 1000 0 19 (qD (qG f148) 0) TJ:=lp (A:=qVh) TJ (fun d=>match d with|.inl d=>.inl ()|.inr d=>.inr d.1.1.1) yCm EU AJ qZu zK
def yPo:Nat×zH:=zQ 148 [.c (.dat false zO),.fn 300 [ju]] (.c (.int .i64)) (fun k d=>(pv (PN k) d)) (fun x=>(x,()))
theorem vMf:zJ prog yPo:=fA (rs:=.c (.int .i64)) f148 qVh (fun d=>d.1) qZu (qV yVt)
def yD3:Nat×zH:=zQ 177 [.c (.dat false zO),.fn 300 [ju]] (.c (.bool)) (fun k d=>(pv (IE k) d)) (fun x=>(x,()))
theorem vC3:zJ prog yD3:=fA (rs:=.c (.bool)) f177 ⟨[],[],[],false⟩ (fun d=>d.1) (zN (l:=[yPo]) zM ⟨vMf,trivial⟩) zK
def yD5:zL:=⟨[(4,.c (.lit (.ptr 1001000 0))),(5,.c (.lit (.ptr 1001001 0))),(15,.c (.dat false zO)),(16,.c (.int .i64)),(17,.c (.int .i64))],[.box true [.lit .nsl,.lit .nsl,.lit .nsl],.box true TK,.arr true (.int .i64),.arr true (.int .i64),.mat],[]⟩
def yHq:zL:=⟨[(4,.c (.lit (.ptr 1001000 0))),(5,.c (.lit (.ptr 1001001 0)))],[.box true [.lit .nsl,.lit .nsl,.lit .nsl],.box true TK,.arr true (.int .i64),.arr true (.int .i64),.mat],[]⟩
def yN0 (f:TL)(d:yD5.den):Option K2:=f d.1.2.2.1.1 d.1.2.2.2.1.1 d.1.2.2.2.2.1.1 d.2.2.2.1 d.2.2.2.2.1 d.2.2.2.2.2.1
def TM:qI:=⟨[yD5],[(.exit 0,yHq)],K2,fun k d=>yN0 (Ay k k) d,fun b x _ K=>K (.exit 0) (zV b yHq (((),(),()),((),(),x.1,x.2.1,x.2.2,())))⟩
def vFv:qE:=⟨prog,fun _=>false,qS [Ka,Rz]⟩
def yKa:qB:=⟨[],[(3,TM)],[],false⟩
theorem qYu:qQ vFv:=zN zM ⟨Rw,yMv,trivial⟩
theorem vJu:qH prog 1000 0 84 (qD (qG f292) 0) TM:=lp (A:=yKa) TM (fun d=>(d.2.2.2.1,d.2.2.2.2.1,d.2.2.2.2.2.1)) yN0 Ay Az qYu zK
def qHi:Nat×zH:=zQ 292 [.c (.int .i64),.c (.dat false zO)] (.agg [.own (.int .i64),.own (.int .i64),.mat]) (fun k d=>Iz k d.1 d.2.1) (fun x=>(x.1,x.2.1,x.2.2,()))
theorem vDa:zJ prog qHi:=fA (rs:=.agg [.own (.int .i64),.own (.int .i64),.mat]) f292 yKa (fun d=>(d.1,d.2.1,d.2.2.1)) qYu (qV vJu)
def qPj:Nat×zH:=zQ 293 [.agg wE,.ptr [.int .i64]] (.c (.bool)) (fun k d=>(pn (PF k) d)) (fun x=>(x,()))
theorem vDq:zJ prog qPj:=fA (rs:=.c (.bool)) f293 ⟨[],[],[],false⟩ (fun d=>d.1) (zN (l:=[]) zM trivial) zK
def yFf:zL:=⟨[(0,.c (.dat false zO)),(1,.c (.lit (.fn 293 [1001000]))),(7,.c (.int .i64)),(8,.c (.int .i64))],[.robox [.int .i64]],[]⟩
def yRg:zL:=⟨[],[],[]⟩
def qSw:zL:=⟨[(4,.c (.int .i64))],[],[]⟩
def yMu (f:TN)(d:yFf.den):Option (Unit⊕Int):=f d.1.1.1 d.1.2.2.1.1 d.1.2.2.2.1.1 d.2.1.1
def TO:qI:=⟨[yFf],[(.exit 0,yRg),(.ret,qSw)],(Unit⊕Int),fun k d=>yMu (ES k k) d,fun b x _ K=>match x with|.inl x=>K (.exit 0) (zV b yRg ((),()))|.inr x=>K .ret (zV b qSw (((x,()),()),()))⟩
def vCz:qE:=⟨prog,fun _=>false,qS [qPj]⟩
def qZ6:qB:=⟨[],[(2,TO)],[],false⟩
theorem yJ5:qQ vCz:=zN zM ⟨vDq,trivial⟩
theorem vD1:qH prog 1000 0 19 (qD (qG f148) 0) TO:=lp (A:=qZ6) TO (fun d=>match d with|.inl d=>.inl ()|.inr d=>.inr d.1.1.1) yMu ES AA yJ5 zK
def yGb:Nat×zH:=zQ 148 [.c (.dat false zO),.fn 293 [[.int .i64]]] (.c (.int .i64)) (fun k d=>PG k d.1 d.2.1) (fun x=>(x,()))
theorem yTw:zJ prog yGb:=fA (rs:=.c (.int .i64)) f148 qZ6 (fun d=>d.1) yJ5 (qV vD1)
def qNr:Nat×zH:=zQ 177 [.c (.dat false zO),.fn 293 [[.int .i64]]] (.c (.bool)) (fun k d=>IA k d.1 d.2.1) (fun x=>(x,()))
theorem yW2:zJ prog qNr:=fA (rs:=.c (.bool)) f177 ⟨[],[],[],false⟩ (fun d=>d.1) (zN (l:=[yGb]) zM ⟨yTw,trivial⟩) zK
def yAi:zL:=⟨[(5,.c (.int .i64)),(12,.c (.dat false (.int .i64))),(13,.c (.int .i64)),(14,.c (.int .i64))],[],[]⟩
def yAc:zL:=⟨[(5,.c (.int .i64))],[],[]⟩
def yPm (f:Int→List Int→Int→Int→Option Int)(d:yAi.den):Option Int:=f d.1.1.1 d.1.2.1.1 d.1.2.2.1.1 d.1.2.2.2.1.1
def TP:qI:=⟨[yAi],[(.exit 0,yAc)],Int,fun k d=>yPm (z9 k k) d,fun b x _ K=>K (.exit 0) (zV b yAc (((x,()),()),()))⟩
def vCj:qE:=⟨prog,fun _=>false,qS []⟩
def yEp:qB:=⟨[],[(3,TP)],[],false⟩
theorem qV7:qQ vCj:=zN zM trivial
theorem vAs:qH prog 1000 0 23 (qD (qG f301) 0) TP:=lp (A:=yEp) TP (fun d=>d.1.1.1) yPm z9 Au qV7 zK
def qP3:Nat×zH:=zQ 301 [.agg ju,.c (.int .i64)] (.c (.int .i64)) (fun k d=>(pv (Ix k) d)) (fun x=>(x,()))
theorem yXy:zJ prog qP3:=fA (rs:=.c (.int .i64)) f301 yEp (fun d=>d.1) qV7 (qV vAs)
def TQ:Nat×zH:=zQ 302 [.c (.int .i64),.c (.int .i64)] (.c (.bool)) (fun k d=>AE k d.1 d.2.1) (fun x=>(x,()))
theorem yD0:zJ prog TQ:=fA (rs:=.c (.bool)) f302 ⟨[],[],[],false⟩ (fun d=>d.1) (zN (l:=[]) zM trivial) zK
def qHm:Nat×zH:=zQ 303 [.agg wE,.ptr [.int .i64],.ptr pq,.ptr K3,.ptr [.int .i64],.ptr ju] (.c (.bool)) (fun k d=>(yTu (PH k) d)) (fun x=>(x,()))
theorem vL1:zJ prog qHm:=fA (rs:=.c (.bool)) f303 ⟨[],[],[],false⟩ (fun d=>d.1) (zN (l:=[KR,TQ]) zM ⟨Th,yD0,trivial⟩) zK
def yJx:zL:=⟨[(0,.c (.dat false zO)),(1,.c (.lit (.fn 303 [1001000,1001001,1001002,1001003,1001004]))),(7,.c (.int .i64)),(8,.c (.int .i64))],[.robox [.int .i64],.robox [.int .i64,.int .i64,.int .i64],.robox TR,.robox [.int .i64],.robox nR],[]⟩
def yCf:zL:=⟨[],[],[]⟩
def qSo:zL:=⟨[(4,.c (.int .i64))],[],[]⟩
def yB8 (f:TS)(d:yJx.den):Option (Unit⊕Int):=(fw (f d.1.1.1 d.1.2.2.1.1 d.1.2.2.2.1.1 d.2.1.1 d.2.2.1.1 d.2.2.1.2.1 d.2.2.1.2.2.1 d.2.2.2.1.1 d.2.2.2.1.2.1 d.2.2.2.1.2.2.1 d.2.2.2.2.1.1) d.2.2.2.2.2.1)
def TT:qI:=⟨[yJx],[(.exit 0,yCf),(.ret,qSo)],(Unit⊕Int),fun k d=>yB8 (ET k k) d,fun b x _ K=>match x with|.inl x=>K (.exit 0) (zV b yCf ((),()))|.inr x=>K .ret (zV b qSo (((x,()),()),()))⟩
def vCi:qE:=⟨prog,fun _=>false,qS [qHm]⟩
def qX0:qB:=⟨[],[(2,TT)],[],false⟩
theorem qYz:qQ vCi:=zN zM ⟨vL1,trivial⟩
theorem yTg:qH prog 1000 0 19 (qD (qG f148) 0) TT:=lp (A:=qX0) TT (fun d=>match d with|.inl d=>.inl ()|.inr d=>.inr d.1.1.1) yB8 ET AF qYz zK
def qUv:Nat×zH:=zQ 148 [.c (.dat false zO),.fn 303 [[.int .i64],pq,K3,[.int .i64],ju]] (.c (.int .i64)) (fun k d=>(TU (PI k) d)) (fun x=>(x,()))
theorem vBt:zJ prog qUv:=fA (rs:=.c (.int .i64)) f148 qX0 (fun d=>d.1) qYz (qV yTg)
def qGu:Nat×zH:=zQ 177 [.c (.dat false zO),.fn 303 [[.int .i64],pq,K3,[.int .i64],ju]] (.c (.bool)) (fun k d=>(TU (IB k) d)) (fun x=>(x,()))
theorem vJl:zJ prog qGu:=fA (rs:=.c (.bool)) f177 ⟨[],[],[],false⟩ (fun d=>d.1) (zN (l:=[qUv]) zM ⟨vBt,trivial⟩) zK
def yRd:zL:=⟨[(3,.c (.dat false zO)),(4,.c (.lit (.ptr 1001000 0))),(5,.c (.lit (.ptr 1001001 0))),(6,.c (.lit (.ptr 1001002 0))),(9,.c (.lit (.ptr 1001003 0))),(10,.c (.lit (.ptr 1001004 0))),(11,.c (.int .i64)),(39,.c (.dat false (.int .i64))),(40,.c (.int .i64)),(41,.c (.int .i64))],[.box true TR,.box true nR,.box true [.int .i64],.box true [.int .i64,.int .i64,.int .i64],.box true [.int .i64]],[]⟩
def yKj:zL:=⟨[(3,.c (.dat false zO)),(4,.c (.lit (.ptr 1001000 0))),(5,.c (.lit (.ptr 1001001 0))),(6,.c (.lit (.ptr 1001002 0))),(9,.c (.lit (.ptr 1001003 0))),(10,.c (.lit (.ptr 1001004 0))),(11,.c (.int .i64))],[.box true TR,.box true nR,.box true [.int .i64],.box true [.int .i64,.int .i64,.int .i64],.box true [.int .i64]],[]⟩
def yQe (f:TV)(d:yRd.den):Option K4:=(fw (f d.1.1.1 d.1.2.2.2.2.2.2.1.1 d.1.2.2.2.2.2.2.2.1.1 d.1.2.2.2.2.2.2.2.2.1.1 d.1.2.2.2.2.2.2.2.2.2.1.1 d.2.1.1 d.2.1.2.1 d.2.1.2.2.1) d.2.2.1) d.2.2.2.1.1 d.2.2.2.2.1.1 d.2.2.2.2.1.2.1 d.2.2.2.2.1.2.2.1 d.2.2.2.2.2.1.1
def TW:qI:=⟨[yRd],[(.exit 0,yKj)],K4,fun k d=>yQe (vw k k) d,fun b x _ K=>K (.exit 0) (zV b yKj (((x.1,()),(),(),(),(),(),(x.2.1,()),()),((x.2.2.1,x.2.2.2.1,x.2.2.2.2.1,()),(yVj x ()),(x.2.2.2.2.2.2.2.2.2.1,()),(x.2.2.2.2.2.2.2.2.2.2.1,x.2.2.2.2.2.2.2.2.2.2.2.1,x.2.2.2.2.2.2.2.2.2.2.2.2.1,()),(x.2.2.2.2.2.2.2.2.2.2.2.2.2,()),())))⟩
def yVe:qE:=⟨prog,fun _=>false,qS [qP3,TQ,qGu]⟩
def qS3:qB:=⟨[],[(7,TW)],[],false⟩
theorem qZp:qQ yVe:=zN zM ⟨yXy,yD0,vJl,trivial⟩
theorem vBp:qH prog 1000 0 59 (qD (qG f294) 0) TW:=lp (A:=qS3) TW (fun d=>(d.1.1.1,d.1.2.2.2.2.2.2.1.1,d.2.1.1,d.2.1.2.1,d.2.1.2.2.1,(jM d.2.2.1 (d.2.2.2.1.1,d.2.2.2.2.1.1,d.2.2.2.2.1.2.1,d.2.2.2.2.1.2.2.1,d.2.2.2.2.2.1.1)))) yQe vw AG qZp zK
def qG8:Nat×zH:=zQ 294 [.agg K3,.agg ju,.c (.int .i64),.c (.dat false zO)] (.c (.bool)) (fun k d=>(TD (ID k) d)) (fun x=>(x,()))
theorem vH8:zJ prog qG8:=fA (rs:=.c (.bool)) f294 qS3 (fun d=>d.1) qZp (qV vBp)
def yKs:zL:=⟨[(1,.c (.dat false zO)),(2,.c (.lit (.ptr 1001000 0))),(5,.c (.lit (.ptr 1001001 0))),(6,.c (.lit (.osl 1001005 none))),(16,.c (.int .i64)),(17,.c (.int .i64))],[.box true nR,.box true TK,.arr true (.int .i64),.arr true (.int .i64),.mat,.arr true (.int .i64)],[(6,none,(.int .i64),false)]⟩
def yIt:zL:=⟨[(6,.c (.lit (.osl 1001000 none)))],[.arr true (.int .i64)],[]⟩
def yN9 (f:TX)(d:yKs.den):Option (List Int):=(fw (f d.1.1.1 d.1.2.2.2.2.1.1 d.1.2.2.2.2.2.1.1) d.2.1) d.2.2.2.1 d.2.2.2.2.1 d.2.2.2.2.2.1 d.2.2.2.2.2.2.1
def TY:qI:=⟨[yKs],[(.exit 0,yIt)],(List Int),fun k d=>yN9 (AH k k) d,fun b x _ K=>K (.exit 0) (zV b yIt (((),()),(x,())))⟩
def vLl:qE:=⟨prog,fun _=>false,qS [qHi,qNr,qG8]⟩
def qWm:qB:=⟨[],[(4,TY)],[],false⟩
theorem qXv:qQ vLl:=zN zM ⟨vDa,yW2,vH8,trivial⟩
theorem vJn:qH prog 1000 0 37 (qD (qG f278) 0) TY:=lp (A:=qWm) TY (fun d=>d.2.1) yN9 AH AI qXv zK
def TZ:Nat×zH:=zQ 278 [.agg ju,.c (.dat false zO)] (.c (.own (.int .i64))) (fun k d=>(pv (vx k) d)) (fun x=>(x,()))
theorem yD9:zJ prog TZ:=fA (rs:=.c (.own (.int .i64))) f278 qWm (fun d=>d.1) qXv (qV vJn)
def T0:Nat×zH:=zQ 291 [.agg ju,.c (.dat false zO)] (.c (.bool)) (fun k d=>(pv (vy k) d)) (fun x=>(x,()))
theorem yLt:zJ prog T0:=fA (rs:=.c (.bool)) f291 ⟨[],[],[],false⟩ (fun d=>d.1) (zN (l:=[yD3,TZ]) zM ⟨vC3,yD9,trivial⟩) zK
def qRn:Nat×zH:=zQ 283 [.agg wE,.ptr ju] (.c (.bool)) (fun k d=>(rI (Po k) d)) (fun x=>(x,()))
theorem yUx:zJ prog qRn:=fA (rs:=.c (.bool)) f283 ⟨[],[],[],false⟩ (fun d=>d.1) (zN (l:=[K1]) zM ⟨TH,trivial⟩) zK
def yL8:zL:=⟨[(0,.c (.dat false zO)),(1,.c (.lit (.fn 283 [1001000]))),(7,.c (.int .i64)),(8,.c (.int .i64))],[.robox nR],[]⟩
def qSz:zL:=⟨[],[],[]⟩
def yK2:zL:=⟨[(4,.c (.int .i64))],[],[]⟩
def yMd (f:T1)(d:yL8.den):Option (Unit⊕Int):=(fw (f d.1.1.1 d.1.2.2.1.1 d.1.2.2.2.1.1) d.2.1)
def T2:qI:=⟨[yL8],[(.exit 0,qSz),(.ret,yK2)],(Unit⊕Int),fun k d=>yMd (Ev k k) d,fun b x _ K=>match x with|.inl x=>K (.exit 0) (zV b qSz ((),()))|.inr x=>K .ret (zV b yK2 (((x,()),()),()))⟩
def vIr:qE:=⟨prog,fun _=>false,qS [qRn]⟩
def yOq:qB:=⟨[],[(2,T2)],[],false⟩
theorem yCg:qQ vIr:=zN zM ⟨yUx,trivial⟩
theorem vKp:qH prog 1000 0 19 (qD (qG f148) 0) T2:=lp (A:=yOq) T2 (fun d=>match d with|.inl d=>.inl ()|.inr d=>.inr d.1.1.1) yMd Ev zo yCg zK
def yJr:Nat×zH:=zQ 148 [.c (.dat false zO),.fn 283 [ju]] (.c (.int .i64)) (fun k d=>(pv (Pp k) d)) (fun x=>(x,()))
theorem yTp:zJ prog yJr:=fA (rs:=.c (.int .i64)) f148 yOq (fun d=>d.1) yCg (qV vKp)
def qEm:Nat×zH:=zQ 177 [.c (.dat false zO),.fn 283 [ju]] (.c (.bool)) (fun k d=>(pv (Ic k) d)) (fun x=>(x,()))
theorem yT9:zJ prog qEm:=fA (rs:=.c (.bool)) f177 ⟨[],[],[],false⟩ (fun d=>d.1) (zN (l:=[yJr]) zM ⟨yTp,trivial⟩) zK
def qMs:Nat×zH:=zQ 160 [.agg pq] (.c (.bool)) (fun k d=>O8 k d.1 d.2.1 d.2.2.1) (fun x=>(x,()))
theorem vC9:zJ prog qMs:=fA (rs:=.c (.bool)) f160 ⟨[],[],[],false⟩ (fun d=>d.1) (zN (l:=[Te]) zM ⟨qZd,trivial⟩) zK
def yFo:zL:=⟨[(0,.c (.dat false yD)),(1,.c (.lit (.fn 160 []))),(7,.c (.int .i64)),(8,.c (.int .i64))],[],[]⟩
def yEu:zL:=⟨[],[],[]⟩
def qUo:zL:=⟨[(4,.c (.int .i64))],[],[]⟩
def yN8 (f:T3)(d:yFo.den):Option (Unit⊕Int):=f d.1.1.1 d.1.2.2.1.1 d.1.2.2.2.1.1
def T4:qI:=⟨[yFo],[(.exit 0,yEu),(.ret,qUo)],(Unit⊕Int),fun k d=>yN8 (Ei k k) d,fun b x _ K=>match x with|.inl x=>K (.exit 0) (zV b yEu ((),()))|.inr x=>K .ret (zV b qUo (((x,()),()),()))⟩
def vI7:qE:=⟨prog,fun _=>false,qS [qMs]⟩
def qSr:qB:=⟨[],[(2,T4)],[],false⟩
theorem yN1:qQ vI7:=zN zM ⟨vC9,trivial⟩
theorem vJ0:qH prog 1000 0 19 (qD (qG f218) 0) T4:=lp (A:=qSr) T4 (fun d=>match d with|.inl d=>.inl ()|.inr d=>.inr d.1.1.1) yN8 Ei zc yN1 zK
def yFt:Nat×zH:=zQ 218 [.c (.dat false yD),.c (.fn 160)] (.c (.int .i64)) (fun k d=>O9 k d.1) (fun x=>(x,()))
theorem vI3:zJ prog yFt:=fA (rs:=.c (.int .i64)) f218 qSr (fun d=>d.1) yN1 (qV vJ0)
def yR6:Nat×zH:=zQ 162 [.c (.dat false yD),.c (.fn 160)] (.c (.bool)) (fun k d=>H4 k d.1) (fun x=>(x,()))
theorem yXi:zJ prog yR6:=fA (rs:=.c (.bool)) f162 ⟨[],[],[],false⟩ (fun d=>d.1) (zN (l:=[yFt]) zM ⟨vI3,trivial⟩) zK
def yN6:Nat×zH:=zQ 164 [.c (.int .i64)] (.c (.bool)) (fun k d=>O4 k d.1) (fun x=>(x,()))
theorem vG6:zJ prog yN6:=fA (rs:=.c (.bool)) f164 ⟨[],[],[],false⟩ (fun d=>d.1) (zN (l:=[]) zM trivial) zK
def qR5:Nat×zH:=zQ 219 [.c (.int .i64),.ptr [.fn 164]] (.c (.bool)) (fun k d=>Pb k d.1) (fun x=>(x,()))
theorem vDi:zJ prog qR5:=fA (rs:=.c (.bool)) f219 ⟨[],[],[],false⟩ (fun d=>d.1) (zN (l:=[yN6]) zM ⟨vG6,trivial⟩) zK
def qUe:zL:=⟨[(0,.c (.dat false (.int .i64))),(1,.c (.lit (.fn 219 [1001000]))),(7,.c (.int .i64)),(8,.c (.int .i64))],[.robox [.lit (.fn 164 [])]],[]⟩
def yPg:zL:=⟨[],[],[]⟩
def qZj:zL:=⟨[(4,.c (.int .i64))],[],[]⟩
def yR3 (f:T5)(d:qUe.den):Option (Unit⊕Int):=f d.1.1.1 d.1.2.2.1.1 d.1.2.2.2.1.1
def T6:qI:=⟨[qUe],[(.exit 0,yPg),(.ret,qZj)],(Unit⊕Int),fun k d=>yR3 (Ej k k) d,fun b x _ K=>match x with|.inl x=>K (.exit 0) (zV b yPg ((),()))|.inr x=>K .ret (zV b qZj (((x,()),()),()))⟩
def yYf:qE:=⟨prog,fun _=>false,qS [qR5]⟩
def yQ7:qB:=⟨[],[(2,T6)],[],false⟩
theorem yA5:qQ yYf:=zN zM ⟨vDi,trivial⟩
theorem vJj:qH prog 1000 0 19 (qD (qG f220) 0) T6:=lp (A:=yQ7) T6 (fun d=>match d with|.inl d=>.inl ()|.inr d=>.inr d.1.1.1) yR3 Ej zd yA5 zK
def yKq:Nat×zH:=zQ 220 [.c (.dat false (.int .i64)),.fn 219 [[.fn 164]]] (.c (.int .i64)) (fun k d=>Pc k d.1) (fun x=>(x,()))
theorem vHh:zJ prog yKq:=fA (rs:=.c (.int .i64)) f220 yQ7 (fun d=>d.1) yA5 (qV vJj)
def yGf:Nat×zH:=zQ 168 [.c (.dat false (.int .i64)),.fn 219 [[.fn 164]]] (.c (.bool)) (fun k d=>H5 k d.1) (fun x=>(x,()))
theorem yX3:zJ prog yGf:=fA (rs:=.c (.bool)) f168 ⟨[],[],[],false⟩ (fun d=>d.1) (zN (l:=[yKq]) zM ⟨vHh,trivial⟩) zK
def T7:Nat×zH:=zQ 165 [.c (.dat false (.int .i64)),.c (.int .i64),.c (.fn 164)] (.c (.bool)) (fun k d=>El k d.1 d.2.1) (fun x=>(x,()))
theorem qV3:zJ prog T7:=fA (rs:=.c (.bool)) f165 ⟨[],[],[],false⟩ (fun d=>d.1) (zN (l:=[yGf]) zM ⟨yX3,trivial⟩) zK
def yK8:zL:=⟨[(1,.c (.int .i64)),(2,.c (.lit (.fn 164 []))),(13,.c (.dat false (.sl (.int .i64)))),(14,.c (.int .i64)),(15,.c (.int .i64))],[],[]⟩
def yNw:zL:=⟨[],[],[]⟩
def yLd:zL:=⟨[(6,.c (.bool))],[],[]⟩
def qS4 (f:T8)(d:yK8.den):Option (Unit⊕Bool):=f d.1.1.1 d.1.2.2.1.1 d.1.2.2.2.1.1 d.1.2.2.2.2.1.1
def T9:qI:=⟨[yK8],[(.exit 0,yNw),(.ret,yLd)],(Unit⊕Bool),fun k d=>qS4 (Em k k) d,fun b x _ K=>match x with|.inl x=>K (.exit 0) (zV b yNw ((),()))|.inr x=>K .ret (zV b yLd (((x,()),()),()))⟩
def vLz:qE:=⟨prog,fun _=>false,qS [T7]⟩
def yFr:qB:=⟨[],[(4,T9)],[],false⟩
theorem yDf:qQ vLz:=zN zM ⟨qV3,trivial⟩
theorem vK3:qH prog 1000 0 25 (qD (qG f163) 0) T9:=lp (A:=yFr) T9 (fun d=>match d with|.inl d=>.inl ()|.inr d=>.inr d.1.1.1) qS4 Em zg yDf zK
def yG1:Nat×zH:=zQ 163 [.c (.dat false (.sl (.int .i64))),.c (.int .i64),.c (.fn 164)] (.c (.bool)) (fun k d=>H8 k d.1 d.2.1) (fun x=>(x,()))
theorem vFo:zJ prog yG1:=fA (rs:=.c (.bool)) f163 yFr (fun d=>d.1) yDf (qV vK3)
def qZg:Nat×zH:=zQ 166 [.c (.int .i64)] (.c (.bool)) (fun k d=>HZ k d.1) (fun x=>(x,()))
theorem yYz:zJ prog qZg:=fA (rs:=.c (.bool)) f166 ⟨[],[],[],false⟩ (fun d=>d.1) (zN (l:=[]) zM trivial) zK
def qLm:Nat×zH:=zQ 219 [.c (.int .i64),.ptr [.fn 166]] (.c (.bool)) (fun k d=>Pd k d.1) (fun x=>(x,()))
theorem vFz:zJ prog qLm:=fA (rs:=.c (.bool)) f219 ⟨[],[],[],false⟩ (fun d=>d.1) (zN (l:=[qZg]) zM ⟨yYz,trivial⟩) zK
def yQp:zL:=⟨[(0,.c (.dat false (.int .i64))),(1,.c (.lit (.fn 219 [1001000]))),(7,.c (.int .i64)),(8,.c (.int .i64))],[.robox [.lit (.fn 166 [])]],[]⟩
def yGp:zL:=⟨[],[],[]⟩
def qYg:zL:=⟨[(4,.c (.int .i64))],[],[]⟩
def yFz (f:Ua)(d:yQp.den):Option (Unit⊕Int):=f d.1.1.1 d.1.2.2.1.1 d.1.2.2.2.1.1
def Ub:qI:=⟨[yQp],[(.exit 0,yGp),(.ret,qYg)],(Unit⊕Int),fun k d=>yFz (Ek k k) d,fun b x _ K=>match x with|.inl x=>K (.exit 0) (zV b yGp ((),()))|.inr x=>K .ret (zV b qYg (((x,()),()),()))⟩
def yUy:qE:=⟨prog,fun _=>false,qS [qLm]⟩
def yG4:qB:=⟨[],[(2,Ub)],[],false⟩
theorem yCr:qQ yUy:=zN zM ⟨vFz,trivial⟩
theorem yTz:qH prog 1000 0 19 (qD (qG f220) 0) Ub:=lp (A:=yG4) Ub (fun d=>match d with|.inl d=>.inl ()|.inr d=>.inr d.1.1.1) yFz Ek ze yCr zK
def yOw:Nat×zH:=zQ 220 [.c (.dat false (.int .i64)),.fn 219 [[.fn 166]]] (.c (.int .i64)) (fun k d=>Pe k d.1) (fun x=>(x,()))
theorem vEw:zJ prog yOw:=fA (rs:=.c (.int .i64)) f220 yG4 (fun d=>d.1) yCr (qV yTz)
def qWh:Nat×zH:=zQ 168 [.c (.dat false (.int .i64)),.fn 219 [[.fn 166]]] (.c (.bool)) (fun k d=>H6 k d.1) (fun x=>(x,()))
theorem yW7:zJ prog qWh:=fA (rs:=.c (.bool)) f168 ⟨[],[],[],false⟩ (fun d=>d.1) (zN (l:=[yOw]) zM ⟨vEw,trivial⟩) zK
def qFd:Nat×zH:=zQ 165 [.c (.dat false (.int .i64)),.c (.int .i64),.c (.fn 166)] (.c (.bool)) (fun k d=>H7 k d.1 d.2.1) (fun x=>(x,()))
theorem vBx:zJ prog qFd:=fA (rs:=.c (.bool)) f165 ⟨[],[],[],false⟩ (fun d=>d.1) (zN (l:=[qWh]) zM ⟨yW7,trivial⟩) zK
def yIk:zL:=⟨[(1,.c (.int .i64)),(2,.c (.lit (.fn 166 []))),(13,.c (.dat false (.sl (.int .i64)))),(14,.c (.int .i64)),(15,.c (.int .i64))],[],[]⟩
def qZe:zL:=⟨[],[],[]⟩
def yBz:zL:=⟨[(6,.c (.bool))],[],[]⟩
def yB5 (f:Uc)(d:yIk.den):Option (Unit⊕Bool):=f d.1.1.1 d.1.2.2.1.1 d.1.2.2.2.1.1 d.1.2.2.2.2.1.1
def Ud:qI:=⟨[yIk],[(.exit 0,qZe),(.ret,yBz)],(Unit⊕Bool),fun k d=>yB5 (En k k) d,fun b x _ K=>match x with|.inl x=>K (.exit 0) (zV b qZe ((),()))|.inr x=>K .ret (zV b yBz (((x,()),()),()))⟩
def yW5:qE:=⟨prog,fun _=>false,qS [qFd]⟩
def yH5:qB:=⟨[],[(4,Ud)],[],false⟩
theorem yHt:qQ yW5:=zN zM ⟨vBx,trivial⟩
theorem vE1:qH prog 1000 0 25 (qD (qG f163) 0) Ud:=lp (A:=yH5) Ud (fun d=>match d with|.inl d=>.inl ()|.inr d=>.inr d.1.1.1) yB5 En zh yHt zK
def qX4:Nat×zH:=zQ 163 [.c (.dat false (.sl (.int .i64))),.c (.int .i64),.c (.fn 166)] (.c (.bool)) (fun k d=>H9 k d.1 d.2.1) (fun x=>(x,()))
theorem vKh:zJ prog qX4:=fA (rs:=.c (.bool)) f163 yH5 (fun d=>d.1) yHt (qV vE1)
def qZ7:zL:=⟨[(0,.c (.dat false (.sl (.int .i64)))),(3,.c (.int .i64)),(7,.c (.dat false (.sl (.int .i64)))),(8,.c (.int .i64)),(9,.c (.int .i64)),(14,.c (.dat false (.int .i64))),(15,.c (.int .i64)),(16,.c (.int .i64))],[],[]⟩
def qWp:zL:=⟨[(0,.c (.dat false (.sl (.int .i64)))),(7,.c (.dat false (.sl (.int .i64)))),(8,.c (.int .i64)),(9,.c (.int .i64))],[],[]⟩
def yMh:zL:=⟨[(2,.c (.bool))],[],[]⟩
def yHh (f:Ue)(d:qZ7.den):Option K5:=f d.1.1.1 d.1.2.1.1 d.1.2.2.1.1 d.1.2.2.2.1.1 d.1.2.2.2.2.1.1 d.1.2.2.2.2.2.1.1 d.1.2.2.2.2.2.2.1.1 d.1.2.2.2.2.2.2.2.1.1
def Uf:qI:=⟨[qZ7],[(.exit 2,qWp),(.ret,yMh)],K5,fun k d=>yHh (zi k k) d,fun b x _ K=>match x with|.inl x=>K (.exit 2) (zV b qWp (((x.1,()),(x.2.1,()),(x.2.2.1,()),(x.2.2.2,()),()),()))|.inr x=>K .ret (zV b yMh (((x,()),()),()))⟩
def yEm:zL:=⟨[(0,.c (.dat false (.sl (.int .i64)))),(7,.c (.dat false (.sl (.int .i64)))),(8,.c (.int .i64)),(9,.c (.int .i64))],[],[]⟩
def yBo:zL:=⟨[],[],[]⟩
def qZ8:zL:=⟨[(2,.c (.bool))],[],[]⟩
def qU1 (f:Ug)(d:yEm.den):Option (Unit⊕Bool):=f d.1.1.1 d.1.2.1.1 d.1.2.2.1.1 d.1.2.2.2.1.1
def Uh:qI:=⟨[yEm],[(.exit 0,yBo),(.ret,qZ8)],(Unit⊕Bool),fun k d=>qU1 (Eo k k) d,fun b x _ K=>match x with|.inl x=>K (.exit 0) (zV b yBo ((),()))|.inr x=>K .ret (zV b qZ8 (((x,()),()),()))⟩
def yW4:qE:=⟨prog,fun _=>false,qS []⟩
def Ui:qB:=⟨[],[(5,Uf),(2,Uh)],[],false⟩
theorem Uj:qQ yW4:=zN zM trivial
theorem vHa:qH prog 1000 0 33 (qD (qD (qG f167) 0) 0) Uf:=lp (A:=Ui) Uf (fun d=>match d with|.inl d=>.inl (d.1.1.1,d.1.2.1.1,d.1.2.2.1.1,d.1.2.2.2.1.1)|.inr d=>.inr d.1.1.1) yHh zi zj Uj zK
theorem vEn:qH prog 1000 0 33 (qD (qG f167) 0) Uh:=lp (A:=Ui) Uh (fun d=>match d with|.inl d=>.inl ()|.inr d=>.inr d.1.1.1) qU1 Eo zk Uj (qV vHa)
def yAz:Nat×zH:=zQ 167 [.c (.dat false (.sl (.int .i64)))] (.c (.bool)) (fun k d=>Ia k d.1) (fun x=>(x,()))
theorem yYm:zJ prog yAz:=fA (rs:=.c (.bool)) f167 Ui (fun d=>d.1) Uj (qV vEn)
def Uk:Nat×zH:=zQ 108 [.agg ju] (.c (.bool)) (fun k d=>(fw (Ep k) d)) (fun x=>(x,()))
theorem yCx:zJ prog Uk:=fA (rs:=.c (.bool)) f108 ⟨[],[],[],false⟩ (fun d=>d.1) (zN (l:=[yR6,yG1,T7,qX4,yAz]) zM ⟨yXi,vFo,qV3,vKh,yYm,trivial⟩) zK
def yKu:zL:=⟨[(2,.c (.lit (.ptr 1001000 0))),(4,.c (.lit (.ptr 1001001 0))),(7,.c (.lit (.ptr 1001002 0))),(24,.c (.dat false zO)),(25,.c (.int .i64)),(26,.c (.int .i64))],[.box true fT,.box true K6,.box true K7,.arr true yD,.mat,.arr true (.int .i64),.mat],[]⟩
def qVv:zL:=⟨[(2,.c (.lit (.ptr 1001000 0))),(4,.c (.lit (.ptr 1001001 0))),(7,.c (.lit (.ptr 1001002 0)))],[.box true fT,.box true K6,.box true K7,.arr true yD,.mat,.arr true (.int .i64),.mat],[]⟩
def yBs (f:Ul)(d:yKu.den):Option K8:=(fw (f d.1.2.2.2.1.1 d.1.2.2.2.2.1.1 d.1.2.2.2.2.2.1.1) d.2.1) d.2.2.2.2.1 d.2.2.2.2.2.1 d.2.2.2.2.2.2.1 d.2.2.2.2.2.2.2.1
def Um:qI:=⟨[yKu],[(.exit 0,qVv)],K8,fun k d=>yBs (zr k k) d,fun b x _ K=>K (.exit 0) (zV b qVv (((),(),(),()),((jM x ()),(),(),x.2.2.2.2.1,x.2.2.2.2.2.1,x.2.2.2.2.2.2.1,x.2.2.2.2.2.2.2,())))⟩
def yU8:qE:=⟨prog,fun _=>false,qS [qEm,po,KR,Uk]⟩
def yFi:qB:=⟨[],[(6,Um)],[],false⟩
theorem yOm:qQ yU8:=zN zM ⟨yT9,rH,Th,yCx,trivial⟩
theorem vIl:qH prog 1000 0 104 (qD (qG f253) 0) Um:=lp (A:=yFi) Um (fun d=>(jM d.2.1 (d.2.2.2.2.1,d.2.2.2.2.2.1,d.2.2.2.2.2.2.1,d.2.2.2.2.2.2.2.1))) yBs zr zt yOm zK
def K9:Nat×zH:=zQ 253 [.agg tT,.c (.dat false zO)] (.tup [(true,lj),(false,qW)]) (fun k d=>(pv (nr k) d)) (fun x=>(ft x ()))
theorem Un:zJ prog K9:=fA (rs:=.tup [(true,lj),(false,qW)]) f253 yFi (fun d=>(vO d)) yOm (qV vIl)
def qYi:zL:=⟨[(3,.c (.lit (.ptr 1001000 0))),(6,.c (.lit (.ptr 1001001 0))),(7,.c (.lit (.ptr 1001002 0))),(15,.c (.lit (.osl 1001003 none))),(16,.c (.int .i64)),(17,.c (.int .i64))],[.box true fT,.box true ku,.box true K6,.arr true zO],[]⟩
def yGc:zL:=⟨[(3,.c (.lit (.ptr 1001000 0))),(6,.c (.lit (.ptr 1001001 0))),(7,.c (.lit (.ptr 1001002 0)))],[.box true fT,.box true ku,.box true K6],[]⟩
def yMe:zL:=⟨[(6,.c (.lit (.ptr 1001000 0))),(7,.c (.lit (.ptr 1001001 0))),(8,.c (.bool))],[.box true ku,.box true fT],[]⟩
def qZo (f:Uo)(d:qYi.den):Option La:=(tS (fw (f d.1.2.2.2.2.1.1 d.1.2.2.2.2.2.1.1) d.2.1) d.2.2.1) d.2.2.2.2.1
def Uq:qI:=⟨[qYi],[(.exit 0,yGc),(.ret,yMe)],La,fun k d=>qZo (Fc k k) d,fun b x _ K=>match x with|.inl x=>K (.exit 0) (zV b yGc (((),(),(),()),((jM x ()),(Ur x ()),(),())))|.inr x=>K .ret (zV b yMe (((),(),(x.1,()),()),((vI5 x ()),(yS1 x ()),())))⟩
def yW8:qE:=⟨prog,fun _=>false,qS [TG,T0,K9]⟩
def yFn:qB:=⟨[],[(2,Uq)],[],false⟩
theorem qTp:qQ yW8:=zN zM ⟨qUk,yLt,Un,trivial⟩
theorem yUt:qH prog 1000 0 40 (qD (qG f276) 0) Uq:=lp (A:=yFn) Uq (fun d=>match d with|.inl d=>.inl (jM d.2.1 (jX d.2.2.1))|.inr d=>.inr (d.1.2.2.1.1,(Cu d.2.1 (vM d.2.2.1)))) qZo Fc Bf qTp zK
def qDf:Nat×zH:=zQ 276 [.agg tT,.c (.dat true zO),.c (.int .i64)] (.tup [(true,mF),(true,lj),(false,[.bool])]) (fun k d=>(pt (IX k) d)) (fun x=>(tR x ()))
theorem vJd:zJ prog qDf:=fA (rs:=.tup [(true,mF),(true,lj),(false,[.bool])]) f276 yFn (fun d=>(nQ d)) qTp (qV yUt)
def yAv:zL:=⟨[(2,.c (.int .i64)),(6,.c (.lit (.ptr 1001000 0))),(7,.c (.dat true zO)),(8,.c (.lit (.osl 1001001 none)))],[.box true fT,.arr true zO],[(8,none,zO,false)]⟩
def yMq:zL:=⟨[(6,.c (.lit (.ptr 1001000 0))),(7,.c (.dat true zO)),(8,.c (.lit (.osl 1001001 none)))],[.box true fT,.arr true zO],[]⟩
def yRm (f:Us)(d:yAv.den):Option Lb:=(fw (f d.1.1.1 d.1.2.2.1.1) d.2.1) d.2.2.1
def Ut:qI:=⟨[yAv],[(.ret,yMq)],Lb,fun k d=>yRm (Fe k k) d,fun b x _ K=>K .ret (zV b yMq (((),(x.1,()),(),()),((mG x ()),x.2.2.2.2.2,())))⟩
def vGf:qE:=⟨prog,fun _=>false,qS [qDf,tP]⟩
def qXl:qB:=⟨[],[(2,Ut)],[],false⟩
theorem yG0:qQ vGf:=zN zM ⟨vJd,xj,trivial⟩
theorem vHu:qH prog 1000 0 40 (qD (qG f248) 0) Ut:=lp (A:=qXl) Ut (fun d=>(d.1.2.1.1,(jM d.2.1 d.2.2.1))) yRm Fe Bg yG0 zK
def qLz:Nat×zH:=zQ 248 [.agg tT,.c (.dat true zO),.c (.int .i64)] (.tup [(true,lj),(false,[.fro zO]),(false,[.own zO])]) (fun k d=>(pt (IZ k) d)) (fun x=>(tU x ()))
theorem vAm:zJ prog qLz:=fA (rs:=.tup [(true,lj),(false,[.fro zO]),(false,[.own zO])]) f248 qXl (fun d=>(xk d)) yG0 (qV vHu)
def yNi:zL:=⟨[(3,.c (.lit (.ptr 1001000 0))),(6,.c (.lit (.ptr 1001001 0))),(8,.c (.lit (.osl 1001002 none))),(10,.c (.lit (.ptr 1001003 0))),(18,.c (.lit (.osl 1001002 none))),(19,.c (.int .i64)),(20,.c (.int .i64)),(24,.c (.lit (.osl 1001002 none))),(25,.c (.int .i64)),(26,.c (.int .i64))],[.box true fT,.box true Lc,.arr true zO,.box true ku],[]⟩
def yOn:zL:=⟨[(3,.c (.lit (.ptr 1001000 0))),(6,.c (.lit (.ptr 1001001 0))),(8,.c (.lit (.osl 1001002 none))),(18,.c (.lit (.osl 1001002 none))),(19,.c (.int .i64)),(20,.c (.int .i64))],[.box true fT,.box true Lc,.arr true zO],[]⟩
def qTh:zL:=⟨[(6,.c (.lit (.ptr 1001000 0))),(7,.c (.bool))],[.box true yAn],[]⟩
def yFp (f:Uu)(d:yNi.den):Option Ld:=(tS ((F8 (fw (f d.1.2.2.2.2.2.1.1 d.1.2.2.2.2.2.2.1.1 d.1.2.2.2.2.2.2.2.2.1.1 d.1.2.2.2.2.2.2.2.2.2.1.1) d.2.1) d.2.2.1) d.2.2.2.1) d.2.2.2.2.1)
def Uv:qI:=⟨[yNi],[(.exit 2,yOn),(.ret,qTh)],Ld,fun k d=>yFp (Ff k k) d,fun b x _ K=>match x with|.inl x=>K (.exit 2) (zV b yOn (((),(),(),(),(x.1,()),(x.2.1,()),()),((Sl x ()),(yU1 x ()),x.2.2.2.2.2.2.2.2.2.2.2.2.2.2.2.2.2.2.2.2,())))|.inr x=>K .ret (zV b qTh (((),(x.1,()),()),((Uw x ()),())))⟩
def yOi:zL:=⟨[(3,.c (.lit (.ptr 1001000 0))),(6,.c (.lit (.ptr 1001001 0))),(8,.c (.lit (.osl 1001002 none))),(18,.c (.lit (.osl 1001002 none))),(19,.c (.int .i64)),(20,.c (.int .i64))],[.box true fT,.box true Lc,.arr true zO],[]⟩
def yLn:zL:=⟨[(6,.c (.lit (.ptr 1001000 0)))],[.box true Lc],[]⟩
def yO5:zL:=⟨[(6,.c (.lit (.ptr 1001000 0))),(7,.c (.bool))],[.box true yAn],[]⟩
def qS7 (f:Ux)(d:yOi.den):Option Le:=(F8 (fw (f d.1.2.2.2.2.1.1 d.1.2.2.2.2.2.1.1) d.2.1) d.2.2.1) d.2.2.2.1
def Uy:qI:=⟨[yOi],[(.exit 0,yLn),(.ret,yO5)],Le,fun k d=>qS7 (Fg k k) d,fun b x _ K=>match x with|.inl x=>K (.exit 0) (zV b yLn (((),()),((Uz x ()),())))|.inr x=>K .ret (zV b yO5 (((),(x.1,()),()),((Uw x ()),())))⟩
def vL2:qE:=⟨prog,fun _=>false,qS [TG,T0,K9]⟩
def UA:qB:=⟨[],[(6,Uv),(3,Uy)],[],false⟩
theorem UB:qQ vL2:=zN zM ⟨qUk,yLt,Un,trivial⟩
theorem yWs:qH prog 1000 0 74 (qD (qD (qG f277) 0) 0) Uv:=lp (A:=UA) Uv (fun d=>match d with|.inl d=>.inl (d.1.2.2.2.2.1.1,d.1.2.2.2.2.2.1.1,(jM d.2.1 (UC d.2.2.1 d.2.2.2.1)))|.inr d=>.inr (d.1.2.1.1,(jQ d.2.1))) yFp Ff Bh UB zK
theorem yYp:qH prog 1000 0 74 (qD (qG f277) 0) Uy:=lp (A:=UA) Uy (fun d=>match d with|.inl d=>.inl (UD d.2.1)|.inr d=>.inr (d.1.2.1.1,(jQ d.2.1))) qS7 Fg Bi UB (qV yWs)
def qPb:Nat×zH:=zQ 277 [.agg tT,.c (.dat true zO),.c (.int .i64)] (.tup [(true,qVt),(false,[.bool])]) (fun k d=>(pt (I5 k) d)) (fun x=>(vJo x ()))
theorem yWu:zJ prog qPb:=fA (rs:=.tup [(true,qVt),(false,[.bool])]) f277 UA (fun d=>(yU4 d)) UB (qV yYp)
def yC6:zL:=⟨[(2,.c (.int .i64)),(6,.c (.lit (.ptr 1001000 0))),(7,.c (.dat true zO)),(8,.c (.lit (.osl 1001001 none))),(33,.c (.lit (.osl 1001002 none))),(34,.c (.int .i64)),(35,.c (.int .i64))],[.box true fT,.arr true zO,.arr true zO],[(8,none,zO,false)]⟩
def qUp:zL:=⟨[(2,.c (.int .i64)),(6,.c (.lit (.ptr 1001000 0))),(7,.c (.dat true zO)),(8,.c (.lit (.osl 1001001 none)))],[.box true fT,.arr true zO],[]⟩
def yB4 (f:UE)(d:yC6.den):Option Lf:=(fw (f d.1.1.1 d.1.2.2.1.1 d.1.2.2.2.2.2.1.1 d.1.2.2.2.2.2.2.1.1) d.2.1) d.2.2.1 d.2.2.2.1
def UF:qI:=⟨[yC6],[(.exit 2,qUp)],Lf,fun k d=>yB4 (rj k k) d,fun b x _ K=>K (.exit 2) (zV b qUp (((x.1,()),(),(x.2.1,()),(),()),((Sl x ()),x.2.2.2.2.2.2,())))⟩
def yP6:zL:=⟨[(2,.c (.int .i64)),(6,.c (.lit (.ptr 1001000 0))),(7,.c (.dat true zO)),(8,.c (.lit (.osl 1001001 none)))],[.box true fT,.arr true zO],[(8,none,zO,false)]⟩
def yNp:zL:=⟨[(6,.c (.lit (.ptr 1001000 0))),(7,.c (.dat true zO)),(8,.c (.lit (.osl 1001001 none)))],[.box true fT,.arr true zO],[]⟩
def qXw (f:UG)(d:yP6.den):Option Lg:=(fw (f d.1.1.1 d.1.2.2.1.1) d.2.1) d.2.2.1
def UH:qI:=⟨[yP6],[(.ret,yNp)],Lg,fun k d=>qXw (Fh k k) d,fun b x _ K=>K .ret (zV b yNp (((),(x.1,()),(),()),((mG x ()),x.2.2.2.2.2,())))⟩
def vMx:qE:=⟨prog,fun _=>false,qS [qPb,tP]⟩
def UI:qB:=⟨[],[(7,UF),(2,UH)],[],false⟩
theorem UJ:qQ vMx:=zN zM ⟨yWu,xj,trivial⟩
theorem vJm:qH prog 1000 0 52 (qD (qD (qG f249) 0) 0) UF:=lp (A:=UI) UF (fun d=>(d.1.1.1,d.1.2.2.1.1,(jM d.2.1 d.2.2.1))) yB4 rj tt UJ zK
theorem yYn:qH prog 1000 0 52 (qD (qG f249) 0) UH:=lp (A:=UI) UH (fun d=>(d.1.2.1.1,(jM d.2.1 d.2.2.1))) qXw Fh Bj UJ (qV vJm)
def qE6:Nat×zH:=zQ 249 [.agg tT,.c (.dat true zO),.c (.int .i64)] (.tup [(true,lj),(false,[.fro zO]),(false,[.own zO])]) (fun k d=>(pt (I6 k) d)) (fun x=>(tU x ()))
theorem yZ8:zJ prog qE6:=fA (rs:=.tup [(true,lj),(false,[.fro zO]),(false,[.own zO])]) f249 UI (fun d=>(xk d)) UJ (qV yYn)
def qU5:zL:=⟨[(2,.c (.int .i64)),(6,.c (.lit (.ptr 1001000 0))),(7,.c (.dat true zO)),(8,.c (.lit (.osl 1001001 none)))],[.box true fT,.arr true zO],[(8,none,zO,false)]⟩
def yC7:zL:=⟨[(6,.c (.lit (.ptr 1001000 0))),(7,.c (.dat true zO)),(8,.c (.lit (.osl 1001001 none)))],[.box true fT,.arr true zO],[]⟩
def yRn (f:UK)(d:qU5.den):Option Lh:=(fw (f d.1.1.1 d.1.2.2.1.1) d.2.1) d.2.2.1
def UL:qI:=⟨[qU5],[(.ret,yC7)],Lh,fun k d=>yRn (Fo k k) d,fun b x _ K=>K .ret (zV b yC7 (((),(x.1,()),(),()),((mG x ()),x.2.2.2.2.2,())))⟩
def yXh:qE:=⟨prog,fun _=>false,qS [qLz,qE6]⟩
def qVy:qB:=⟨[],[(2,UL)],[],false⟩
theorem yC3:qQ yXh:=zN zM ⟨vAm,yZ8,trivial⟩
theorem vIf:qH prog 1000 0 40 (qD (qG f212) 0) UL:=lp (A:=qVy) UL (fun d=>(d.1.2.1.1,(jM d.2.1 d.2.2.1))) yRn Fo Jb yC3 zK
def yHl:Nat×zH:=zQ 212 [.agg tT,.c (.dat true zO),.c (.int .i64)] (.tup [(true,lj),(false,[.fro zO]),(false,[.own zO])]) (fun k d=>(pt (Fp k) d)) (fun x=>(tU x ()))
theorem vMj:zJ prog yHl:=fA (rs:=.tup [(true,lj),(false,[.fro zO]),(false,[.own zO])]) f212 qVy (fun d=>(xk d)) yC3 (qV vIf)
def yQr:Nat×zH:=sV 279 false (.int .i64) (.own (.int .i64)) Qp
theorem vH9:zJ prog yQr:=fC f279 ⟨[],[],[],false⟩ (zN (l:=[]) zM trivial) zK
def qKg:Nat×zH:=yX 280 [.agg wE,.ptr true [.own (.int .i64)]] (.c (.bool)) [pg] 0 (fun k d=>(pn (Qr k) d)) (fun x=>(x.1,x.2,()))
theorem vLo:zJ prog qKg:=fX (rs:=.c (.bool)) (os:=[pg]) (ns:=0) f280 ⟨[],[],[],false⟩ 2 (fun d=>(d.1,d.2.1)) (zN (l:=[]) zM trivial) zK
def qZt:zL:=⟨[(1,.c (.lit (.fn 280 [1001000]))),(5,.c (.lit (.osl 1001002 none))),(8,.c (.dat false zO)),(9,.c (.int .i64)),(10,.c (.int .i64))],[.box true [.lit (.osl 1001001 none)],.arr true (.int .i64),.arr true zO],[(5,none,zO,false)]⟩
def yI2:zL:=⟨[(1,.c (.lit (.fn 280 [1001000]))),(5,.c (.lit (.osl 1001002 none)))],[.box true [.lit (.osl 1001001 none)],.arr true (.int .i64),.arr true zO],[]⟩
def yEx (f:UM)(d:qZt.den):Option Li:=f d.1.2.2.1.1 d.1.2.2.2.1.1 d.1.2.2.2.2.1.1 d.2.2.1 d.2.2.2.1
def UN:qI:=⟨[qZt],[(.exit 0,yI2)],Li,fun k d=>yEx (Bn k k) d,fun b x _ K=>K (.exit 0) (zV b yI2 (((),(),()),((),x.1,x.2,())))⟩
def yZs:qE:=⟨prog,fun _=>false,qS [qKg]⟩
def yB6:qB:=⟨[],[(3,UN)],[],false⟩
theorem qTg:qQ yZs:=zN zM ⟨vLo,trivial⟩
theorem yYk:qH prog 1000 2 23 (qD (qG f193) 0) UN:=lp (A:=yB6) UN (fun d=>(d.2.2.1,d.2.2.2.1)) yEx Bn Bo qTg zK
def qW5:Nat×zH:=yX 193 [.c (.p (.dat false zO)),.fn 280 [(true,[.own (.int .i64)])]] (.c (.own zO)) [pg] 0 (fun k d=>Qq k d.1 d.2.1) (fun x=>(x.1,x.2,()))
theorem yZ7:zJ prog qW5:=fX (rs:=.c (.own zO)) (os:=[pg]) (ns:=0) f193 yB6 2 (fun d=>(d.1,d.2.1)) qTg (qV yYk)
def UO:Nat×zH:=zQ 251 [.c (.dat false zO),.c (.dat false (.int .i64))] (.c (.own zO)) (fun k d=>Bm k d.1 d.2.1) (fun x=>(x,()))
theorem yMf:zJ prog UO:=fA (rs:=.c (.own zO)) f251 ⟨[],[],[],false⟩ (fun d=>d.1) (zN (l:=[yQr,qW5]) zM ⟨vH9,yZ7,trivial⟩) zK
def qW3:zL:=⟨[(3,.c (.lit (.ptr 1001000 0))),(6,.c (.lit (.osl 1001001 none))),(7,.c (.int .i64)),(8,.c (.lit (.osl 1001002 none))),(18,.c (.int .i64)),(19,.c (.int .i64))],[.box true nR,.arr true (.int .i64),.arr true zO],[(6,none,(.int .i64),false)]⟩
def yOk:zL:=⟨[(3,.c (.lit (.ptr 1001000 0))),(6,.c (.lit (.osl 1001001 none))),(7,.c (.int .i64)),(8,.c (.lit (.osl 1001002 none)))],[.box true nR,.arr true (.int .i64),.arr true zO],[]⟩
def qVq (f:UP)(d:qW3.den):Option Lj:=(fw (f d.1.2.2.1.1 d.1.2.2.2.2.1.1 d.1.2.2.2.2.2.1.1) d.2.1) d.2.2.1 d.2.2.2.1
def Lk:qI:=⟨[qW3],[(.exit 0,yOk)],Lj,fun k d=>qVq (wg k k) d,fun b x _ K=>K (.exit 0) (zV b yOk (((),(),(x.1,()),(),()),((mG x ()),x.2.2.2.2.2.1,x.2.2.2.2.2.2,())))⟩
def qZv:zL:=⟨[(3,.c (.lit (.ptr 1001000 0))),(6,.c (.lit (.osl 1001001 none))),(7,.c (.int .i64)),(8,.c (.lit (.osl 1001002 none))),(42,.c (.lit (.osl 1001003 none))),(43,.c (.int .i64)),(44,.c (.int .i64))],[.box true nR,.arr true (.int .i64),.arr true zO,.arr true (.int .i64)],[]⟩
def yOp:zL:=⟨[(3,.c (.lit (.ptr 1001000 0))),(6,.c (.lit (.osl 1001001 none))),(7,.c (.int .i64)),(8,.c (.lit (.osl 1001002 none)))],[.box true nR,.arr true (.int .i64),.arr true zO],[]⟩
def qTs (f:UQ)(d:qZv.den):Option Ll:=(fw (f d.1.2.2.1.1 d.1.2.2.2.2.2.1.1 d.1.2.2.2.2.2.2.1.1) d.2.1) d.2.2.1 d.2.2.2.1 d.2.2.2.2.1
def UR:qI:=⟨[qZv],[(.exit 4,yOp)],Ll,fun k d=>qTs (Br k k) d,fun b x _ K=>K (.exit 4) (zV b yOp (((),(),(x.1,()),(),()),((mG x ()),x.2.2.2.2.2.1,x.2.2.2.2.2.2,())))⟩
def qZb:zL:=⟨[(3,.c (.lit (.ptr 1001000 0))),(6,.c (.lit (.osl 1001001 none))),(7,.c (.int .i64)),(8,.c (.lit (.osl 1001002 none)))],[.box true nR,.arr true (.int .i64),.arr true zO],[]⟩
def qVi:zL:=⟨[(6,.c (.lit (.osl 1001000 none))),(7,.c (.int .i64))],[.arr true (.int .i64)],[]⟩
def yA6 (f:US)(d:qZb.den):Option (Int×(List Int)):=(fw (f d.1.2.2.1.1) d.2.1) d.2.2.1 d.2.2.2.1
def Lm:qI:=⟨[qZb],[(.ret,qVi)],(Int×(List Int)),fun k d=>yA6 (Fl k k) d,fun b x _ K=>K .ret (zV b qVi (((),(x.1,()),()),(x.2,())))⟩
def vHs:qE:=⟨prog,fun _=>false,qS [KZ,Sk,UO,TZ]⟩
def Ln:qB:=⟨[],[(3,Lk),(12,UR),(7,Lm)],[],false⟩
theorem Lp:qQ vHs:=zN zM ⟨TA,qTz,yMf,yD9,trivial⟩
theorem yVy:qH prog 1000 0 55 (qD (qG f250) 0) Lk:=lp (A:=Ln) Lk (fun d=>(d.1.2.2.1.1,(jM d.2.1 (d.2.2.1,d.2.2.2.1)))) qVq wg Bq Lp zK
theorem yYw:qH prog 1000 0 55 (qD (qD (qG f250) 1) 0) UR:=lp (A:=Ln) UR (fun d=>(d.1.2.2.1.1,(jM d.2.1 (d.2.2.1,d.2.2.2.1)))) qTs Br Bt Lp zK
theorem yVx:qH prog 1000 0 55 (qD (qG f250) 1) Lm:=lp (A:=Ln) Lm (fun d=>(d.1.2.1.1,d.2.1)) yA6 Fl Bu Lp (qV yYw)
def qI6:Nat×zH:=zQ 250 [.agg ju,.c (.dat false zO),.c (.int .i64)] (.tup [(false,pg),(false,qW)]) (fun k d=>(pt (I9 k) d)) (fun x=>(x.1,x.2,()))
theorem vMz:zJ prog qI6:=fA (rs:=.tup [(false,pg),(false,qW)]) f250 Ln (fun d=>(d.1,d.2.1)) Lp (loopsOK_of (n:=2) (by kernel_rfl) fun i hi=>match i,hi with|0,_=>⟨Lk,by kernel_rfl,yVy⟩|1,_=>⟨Lm,by kernel_rfl,yVx⟩|i+2,hi=>absurd hi (by omega))
def qTr:zL:=⟨[(6,.c (.lit (.ptr 1001000 0))),(7,.c (.dat true zO)),(11,.c (.lit (.osl 1001001 none))),(38,.c (.lit (.osl 1001001 none))),(39,.c (.int .i64)),(40,.c (.int .i64))],[.box true fT,.arr true zO],[]⟩
def yAh:zL:=⟨[(6,.c (.lit (.ptr 1001000 0))),(7,.c (.dat true zO)),(11,.c (.lit (.osl 1001001 none)))],[.box true fT,.arr true zO],[]⟩
def qTv (f:UT)(d:qTr.den):Option Lq:=(fw (f d.1.2.1.1 d.1.2.2.2.2.1.1 d.1.2.2.2.2.2.1.1) d.2.1) d.2.2.1
def UU:qI:=⟨[qTr],[(.exit 0,yAh)],Lq,fun k d=>qTv (wh k k) d,fun b x _ K=>K (.exit 0) (zV b yAh (((),(x.1,()),(),()),((mG x ()),x.2.2.2.2.2,())))⟩
def yVb:qE:=⟨prog,fun _=>false,qS [qI6,KZ,UO,K9,tP]⟩
def yRx:qB:=⟨[],[(8,UU)],[],false⟩
theorem qWg:qQ yVb:=zN zM ⟨vMz,TA,yMf,Un,xj,trivial⟩
theorem yTn:qH prog 1000 0 56 (qD (qG f213) 0) UU:=lp (A:=yRx) UU (fun d=>(d.1.2.1.1,(jM d.2.1 d.2.2.1))) qTv wh Bv qWg zK
def yLb:Nat×zH:=zQ 213 [.agg tT,.c (.dat true zO),.c (.int .i64)] (.tup [(true,lj),(false,[.fro zO]),(false,[.own zO])]) (fun k d=>(pt (Bw k) d)) (fun x=>(tU x ()))
theorem yU5:zJ prog yLb:=fA (rs:=.tup [(true,lj),(false,[.fro zO]),(false,[.own zO])]) f213 yRx (fun d=>(xk d)) qWg (qV yTn)
def yD6:Nat×zH:=zQ 146 [.agg tT,.c (.dat true zO),.c (.int .i64),.c (.bool)] (.tup [(true,lj),(false,[.fro zO]),(false,[.own zO])]) (fun k d=>(tS (wi k) d)) (fun x=>(tU x ()))
theorem yT5:zJ prog yD6:=fA (rs:=.tup [(true,lj),(false,[.fro zO]),(false,[.own zO])]) f146 ⟨[],[],[],false⟩ (fun d=>(xk d)) (zN (l:=[yHl,yLb]) zM ⟨vMj,yU5,trivial⟩) zK
def qXm:zL:=⟨[(3,.c (.lit (.osl 1001000 none))),(5,.c (.lit (.ptr 1001001 0))),(8,.c (.dat false zO)),(9,.c (.int .i64)),(10,.c (.int .i64)),(18,.c (.lit (.osl 1001002 none))),(19,.c (.int .i64)),(20,.c (.int .i64))],[.arr true qP,.box true ku,.arr true (.int .i64)],[(3,none,qP,false)]⟩
def qVf:zL:=⟨[(3,.c (.lit (.osl 1001000 none))),(8,.c (.dat false zO)),(9,.c (.int .i64)),(10,.c (.int .i64))],[.arr true qP],[]⟩
def qX6 (f:UW)(d:qXm.den):Option Lr:=(tS (f d.1.2.2.1.1 d.1.2.2.2.1.1 d.1.2.2.2.2.1.1 d.1.2.2.2.2.2.2.1.1 d.1.2.2.2.2.2.2.2.1.1 d.2.1) d.2.2.1) d.2.2.2.1
def UX:qI:=⟨[qXm],[(.exit 2,qVf)],Lr,fun k d=>qX6 (tu k k) d,fun b x _ K=>K (.exit 2) (zV b qVf (((),(x.1,()),(x.2.1,()),(x.2.2.1,()),()),(x.2.2.2,())))⟩
def qTk:zL:=⟨[(3,.c (.lit (.osl 1001000 none))),(8,.c (.dat false zO)),(9,.c (.int .i64)),(10,.c (.int .i64))],[.arr true qP],[(3,none,qP,false)]⟩
def yR8:zL:=⟨[(3,.c (.lit (.osl 1001000 none)))],[.arr true qP],[]⟩
def qZx (f:UY)(d:qTk.den):Option Ls:=f d.1.2.1.1 d.1.2.2.1.1 d.1.2.2.2.1.1 d.2.1
def UZ:qI:=⟨[qTk],[(.exit 0,yR8)],Ls,fun k d=>qZx (Bx k k) d,fun b x _ K=>K (.exit 0) (zV b yR8 (((),()),(x,())))⟩
def vKz:qE:=⟨prog,fun _=>false,qS [KT]⟩
def U0:qB:=⟨[],[(6,UX),(3,UZ)],[],false⟩
theorem U1:qQ vKz:=zN zM ⟨Ts,trivial⟩
theorem vLu:qH prog 1000 0 41 (qD (qD (qG f147) 0) 0) UX:=lp (A:=U0) UX (fun d=>(d.1.2.1.1,d.1.2.2.1.1,d.1.2.2.2.1.1,d.2.1)) qX6 tu tv U1 zK
theorem vKc:qH prog 1000 0 41 (qD (qG f147) 0) UZ:=lp (A:=U0) UZ (fun d=>d.2.1) qZx Bx By U1 (qV vLu)
def yL2:Nat×zH:=zQ 147 [.c (.dat false zO)] (.c (.own qP)) (fun k d=>Je k d.1) (fun x=>(x,()))
theorem yZw:zJ prog yL2:=fA (rs:=.c (.own qP)) f147 U0 (fun d=>d.1) U1 (qV vKc)
def U2:Nat×zH:=zQ 93 [.agg F2,.c (.bool)] (.tup [(true,pj),(false,[.own qP])]) (fun k d=>(Lt (rp k) d)) (fun x=>(tR x ()))
theorem yL3:zJ prog U2:=fA (rs:=.tup [(true,pj),(false,[.own qP])]) f93 ⟨[],[],[],false⟩ (fun d=>(nQ d)) (zN (l:=[yD6,yL2]) zM ⟨yT5,yZw,trivial⟩) zK
def yJu:zL:=⟨[(2,.c (.lit (.ptr 1001000 0))),(3,.c (.lit (.ptr 1001001 0))),(4,.c (.lit (.ptr 1001002 0))),(6,.c (.lit (.osl 1001003 none))),(7,.c (.lit (.osl 1001004 none))),(27,.c (.dat true zO)),(28,.c (.int .i64)),(29,.c (.int .i64))],[.box true tL,.box true lh,.box true lg,.arr true qP,.arr true zO],[(6,none,qP,false),(7,none,zO,false)]⟩
def yBd:zL:=⟨[(2,.c (.lit (.ptr 1001000 0))),(3,.c (.lit (.ptr 1001001 0))),(4,.c (.lit (.ptr 1001002 0))),(6,.c (.lit (.osl 1001003 none))),(7,.c (.lit (.osl 1001004 none)))],[.box true tL,.box true lh,.box true lg,.arr true qP,.arr true zO],[]⟩
def yMz (f:U3)(d:yJu.den):Option Lu:=(rI (pv (f d.1.2.2.2.2.2.1.1 d.1.2.2.2.2.2.2.1.1 d.1.2.2.2.2.2.2.2.1.1) d.2.1) d.2.2.1) d.2.2.2.1.1 d.2.2.2.1.2.1 d.2.2.2.1.2.2.1 d.2.2.2.2.1 d.2.2.2.2.2.1
def U4:qI:=⟨[yJu],[(.exit 0,yBd)],Lu,fun k d=>yMz (BE k k) d,fun b x _ K=>K (.exit 0) (zV b yBd (((),(),(),(),(),()),((rJ x ()),(vEx x ()),(x.2.2.2.2.2.2.2.2.2.2.2.2.2.2.2.2.1,x.2.2.2.2.2.2.2.2.2.2.2.2.2.2.2.2.2.1,x.2.2.2.2.2.2.2.2.2.2.2.2.2.2.2.2.2.2.1,()),x.2.2.2.2.2.2.2.2.2.2.2.2.2.2.2.2.2.2.2.1,x.2.2.2.2.2.2.2.2.2.2.2.2.2.2.2.2.2.2.2.2,())))⟩
def ySh:qE:=⟨prog,fun _=>false,qS [Tq,qQh,qPg,KT,qKi,U2]⟩
def yRu:qB:=⟨[],[(9,U4)],[],false⟩
theorem yQ9:qQ ySh:=zN zM ⟨qZm,vFe,vGi,Ts,yWz,yL3,trivial⟩
theorem yZx:qH prog 1000 0 66 (qD (qG f92) 0) U4:=lp (A:=yRu) U4 (fun d=>(rJ d.2.1 (tQ d.2.2.1 (d.2.2.2.1.1,d.2.2.2.1.2.1,d.2.2.2.1.2.2.1,d.2.2.2.2.1,d.2.2.2.2.2.1)))) yMz BE BF yQ9 zK
def yO9:Nat×zH:=zQ 92 [.agg mD,.agg F2] (.tup [(true,pj),(false,[.own qP])]) (fun k d=>(yDz (BG k) d)) (fun x=>(tR x ()))
theorem ySf:zJ prog yO9:=fA (rs:=.tup [(true,pj),(false,[.own qP])]) f92 yRu (fun d=>(nQ d)) yQ9 (qV yZx)
def yOc:Nat×zH:=yX 136 [.ptr true tN,.agg [.int .i64,.int .i64,.int .i64,.int .i64,.int .i64,.int .i64]] (.c (.int .i64)) [wG] 0 (fun k d=>qYx k (jt d) (yAq d)) (fun x=>(x.1,(wV x.2 ())))
theorem yT7:zJ prog yOc:=fX (rs:=.c (.int .i64)) (os:=[wG]) (ns:=0) f136 ⟨[],[],[],true⟩ 1 (fun d=>(d.1,(ic d))) (zN (l:=[hZ,So,Sy,F9]) zM ⟨iT,qX5,qT8,KJ,trivial⟩) zK
def yR7:Nat×zH:=yX 137 [.ptr true tN,.agg wE] (.c (.int .i64)) [wG] 0 (fun k d=>Lv k (jt d) (Cq d)) (fun x=>(x.1,(wV x.2 ())))
theorem ySx:zJ prog yR7:=fX (rs:=.c (.int .i64)) (os:=[wG]) (ns:=0) f137 ⟨[],[],[],true⟩ 1 (fun d=>(d.1,(ic d))) (zN (l:=[SI,tP,Sm,hZ,KD,SQ,SU,SW]) zM ⟨qT7,xj,yPe,iT,Sn,yIi,yDm,yDr,trivial⟩) zK
def yCz:Nat×zH:=yX 138 [.ptr true tN,.agg wE] (.c (.int .i64)) [wG] 0 (fun k d=>Lw k (jt d) (Cq d)) (fun x=>(x.1,(wV x.2 ())))
theorem yUd:zJ prog yCz:=fX (rs:=.c (.int .i64)) (os:=[wG]) (ns:=0) f138 ⟨[],[],[],true⟩ 1 (fun d=>(d.1,(ic d))) (zN (l:=[po,SZ,hZ]) zM ⟨rH,yOv,iT,trivial⟩) zK
def yKx:Nat×zH:=yX 139 [.ptr true tN,.c (.p (.int .i64)),.c (.p (.int .i64))] (.c (.int .i64)) [wG] 0 (fun k d=>yF8 k (jt d) d.2.2.2.2.2.2.2.2.2.2.2.2.2.2.2.2.2.2.1 d.2.2.2.2.2.2.2.2.2.2.2.2.2.2.2.2.2.2.2.1) (fun x=>(x.1,(wV x.2 ())))
theorem vDy:zJ prog yKx:=fX (rs:=.c (.int .i64)) (os:=[wG]) (ns:=0) f139 ⟨[],[],[],true⟩ 1 (fun d=>(d.1,(ic d))) (zN (l:=[Ga,hZ,S1,Gd,Cr,po]) zM ⟨KL,iT,yE2,KM,Ge,rH,trivial⟩) zK
def yC9:Nat×zH:=yX 140 [.ptr true tN,.c (.p (.int .i64)),.c (.p (.int .i64)),.c (.p (.int .i64))] (.c (.int .i64)) [wG] 0 (fun k d=>BJ k (jt d) d.2.2.2.2.2.2.2.2.2.2.2.2.2.2.2.2.2.2.1 d.2.2.2.2.2.2.2.2.2.2.2.2.2.2.2.2.2.2.2.1 d.2.2.2.2.2.2.2.2.2.2.2.2.2.2.2.2.2.2.2.2.1) (fun x=>(x.1,(wV x.2 ())))
theorem vDf:zJ prog yC9:=fX (rs:=.c (.int .i64)) (os:=[wG]) (ns:=0) f140 ⟨[],[],[],true⟩ 1 (fun d=>(d.1,(ic d))) (zN (l:=[hZ,Tg,Ti,Tj,po]) zM ⟨iT,yGi,yIy,yOz,rH,trivial⟩) zK
def yO1:zL:=⟨[(0,.c (.lit (.ptr 1001000 0))),(7,.c (.lit (.osl 1001001 none))),(8,.c (.lit (.ptr 1001002 0))),(40,.c (.dat true (.sl (.int .i64)))),(41,.c (.int .i64)),(42,.c (.int .i64))],[.box true U5,.arr true (.int .i64),.box true K7,.arr true yD,.mat,.arr true (.int .i64),.mat],[]⟩
def yRv:zL:=⟨[(0,.c (.lit (.ptr 1001000 0))),(7,.c (.lit (.osl 1001001 none))),(8,.c (.lit (.ptr 1001002 0)))],[.box true U5,.arr true (.int .i64),.box true K7,.arr true yD,.mat,.arr true (.int .i64),.mat],[]⟩
def yGh:zL:=⟨[(0,.c (.lit (.ptr 1001000 0))),(6,.c (.int .i64))],[.box true U5],[]⟩
def yDe (f:U6)(d:yO1.den):Option Lx:=f d.1.2.2.2.1.1 d.1.2.2.2.2.1.1 d.1.2.2.2.2.2.1.1 (jt d.2.1) d.2.2.1 d.2.2.2.2.1 d.2.2.2.2.2.1 d.2.2.2.2.2.2.1 d.2.2.2.2.2.2.2.1
def U7:qI:=⟨[yO1],[(.exit 0,yRv),(.ret,yGh)],Lx,fun k d=>yDe (ru k k) d,fun b x _ K=>match x with|.inl x=>K (.exit 0) (zV b yRv (((),(),(),()),((vF x.1 ()),x.2.1,(),x.2.2.1,x.2.2.2.1,x.2.2.2.2.1,x.2.2.2.2.2,())))|.inr x=>K .ret (zV b yGh (((),(x.1,()),()),((vF x.2 ()),())))⟩
def yXs:qE:=⟨prog,fun _=>false,qS [Ga,hZ,Gd,po,Cr]⟩
def yMl:qB:=⟨[],[(6,U7)],[],true⟩
theorem qWz:qQ yXs:=zN zM ⟨KL,iT,KM,rH,Ge,trivial⟩
theorem vFp:qH prog 1000 1 81 (qD (qG f141) 0) U7:=lp (A:=yMl) U7 (fun d=>match d with|.inl d=>.inl ((jt d.2.1),d.2.2.1,d.2.2.2.2.1,d.2.2.2.2.2.1,d.2.2.2.2.2.2.1,d.2.2.2.2.2.2.2.1)|.inr d=>.inr (d.1.2.1.1,(jt d.2.1))) yDe ru BN qWz zK
def yJe:Nat×zH:=yX 141 [.ptr true tN,.c (.p (.int .i64)),.c (.p (.int .i64))] (.c (.int .i64)) [wG] 0 (fun k d=>Js k (jt d) d.2.2.2.2.2.2.2.2.2.2.2.2.2.2.2.2.2.2.1 d.2.2.2.2.2.2.2.2.2.2.2.2.2.2.2.2.2.2.2.1) (fun x=>(x.1,(wV x.2 ())))
theorem yTr:zJ prog yJe:=fX (rs:=.c (.int .i64)) (os:=[wG]) (ns:=0) f141 yMl 1 (fun d=>(d.1,(ic d))) qWz (qV vFp)
def yKv:Nat×zH:=yX 91 [.ptr true tN,.agg wE] (.c (.int .i64)) [wG] 0 (fun k d=>JD k (jt d) (Cq d)) (fun x=>(x.1,(wV x.2 ())))
theorem vHn:zJ prog yKv:=fX (rs:=.c (.int .i64)) (os:=[wG]) (ns:=0) f91 ⟨[],[],[],true⟩ 1 (fun d=>(d.1,(ic d))) (zN (l:=[yOc,yR7,yCz,yKx,yC9,yJe]) zM ⟨yT7,ySx,yUd,vDy,vDf,yTr,trivial⟩) zK
def Ly:Nat×zH:=zQ 52 [.agg LA,.agg F2,.agg F6] (.tup [(true,pj),(false,[.own qP]),(false,qW)]) (fun k d=>jm k (vO d) (tH d) (yRe d)) (fun x=>(jJ x.1 (x.2.1,x.2.2,())))
theorem U8:zJ prog Ly:=fA (rs:=.tup [(true,pj),(false,[.own qP]),(false,qW)]) f52 ⟨[],[],[],true⟩ (fun d=>((vT d),d.2.2.2.2.2.2.2.2.2.2.2.1,d.2.2.2.2.2.2.2.2.2.2.2.2.1)) (zN (l:=[qS9,yOy,Sm,yFj,yO9,U2,xi,SP,yKv]) zM ⟨yS0,vBc,yPe,vGp,ySf,yL3,Cp,yO0,vHn,trivial⟩) zK
def LB:Nat×zH:=yX 61 [.chn [U9,jq],.c (.p (.dat false (.int .u8)))] (.c (.int .i64)) [Cv,vH] 0 (fun k d=>tG k (LC d) (LD d) d.2.2.2.2.2.2.2.2.2.2.2.2.2.2.2.1) (fun x=>(x.1,(),(wT x.2.1 (fS x.2.2 ()))))
theorem Va:zJ prog LB:=fX (rs:=.c (.int .i64)) (os:=[Cv,vH]) (ns:=0) f61 ⟨[],[],[],true⟩ 0 (fun d=>(d.1,(Vb d),(Vc d))) (zN (l:=[R0]) zM ⟨yPz,trivial⟩) zK
def qPz:Nat×zH:=zQ 169 [.c (.int .i64)] (.c (.bool)) (fun k d=>yNu k d.1) (fun x=>(x,()))
theorem vBz:zJ prog qPz:=fA (rs:=.c (.bool)) f169 ⟨[],[],[],true⟩ (fun d=>d.1) (zN (l:=[hZ]) zM ⟨iT,trivial⟩) zK
def yCe:zL:=⟨[(0,.c (.dat false (.int .i64))),(1,.c (.lit (.fn 169 []))),(7,.c (.int .i64)),(8,.c (.int .i64))],[],[]⟩
def yIz:zL:=⟨[],[],[]⟩
def yNv:zL:=⟨[(4,.c (.int .i64))],[],[]⟩
def yPv (f:Vd)(d:yCe.den):Option (Unit⊕Int):=f d.1.1.1 d.1.2.2.1.1 d.1.2.2.2.1.1
def Ve:qI:=⟨[yCe],[(.exit 0,yIz),(.ret,yNv)],(Unit⊕Int),fun k d=>yPv (LF k k) d,fun b x _ K=>match x with|.inl x=>K (.exit 0) (zV b yIz ((),()))|.inr x=>K .ret (zV b yNv (((x,()),()),()))⟩
def vA2:qE:=⟨prog,fun _=>false,qS [qPz]⟩
def qVb:qB:=⟨[],[(2,Ve)],[],false⟩
theorem yPt:qQ vA2:=zN zM ⟨vBz,trivial⟩
theorem vBh:qH prog 1000 0 19 (qD (qG f220) 0) Ve:=lp (A:=qVb) Ve (fun d=>match d with|.inl d=>.inl ()|.inr d=>.inr d.1.1.1) yPv LF yPd yPt zK
def yFv:Nat×zH:=zQ 220 [.c (.dat false (.int .i64)),.c (.fn 169)] (.c (.int .i64)) (fun k d=>qXu k d.1) (fun x=>(x,()))
theorem vD8:zJ prog yFv:=fA (rs:=.c (.int .i64)) f220 qVb (fun d=>d.1) yPt (qV vBh)
def qIx:Nat×zH:=zQ 168 [.c (.dat false (.int .i64)),.c (.fn 169)] (.c (.bool)) (fun k d=>qZk k d.1) (fun x=>(x,()))
theorem vFj:zJ prog qIx:=fA (rs:=.c (.bool)) f168 ⟨[],[],[],false⟩ (fun d=>d.1) (zN (l:=[yFv]) zM ⟨vD8,trivial⟩) zK
def qEc:Nat×zH:=zQ 171 [.c (.int .i64)] (.c (.bool)) (fun k d=>yF0 k d.1) (fun x=>(x,()))
theorem vFn:zJ prog qEc:=fA (rs:=.c (.bool)) f171 ⟨[],[],[],true⟩ (fun d=>d.1) (zN (l:=[]) zM trivial) zK
def yGj:zL:=⟨[(0,.c (.dat false (.int .i64))),(1,.c (.lit (.fn 171 []))),(7,.c (.int .i64)),(8,.c (.int .i64))],[],[]⟩
def yHf:zL:=⟨[],[],[]⟩
def qZq:zL:=⟨[(4,.c (.int .i64))],[],[]⟩
def yPw (f:Vf)(d:yGj.den):Option (Unit⊕Int):=f d.1.1.1 d.1.2.2.1.1 d.1.2.2.2.1.1
def Vg:qI:=⟨[yGj],[(.exit 0,yHf),(.ret,qZq)],(Unit⊕Int),fun k d=>yPw (LG k k) d,fun b x _ K=>match x with|.inl x=>K (.exit 0) (zV b yHf ((),()))|.inr x=>K .ret (zV b qZq (((x,()),()),()))⟩
def vIt:qE:=⟨prog,fun _=>false,qS [qEc]⟩
def yOh:qB:=⟨[],[(2,Vg)],[],false⟩
theorem qTm:qQ vIt:=zN zM ⟨vFn,trivial⟩
theorem yVo:qH prog 1000 0 19 (qD (qG f220) 0) Vg:=lp (A:=yOh) Vg (fun d=>match d with|.inl d=>.inl ()|.inr d=>.inr d.1.1.1) yPw LG qTi qTm zK
def yN2:Nat×zH:=zQ 220 [.c (.dat false (.int .i64)),.c (.fn 171)] (.c (.int .i64)) (fun k d=>yHo k d.1) (fun x=>(x,()))
theorem vHk:zJ prog yN2:=fA (rs:=.c (.int .i64)) f220 yOh (fun d=>d.1) qTm (qV yVo)
def qLp:Nat×zH:=zQ 168 [.c (.dat false (.int .i64)),.c (.fn 171)] (.c (.bool)) (fun k d=>qTy k d.1) (fun x=>(x,()))
theorem vAz:zJ prog qLp:=fA (rs:=.c (.bool)) f168 ⟨[],[],[],false⟩ (fun d=>d.1) (zN (l:=[yN2]) zM ⟨vHk,trivial⟩) zK
def yIh:zL:=⟨[(2,.c (.lit (.ptr 1001000 0))),(3,.c (.lit (.ptr 1001001 0))),(28,.c (.dat false (.sl (.int .i64)))),(29,.c (.int .i64)),(30,.c (.int .i64))],[.box true tL,.box true LH],[]⟩
def qXe:zL:=⟨[],[],[]⟩
def yCn:zL:=⟨[(4,.c (.bool))],[],[]⟩
def yAp (f:Vh)(d:yIh.den):Option (Unit⊕Bool):=f d.1.2.2.1.1 d.1.2.2.2.1.1 d.1.2.2.2.2.1.1 (vO d.2.1) (vT d.2.2.1)
def Vi:qI:=⟨[yIh],[(.exit 0,qXe),(.ret,yCn)],(Unit⊕Bool),fun k d=>yAp (Vj k k) d,fun b x _ K=>match x with|.inl x=>K (.exit 0) (zV b qXe ((),()))|.inr x=>K .ret (zV b yCn (((x,()),()),()))⟩
def vCb:qE:=⟨prog,fun _=>false,qS [qIx,Cr,qLp]⟩
def yDy:qB:=⟨[],[(6,Vi)],[],true⟩
theorem qX3:qQ vCb:=zN zM ⟨vFj,Ge,vAz,trivial⟩
theorem vJ5:qH prog 1000 0 66 (qD (qG f109) 0) Vi:=lp (A:=yDy) Vi (fun d=>match d with|.inl d=>.inl ()|.inr d=>.inr d.1.1.1) yAp Vj yIl qX3 zK
def qE4:Nat×zH:=zQ 109 [.agg mD,.agg tM] (.c (.bool)) (fun k d=>qWo k (vO d) (tH d)) (fun x=>(x,()))
theorem vMn:zJ prog qE4:=fA (rs:=.c (.bool)) f109 yDy (fun d=>d.1) qX3 (qV vJ5)
def yDi:zL:=⟨[(0,.c (.dat false zO)),(1,.c (.lit (.fn 224 []))),(5,.c (.int .i64))],[],[]⟩
def yEz:zL:=⟨[],[],[]⟩
def yJ0:zL:=⟨[(4,.c (.bool))],[],[]⟩
def yJ9 (f:Vk)(d:yDi.den):Option (Unit⊕Bool):=f d.1.1.1 d.1.2.2.1.1
def Vl:qI:=⟨[yDi],[(.exit 0,yEz),(.ret,yJ0)],(Unit⊕Bool),fun k d=>yJ9 (Vm k k) d,fun b x _ K=>match x with|.inl x=>K (.exit 0) (zV b yEz ((),()))|.inr x=>K .ret (zV b yJ0 (((x,()),()),()))⟩
def yY4:qE:=⟨prog,fun _=>false,qS [KG]⟩
def yH3:qB:=⟨[],[(2,Vl)],[],true⟩
theorem yRq:qQ yY4:=zN zM ⟨SD,trivial⟩
theorem vCt:qH prog 1000 0 25 (qD (qG f223) 0) Vl:=lp (A:=yH3) Vl (fun d=>match d with|.inl d=>.inl ()|.inr d=>.inr d.1.1.1) yJ9 Vm qU8 yRq zK
def qMo:Nat×zH:=zQ 223 [.c (.dat false zO),.c (.fn 224)] (.c (.bool)) (fun k d=>qUb k d.1) (fun x=>(x,()))
theorem vKx:zJ prog qMo:=fA (rs:=.c (.bool)) f223 yH3 (fun d=>d.1) yRq (qV vCt)
def qUm:zL:=⟨[(0,.c (.dat false zO)),(5,.c (.dat false zO)),(6,.c (.int .i64)),(7,.c (.int .i64))],[],[]⟩
def yCj:zL:=⟨[(0,.c (.dat false zO))],[],[]⟩
def yEt:zL:=⟨[(2,.c (.bool))],[],[]⟩
def qYp (f:Vn)(d:qUm.den):Option LI:=f d.1.1.1 d.1.2.1.1 d.1.2.2.1.1 d.1.2.2.2.1.1
def Vo:qI:=⟨[qUm],[(.exit 0,yCj),(.ret,yEt)],LI,fun k d=>qYp (LJ k k) d,fun b x _ K=>match x with|.inl x=>K (.exit 0) (zV b yCj (((x,()),()),()))|.inr x=>K .ret (zV b yEt (((x,()),()),()))⟩
def yXj:qE:=⟨prog,fun _=>false,qS [xi,qMo]⟩
def yJ6:qB:=⟨[],[(2,Vo)],[],false⟩
theorem yBq:qQ yXj:=zN zM ⟨Cp,vKx,trivial⟩
theorem vDu:qH prog 1000 0 26 (qD (qG f175) 0) Vo:=lp (A:=yJ6) Vo (fun d=>match d with|.inl d=>.inl d.1.1.1|.inr d=>.inr d.1.1.1) qYp LJ yAa yBq zK
def qZ2:Nat×zH:=zQ 175 [.c (.dat false zO)] (.c (.bool)) (fun k d=>yO3 k d.1) (fun x=>(x,()))
theorem vJs:zJ prog qZ2:=fA (rs:=.c (.bool)) f175 yJ6 (fun d=>d.1) yBq (qV vDu)
def ySa:zL:=⟨[(0,.c (.dat false (.int .i64))),(3,.c (.int .i64)),(6,.c (.dat false (.int .i64))),(7,.c (.int .i64)),(8,.c (.int .i64))],[],[]⟩
def yGw:zL:=⟨[(0,.c (.dat false (.int .i64)))],[],[]⟩
def yF9:zL:=⟨[(2,.c (.bool))],[],[]⟩
def yDc (f:Vp)(d:ySa.den):Option ((List Int)⊕Bool):=f d.1.1.1 d.1.2.1.1 d.1.2.2.1.1 d.1.2.2.2.1.1 d.1.2.2.2.2.1.1
def Vq:qI:=⟨[ySa],[(.exit 0,yGw),(.ret,yF9)],((List Int)⊕Bool),fun k d=>yDc (Vr k k) d,fun b x _ K=>match x with|.inl x=>K (.exit 0) (zV b yGw (((x,()),()),()))|.inr x=>K .ret (zV b yF9 (((x,()),()),()))⟩
def ySd:qE:=⟨prog,fun _=>false,qS []⟩
def qWj:qB:=⟨[],[(3,Vq)],[],true⟩
theorem yRr:qQ ySd:=zN zM trivial
theorem vHr:qH prog 1000 0 20 (qD (qG f176) 0) Vq:=lp (A:=qWj) Vq (fun d=>match d with|.inl d=>.inl d.1.1.1|.inr d=>.inr d.1.1.1) yDc Vr qVm yRr zK
def qUx:Nat×zH:=zQ 176 [.c (.dat false (.int .i64))] (.c (.bool)) (fun k d=>qUh k d.1) (fun x=>(x,()))
theorem yS5:zJ prog qUx:=fA (rs:=.c (.bool)) f176 qWj (fun d=>d.1) yRr (qV vHr)
def yDj:Nat×zH:=zQ 174 [.c (.dat false (.int .i64)),.c (.int .i64)] (.c (.bool)) (fun k d=>yC2 k d.1 d.2.1) (fun x=>(x,()))
theorem vJy:zJ prog yDj:=fA (rs:=.c (.bool)) f174 ⟨[],[],[],true⟩ (fun d=>d.1) (zN (l:=[Sr]) zM ⟨yPk,trivial⟩) zK
def qHz:Nat×zH:=zQ 172 [.agg wE,.ptr tM] (.c (.bool)) (fun k d=>yL0 k (jX d) (yTx d)) (fun x=>(x,()))
theorem vE7:zJ prog qHz:=fA (rs:=.c (.bool)) f172 ⟨[],[],[],true⟩ (fun d=>d.1) (zN (l:=[K1,hZ,yDj]) zM ⟨TH,iT,vJy,trivial⟩) zK
def yO6:zL:=⟨[(0,.c (.dat false zO)),(1,.c (.lit (.fn 172 [1001000]))),(7,.c (.int .i64)),(8,.c (.int .i64))],[.robox LH],[]⟩
def yDd:zL:=⟨[],[],[]⟩
def yMr:zL:=⟨[(4,.c (.int .i64))],[],[]⟩
def qYm (f:Vs)(d:yO6.den):Option (Unit⊕Int):=(rI (f d.1.1.1 d.1.2.2.1.1 d.1.2.2.2.1.1) d.2.1)
def Vt:qI:=⟨[yO6],[(.exit 0,yDd),(.ret,yMr)],(Unit⊕Int),fun k d=>qYm (LK k k) d,fun b x _ K=>match x with|.inl x=>K (.exit 0) (zV b yDd ((),()))|.inr x=>K .ret (zV b yMr (((x,()),()),()))⟩
def yYa:qE:=⟨prog,fun _=>false,qS [qHz]⟩
def qUq:qB:=⟨[],[(2,Vt)],[],false⟩
theorem yP8:qQ yYa:=zN zM ⟨vE7,trivial⟩
theorem vMa:qH prog 1000 0 19 (qD (qG f148) 0) Vt:=lp (A:=qUq) Vt (fun d=>match d with|.inl d=>.inl ()|.inr d=>.inr d.1.1.1) qYm LK yR0 yP8 zK
def yJo:Nat×zH:=zQ 148 [.c (.dat false zO),.fn 172 [tM]] (.c (.int .i64)) (fun k d=>(Lt (qT2 k) d)) (fun x=>(x,()))
theorem yTe:zJ prog yJo:=fA (rs:=.c (.int .i64)) f148 qUq (fun d=>d.1) yP8 (qV vMa)
def yHx:Nat×zH:=zQ 177 [.c (.dat false zO),.fn 172 [tM]] (.c (.bool)) (fun k d=>(Lt (qWk k) d)) (fun x=>(x,()))
theorem vJf:zJ prog yHx:=fA (rs:=.c (.bool)) f177 ⟨[],[],[],false⟩ (fun d=>d.1) (zN (l:=[yJo]) zM ⟨yTe,trivial⟩) zK
def qG7:Nat×zH:=zQ 110 [.agg tM] (.c (.bool)) (fun k d=>yM0 k (vT d)) (fun x=>(x,()))
theorem yX6:zJ prog qG7:=fA (rs:=.c (.bool)) f110 ⟨[],[],[],true⟩ (fun d=>d.1) (zN (l:=[qZ2,qUx,yHx]) zM ⟨vJs,yS5,vJf,trivial⟩) zK
def yE7:zL:=⟨[(2,.c (.lit (.ptr 1001000 0))),(3,.c (.lit (.ptr 1001001 0))),(5,.c (.lit (.osl 1001002 none))),(44,.c (.dat false yD)),(45,.c (.int .i64)),(46,.c (.int .i64))],[.box true tL,.box true LH,.arr true (.int .i64)],[(5,none,(.int .i64),false)]⟩
def qWq:zL:=⟨[(2,.c (.lit (.ptr 1001000 0))),(3,.c (.lit (.ptr 1001001 0))),(5,.c (.lit (.osl 1001002 none)))],[.box true tL,.box true LH,.arr true (.int .i64)],[]⟩
def yGt (f:Vu)(d:yE7.den):Option LL:=f d.1.2.2.2.1.1 d.1.2.2.2.2.1.1 d.1.2.2.2.2.2.1.1 (vO d.2.1) (vT d.2.2.1) d.2.2.2.1
def Vv:qI:=⟨[yE7],[(.exit 0,qWq)],LL,fun k d=>yGt (Vw k k) d,fun b x _ K=>K (.exit 0) (zV b qWq (((),(),(),()),((ft x.1 ()),(jJ x.2.1 ()),x.2.2,())))⟩
def vGt:qE:=⟨prog,fun _=>false,qS [hZ,Uk,qE4,qG7,Tb,Tq]⟩
def qVc:qB:=⟨[],[(5,Vv)],[],true⟩
theorem qVd:qQ vGt:=zN zM ⟨iT,yCx,vMn,yX6,qXj,qZm,trivial⟩
theorem vFf:qH prog 1000 0 92 (qD (qG f59) 0) Vv:=lp (A:=qVc) Vv (fun d=>((vO d.2.1),(vT d.2.2.1),d.2.2.2.1)) yGt Vw qY9 qVd zK
def Vx:Nat×zH:=zQ 59 [.agg mD,.agg tM] (.c (.bool)) (fun k d=>LM k (vO d) (tH d)) (fun x=>(x,()))
theorem yId:zJ prog Vx:=fA (rs:=.c (.bool)) f59 qVc (fun d=>d.1) qVd (qV vFf)
def yHc:zL:=⟨[(1,.c (.lit (.ptr 1001000 0))),(2,.c (.int .i64)),(3,.c (.lit (.ptr 1001003 0))),(12,.c (.bool)),(13,.c (.lit (.ptr 1001004 0))),(17,.c (.lit (.ptr 1001005 0))),(72,.c (.dat true (.sl (.int .u8)))),(73,.c (.int .i64)),(74,.c (.int .i64))],[.box true yB9,.arr true (.int .u8),.arr true (.int .u8),.box true Cw,.box true [.lit (.ptr 1001000 0),.int .i64,.int .i64,.int .i64,.bool],.box true lh],[(17,some 1,.bool,true),(17,some 2,.bool,true),(17,some 3,.bool,true),(17,some 4,.bool,true),(17,some 5,.bool,true),(17,some 6,.bool,true),(17,some 7,.bool,true),(17,some 8,.bool,true)]⟩
def yRi:zL:=⟨[(1,.c (.lit (.ptr 1001000 0))),(2,.c (.int .i64)),(3,.c (.lit (.ptr 1001003 0))),(12,.c (.bool)),(13,.c (.lit (.ptr 1001004 0))),(17,.c (.lit (.ptr 1001005 0)))],[.box true yB9,.arr true (.int .u8),.arr true (.int .u8),.box true Cw,.box true [.lit (.ptr 1001000 0),.int .i64,.int .i64,.int .i64,.bool],.box true lh],[]⟩
def qS6 (f:Vy)(d:yHc.den):Option LN:=f d.1.2.1.1 d.1.2.2.2.1.1 d.1.2.2.2.2.2.2.1.1 d.1.2.2.2.2.2.2.2.1.1 d.1.2.2.2.2.2.2.2.2.1.1 (lZ d.2.1) d.2.2.1 d.2.2.2.1 (vO d.2.2.2.2.1) (vM d.2.2.2.2.2.1) (vT d.2.2.2.2.2.2.1)
def Vz:qI:=⟨[yHc],[(.exit 0,yRi)],LN,fun k d=>qS6 (Gf k k) d,fun b x _ K=>K (.exit 0) (zV b yRi (((),(x.1,()),(),(x.2.1,()),(),(),()),((Co x.2.2.1 ()),x.2.2.2.1,x.2.2.2.2.1,(ft x.2.2.2.2.2.1 ()),(wT x.2.2.2.2.2.2.1 ()),(jJ x.2.2.2.2.2.2.2 ()),())))⟩
def vJg:qE:=⟨prog,fun _=>false,qS [Re,Rr,RH,Ck,qHs,Sb,Sd,Ly,LB,Vx]⟩
def yEw:qB:=⟨[],[(11,Vz)],[],true⟩
theorem qYj:qQ vJg:=zN zM ⟨F7q,yQz,yBc,F3,vKu,yE8,yGs,U8,Va,yId,trivial⟩
theorem vI9:qH prog 1000 2 112 (qD (qG f27) 0) Vz:=lp (A:=yEw) Vz (fun d=>(d.1.2.1.1,d.1.2.2.2.1.1,(lZ d.2.1),d.2.2.1,d.2.2.2.1,(vO d.2.2.2.2.1),(vM d.2.2.2.2.2.1),(vT d.2.2.2.2.2.2.1))) qS6 Gf yQk qYj zK
def qIa:Nat×zH:=HN 27 [.agg LA,.ptr true jq,.c (.p (.int .i64))] (.tup [(false,[.link 1]),(false,qW)]) [vH,yKk,Kq] 2 (.tup [(false,[.nilp]),(false,qW)]) [vH] 0 (fun k d=>o9 k (vO d) (LD d) d.2.2.2.2.2.2.2.2.2.2.2.2.2.2.2.1) (fun x=>((),x.1,(fS x.2.1 ((),(wV x.2.2.1 ((),(wT x.2.2.2 ()))))))) (fun x=>((),x.1,(fS x.2 ())))
theorem vB2:zJ prog qIa:=fN (rs:=.tup [(false,[.link 1]),(false,qW)]) (os:=[vH,yKk,Kq]) (ns:=2) (rs2:=.tup [(false,[.nilp]),(false,qW)]) (os2:=[vH]) (ns2:=0) f27 yEw 2 (fun d=>(d.2.1,(yGv d),(vB4 d),(yVf d))) (fun d=>(d.2.1,(yGv d))) qYj (qV vI9)
def VA:Nat×zH:=yX 31 [.chn [LO,LP,jq]] (.c (.bool)) [tV,tW,vH] 0 (fun k d=>xa k (ic d) (LQ d) (LR d)) (fun x=>(x.1,(),(wV x.2.1 ((),(wT x.2.2.1 (fS x.2.2.2 ()))))))
theorem qSn:zJ prog VA:=fX (rs:=.c (.bool)) (os:=[tV,tW,vH]) (ns:=0) f31 ⟨[],[],[],true⟩ 0 (fun d=>(d.1,(VB d),(VC d),(VD d))) (zN (l:=[]) zM trivial) zK
def VE:Nat×zH:=zQ 62 [.c (.int .i64),.c (.int .i64)] (.c (.own qP)) (fun k d=>Gg k d.1 d.2.1) (fun x=>(x,()))
theorem yH4:zJ prog VE:=fA (rs:=.c (.own qP)) f62 ⟨[],[],[],true⟩ (fun d=>d.1) (zN (l:=[]) zM trivial) zK
def qU4:Nat×zH:=zQ 114 [.agg wE] (.c (.own (.int .u8))) (fun k d=>QT k (jX d)) (fun x=>(x,()))
theorem vI4:zJ prog qU4:=fA (rs:=.c (.own (.int .u8))) f114 ⟨[1],[],[],true⟩ (fun d=>d.1) (zN (l:=[Sh,KA,F1]) zM ⟨yNk,Sc,Ki,trivial⟩) zK
def yHv:Nat×zH:=zQ 64 [.agg F6] (.c (.own (.int .u8))) (fun k d=>JS k (lZ d)) (fun x=>(x,()))
theorem yVi:zJ prog yHv:=fA (rs:=.c (.own (.int .u8))) f64 ⟨[],[],[],true⟩ (fun d=>d.1) (zN (l:=[qU4,F1]) zM ⟨vI4,Ki,trivial⟩) zK
def yAu:Nat×zH:=yX 113 [.chn [U9,jq],.c (.p (.dat false (.int .u8)))] (.c (.int .i64)) [Cv,vH] 0 (fun k d=>w9 k (LC d) (LD d) d.2.2.2.2.2.2.2.2.2.2.2.2.2.2.2.1) (fun x=>(x.1,(),(wT x.2.1 (fS x.2.2 ()))))
theorem yVk:zJ prog yAu:=fX (rs:=.c (.int .i64)) (os:=[Cv,vH]) (ns:=0) f113 ⟨[],[],[],true⟩ 0 (fun d=>(d.1,(Vb d),(Vc d))) (zN (l:=[RW,RY,RZ]) zM ⟨qXq,yLc,qUj,trivial⟩) zK
def yNq:Nat×zH:=yX 63 [.chn [LO,LP,jq],.c (.p (.dat false (.int .u8)))] (.c (.int .i64)) [tV,tW,vH] 0 (fun k d=>JT k (ic d) (LQ d) (LR d) d.2.2.2.2.2.2.2.2.2.2.2.2.2.2.2.2.2.2.2.2.2.2.2.2.2.2.2.2.2.2.2.2.2.2.1) (fun x=>(x.1,(),(wV x.2.1 ((),(wT x.2.2.1 (fS x.2.2.2 ()))))))
theorem vKk:zJ prog yNq:=fX (rs:=.c (.int .i64)) (os:=[tV,tW,vH]) (ns:=0) f63 ⟨[],[],[],true⟩ 0 (fun d=>(d.1,(VB d),(VC d),(VD d))) (zN (l:=[yAu,Ck,LB]) zM ⟨yVk,F3,Va,trivial⟩) zK
def yOg:Nat×zH:=yX 65 [.chn [U9,jq]] (.c (.int .i64)) [Cv,vH] 0 (fun k d=>JU k (LC d) (LD d)) (fun x=>(x.1,(),(wT x.2.1 (fS x.2.2 ()))))
theorem vGe:zJ prog yOg:=fX (rs:=.c (.int .i64)) (os:=[Cv,vH]) (ns:=0) f65 ⟨[],[],[],true⟩ 0 (fun d=>(d.1,(Vb d),(Vc d))) (zN (l:=[]) zM trivial) zK
def qFq:Nat×zH:=yX 28 [.chn [LO,LP,jq],.c (.p (.int .i64)),.c (.p (.dat false (.int .u8)))] (.c (.own qP)) [tV,tW,vH] 0 (fun k d=>FP k (ic d) (LQ d) (LR d) d.2.2.2.2.2.2.2.2.2.2.2.2.2.2.2.2.2.2.2.2.2.2.2.2.2.2.2.2.2.2.2.2.2.2.1 d.2.2.2.2.2.2.2.2.2.2.2.2.2.2.2.2.2.2.2.2.2.2.2.2.2.2.2.2.2.2.2.2.2.2.2.1) (fun x=>(x.1,(),(wV x.2.1 ((),(wT x.2.2.1 (fS x.2.2.2 ()))))))
theorem yVw:zJ prog qFq:=fX (rs:=.c (.own qP)) (os:=[tV,tW,vH]) (ns:=0) f28 ⟨[],[],[],true⟩ 0 (fun d=>(d.1,(VB d),(VC d),(VD d))) (zN (l:=[VA,F5,VE,Ly,yHv,yNq,yOg,Ck,LB]) zM ⟨qSn,KB,yH4,U8,yVi,vKk,vGe,F3,Va,trivial⟩) zK
def qJy:Nat×zH:=zQ 69 [.agg F6] (.c (.bool)) (fun k d=>JV k (lZ d)) (fun x=>(x,()))
theorem vE8:zJ prog qJy:=fA (rs:=.c (.bool)) f69 ⟨[],[],[],true⟩ (fun d=>d.1) (zN (l:=[]) zM trivial) zK
def yD4:zL:=⟨[(0,.c (.dat false qP)),(1,.c (.lit (.fn 69 []))),(7,.c (.int .i64)),(8,.c (.int .i64))],[],[]⟩
def yIx:zL:=⟨[],[],[]⟩
def yKd:zL:=⟨[(4,.c (.int .i64))],[],[]⟩
def qXf (f:VF)(d:yD4.den):Option (Unit⊕Int):=f d.1.1.1 d.1.2.2.1.1 d.1.2.2.2.1.1
def VG:qI:=⟨[yD4],[(.exit 0,yIx),(.ret,yKd)],(Unit⊕Int),fun k d=>qXf (FQ k k) d,fun b x _ K=>match x with|.inl x=>K (.exit 0) (zV b yIx ((),()))|.inr x=>K .ret (zV b yKd (((x,()),()),()))⟩
def yUw:qE:=⟨prog,fun _=>false,qS [qJy]⟩
def yGy:qB:=⟨[],[(2,VG)],[],true⟩
theorem yBl:qQ yUw:=zN zM ⟨vE8,trivial⟩
theorem vAn:qH prog 1000 0 19 (qD (qG f116) 0) VG:=lp (A:=yGy) VG (fun d=>match d with|.inl d=>.inl ()|.inr d=>.inr d.1.1.1) qXf FQ tI yBl zK
def yK4:Nat×zH:=zQ 116 [.c (.dat false qP),.c (.fn 69)] (.c (.int .i64)) (fun k d=>QX k d.1) (fun x=>(x,()))
theorem vCy:zJ prog yK4:=fA (rs:=.c (.int .i64)) f116 yGy (fun d=>d.1) yBl (qV vAn)
def qTo:Nat×zH:=zQ 68 [.c (.dat false qP),.c (.fn 69)] (.c (.bool)) (fun k d=>QW k d.1) (fun x=>(x,()))
theorem yUq:zJ prog qTo:=fA (rs:=.c (.bool)) f68 ⟨[],[],[],true⟩ (fun d=>d.1) (zN (l:=[yK4]) zM ⟨vCy,trivial⟩) zK
def qEh:Nat×zH:=zQ 30 [.c (.dat false qP)] (.c (.bool)) (fun k d=>B7 k d.1) (fun x=>(x,()))
theorem yX7:zJ prog qEh:=fA (rs:=.c (.bool)) f30 ⟨[],[],[],true⟩ (fun d=>d.1) (zN (l:=[qTo]) zM ⟨yUq,trivial⟩) zK
def qFv:Nat×zH:=yX 32 [.ptr true jq,.agg [.int .i64,.int .i64]] (.tup []) [vH] 0 (fun k d=>VH k (jF d) (d.2.2.2.2.2.2.2.2.2.2.1,d.2.2.2.2.2.2.2.2.2.2.2.1)) (fun x=>(fS x ()))
theorem vFb:zJ prog qFv:=fX (rs:=.tup []) (os:=[vH]) (ns:=0) f32 ⟨[],[],[],true⟩ 1 (fun d=>(jF d)) (zN (l:=[]) zM trivial) zK
def qGm:Nat×zH:=yX 33 [.ptr true jq] (.tup []) [vH] 0 (fun k d=>VI k (jF d)) (fun x=>(fS x ()))
theorem vE6:zJ prog qGm:=fX (rs:=.tup []) (os:=[vH]) (ns:=0) f33 ⟨[],[],[(2,3)],true⟩ 1 (fun d=>(jF d)) (zN (l:=[]) zM trivial) (yo (n:=1) (by kernel_rfl) fun i hi=>match i,hi with|0,_=>.inr ⟨by kernel_rfl,zK⟩|i+1,hi=>absurd hi (by omega))
def VJ:Nat×zH:=zQ 31 [.c (.nilp)] (.c (.bool)) (fun k d=>Gh k) (fun x=>(x,()))
theorem yQ8:zJ prog VJ:=fA (rs:=.c (.bool)) f31 ⟨[],[],[],true⟩ (fun d=>d.1) (zN (l:=[]) zM trivial) zK
def qM7:Nat×zH:=zQ 28 [.c (.nilp),.c (.int .i64),.c (.dat false (.int .u8))] (.c (.own qP)) (fun k d=>yKw k d.2.1 d.2.2.1) (fun x=>(x,()))
theorem yTl:zJ prog qM7:=fA (rs:=.c (.own qP)) f28 ⟨[],[],[],true⟩ (fun d=>d.1) (zN (l:=[VJ,F5,VE]) zM ⟨yQ8,KB,yH4,trivial⟩) zK
def qPs:Nat×zH:=zQ 34 [.c (.nilp)] (.agg Kg) (fun k d=>VK k) (fun x=>(jJ x ()))
theorem yV8:zJ prog qPs:=fA (rs:=.agg Kg) f34 ⟨[],[],[],true⟩ (fun d=>(vT d)) (zN (l:=[]) zM trivial) zK
def qO9:Nat×zH:=yX 34 [.chn [LO,LP,jq]] (.agg pj) [tV,tW,vH] 0 (fun k d=>VL k (ic d) (LQ d) (LR d)) (fun x=>(jJ x.1 ((),(wV x.2.1 ((),(wT x.2.2.1 (fS x.2.2.2 ())))))))
theorem yXu:zJ prog qO9:=fX (rs:=.agg pj) (os:=[tV,tW,vH]) (ns:=0) f34 ⟨[],[],[],true⟩ 0 (fun d=>((vT d),(vFg d),(yUk d),(vCh d))) (zN (l:=[]) zM trivial) zK
def yKo:Nat×zH:=zQ 152 [.c (.nilp),.c (.int .i64)] (.c (.own (.int .u8))) (fun k d=>yGu k d.2.1) (fun x=>(x,()))
theorem vF1:zJ prog yKo:=fA (rs:=.c (.own (.int .u8))) f152 ⟨[],[],[],true⟩ (fun d=>d.1) (zN (l:=[]) zM trivial) zK
def yG5:Nat×zH:=zQ 99 [.c (.nilp),.c (.int .i64)] (.tup [(false,qW),(false,mE),(false,ph)]) (fun k d=>LS k d.2.1) (fun x=>(x.1,x.2.1,x.2.2,()))
theorem vK9:zJ prog yG5:=fA (rs:=.tup [(false,qW),(false,mE),(false,ph)]) f99 ⟨[],[],[],true⟩ (fun d=>(d.1,d.2.1,d.2.2.1)) (zN (l:=[yKo,Rk,Ch]) zM ⟨vF1,yKm,F0,trivial⟩) zK
def qKa:Nat×zH:=zQ 55 [.c (.nilp)] (.tup [(false,qW),(false,qW),(false,mE),(false,ph),(false,[.bool])]) (fun k d=>yOj k) (fun x=>(ft x ()))
theorem vEp:zJ prog qKa:=fA (rs:=.tup [(false,qW),(false,qW),(false,mE),(false,ph),(false,[.bool])]) f55 ⟨[],[],[(2,3)],true⟩ (fun d=>(d.1,d.2.1,d.2.2.1,d.2.2.2.1,d.2.2.2.2.1)) (zN (l:=[yG5]) zM ⟨vK9,trivial⟩) (yo (n:=1) (by kernel_rfl) fun i hi=>match i,hi with|0,_=>.inr ⟨by kernel_rfl,zK⟩|i+1,hi=>absurd hi (by omega))
def qJ2:Nat×zH:=yX 56 [.c (.p (.nilp)),.c (.p (.dat false (.int .u8)))] (.tup [(false,[.nilp]),(false,[.own (.int .u8)]),(false,[.own (.sl (.int .u8))]),(false,qW)]) [] 0 (fun k d=>yCa k d.2.1) (fun x=>((),x.1,x.2.1,x.2.2,()))
theorem yTv:zJ prog qJ2:=fX (rs:=.tup [(false,[.nilp]),(false,[.own (.int .u8)]),(false,[.own (.sl (.int .u8))]),(false,qW)]) (os:=[]) (ns:=0) f56 ⟨[],[],[],true⟩ 0 (fun d=>(d.2.1,d.2.2.1,d.2.2.2.1)) (zN (l:=[]) zM trivial) zK
def qQw:Nat×zH:=zQ 61 [.c (.nilp),.c (.dat false (.int .u8))] (.c (.int .i64)) (fun k d=>LU k d.2.1) (fun x=>(x,()))
theorem vIn:zJ prog qQw:=fA (rs:=.c (.int .i64)) f61 ⟨[],[],[],true⟩ (fun d=>d.1) (zN (l:=[]) zM trivial) zK
def yDp:zL:=⟨[(2,.c (.int .i64)),(3,.c (.lit (.ptr 1001000 0))),(12,.c (.bool)),(13,.c (.lit .nilp)),(17,.c (.lit (.ptr 1001001 0))),(72,.c (.lit (.osl 1001002 none))),(73,.c (.int .i64)),(74,.c (.int .i64))],[.box true Cw,.box true lh,.arr true (.sl (.int .u8))],[(17,some 1,.bool,true),(17,some 2,.bool,true),(17,some 3,.bool,true),(17,some 4,.bool,true),(17,some 5,.bool,true),(17,some 6,.bool,true),(17,some 7,.bool,true),(17,some 8,.bool,true)]⟩
def yJ2:zL:=⟨[(2,.c (.int .i64)),(3,.c (.lit (.ptr 1001000 0))),(12,.c (.bool)),(13,.c (.lit .nilp)),(17,.c (.lit (.ptr 1001001 0)))],[.box true Cw,.box true lh],[]⟩
def qS0 (f:VM)(d:yDp.den):Option LV:=f d.1.1.1 d.1.2.2.1.1 d.1.2.2.2.2.2.2.1.1 d.1.2.2.2.2.2.2.2.1.1 (vO d.2.1) (vT d.2.2.1) d.2.2.2.1
def VN:qI:=⟨[yDp],[(.exit 0,yJ2)],LV,fun k d=>qS0 (Gj k k) d,fun b x _ K=>K (.exit 0) (zV b yJ2 (((x.1,()),(),(x.2.1,()),(),(),()),((ft x.2.2.1 ()),(jJ x.2.2.2 ()),())))⟩
def ySt:qE:=⟨prog,fun _=>false,qS [Re,qKa,RH,Ck,qJ2,Sb,Sd,Ly,qQw,Vx]⟩
def yA1:qB:=⟨[],[(11,VN)],[],true⟩
theorem yLz:qQ ySt:=zN zM ⟨F7q,vEp,yBc,F3,yTv,yE8,yGs,U8,vIn,yId,trivial⟩
theorem yTj:qH prog 1000 0 112 (qD (qG f27) 0) VN:=lp (A:=yA1) VN (fun d=>(d.1.1.1,d.1.2.2.1.1,(vO d.2.1),(vT d.2.2.1))) qS0 Gj yOa yLz zK
def qG5:Nat×zH:=yX 27 [.agg LA,.c (.p (.nilp)),.c (.p (.int .i64))] (.tup [(false,[.nilp]),(false,qW)]) [] 0 (fun k d=>qZr k (vO d) d.2.2.2.2.2.2.1) (fun x=>((),x,()))
theorem yZu:zJ prog qG5:=fX (rs:=.tup [(false,[.nilp]),(false,qW)]) (os:=[]) (ns:=0) f27 yA1 0 (fun d=>d.2.1) yLz (qV yTj)
def qWe:zL:=⟨[(2,.c (.int .i64)),(4,.c (.lit (.ptr 1001000 0))),(8,.c (.lit (.ptr 1001001 0))),(9,.c (.lit (.ptr 1001002 0))),(10,.c (.lit (.ptr 1001005 0))),(12,.c (.lit (.ptr 1001007 0))),(30,.c (.dat false tX)),(31,.c (.int .i64)),(32,.c (.int .i64))],[.box true Cw,.box true LW,.box true qXr,.arr true (.int .u8),.arr true (.int .u8),.box true [.lit (.ptr 1001006 0),.int .i64,.dat true vQ,.int .i64,.int .i64,.int .i64,.int .i64,.dat true yD,.dat true (.sl (.int .i64)),.dat true (.int .i64),.dat true (.sl (.int .i64)),.dat true (.int .i64),.dat true (.sl (.int .i64)),.dat true zO,.dat true (.int .i64),.int .i64,.bool,.int .i64,.bool],.box true [.lit (.ptr 1001002 0),.int .i64,.int .i64,.int .i64,.bool],.box true [.lit (.osl 1001008 none),.lit (.osl 1001009 none),.int .i64,.lit .nsl,.lit .nsl,.lit .nsl,.lit .nsl,.lit .nsl,.lit .nsl,.lit .nsl,.lit .nsl,.int .i64,.bool,.bool],.arr true (.sl qP),.arr true qP],[(12,some 0,(.sl qP),false),(12,some 1,qP,false)]⟩
def yHk:zL:=⟨[(2,.c (.int .i64)),(4,.c (.lit (.ptr 1001000 0))),(8,.c (.lit (.ptr 1001001 0))),(9,.c (.lit (.ptr 1001002 0))),(10,.c (.lit .nilp)),(12,.c (.lit (.ptr 1001005 0))),(30,.c (.dat false tX)),(31,.c (.int .i64)),(32,.c (.int .i64))],[.box true Cw,.box true LW,.box true qXr,.arr true (.int .u8),.arr true (.int .u8),.box true [.lit (.osl 1001006 none),.lit (.osl 1001007 none),.int .i64,.lit .nsl,.lit .nsl,.lit .nsl,.lit .nsl,.lit .nsl,.lit .nsl,.lit .nsl,.lit .nsl,.int .i64,.bool,.bool],.arr true (.sl qP),.arr true qP],[(12,some 0,(.sl qP),false),(12,some 1,qP,false)]⟩
def qUf:zL:=⟨[(8,.c (.lit (.ptr 1001000 0))),(10,.c (.lit .nilp)),(12,.c (.lit (.ptr 1001001 0)))],[.box true LW,.box true [.lit (.osl 1001002 none),.lit (.osl 1001003 none),.int .i64,.lit .nsl,.lit .nsl,.lit .nsl,.lit .nsl,.lit .nsl,.lit .nsl,.lit .nsl,.lit .nsl,.int .i64,.bool,.bool],.arr true (.sl qP),.arr true qP],[]⟩
def yCb:zL:=⟨[(8,.c (.lit (.ptr 1001000 0))),(10,.c (.lit (.ptr 1001001 0))),(12,.c (.lit (.ptr 1001006 0)))],[.box true LW,.box true [.lit (.ptr 1001002 0),.int .i64,.dat true vQ,.int .i64,.int .i64,.int .i64,.int .i64,.dat true yD,.dat true (.sl (.int .i64)),.dat true (.int .i64),.dat true (.sl (.int .i64)),.dat true (.int .i64),.dat true (.sl (.int .i64)),.dat true zO,.dat true (.int .i64),.int .i64,.bool,.int .i64,.bool],.box true [.lit (.ptr 1001003 0),.int .i64,.int .i64,.int .i64,.bool],.box true [.int .i64,.lit (.osl 1001004 none),.int .i64,.lit (.osl 1001005 none),.int .i64,.int .i64,.int .i64,.bool,.bool,.int .i64],.arr true (.int .u8),.arr true (.int .u8),.box true [.lit (.osl 1001007 none),.lit (.osl 1001008 none),.int .i64,.lit .nsl,.lit .nsl,.lit .nsl,.lit .nsl,.lit .nsl,.lit .nsl,.lit .nsl,.lit .nsl,.int .i64,.bool,.bool],.arr true (.sl qP),.arr true qP],[]⟩
def yGe (f:FJ)(d:lu [qWe,yHk]):Option LX:=match d with|.inl d=>f (.inl (d.1.1.1,d.1.2.2.2.2.2.2.1.1,d.1.2.2.2.2.2.2.2.1.1,d.1.2.2.2.2.2.2.2.2.1.1,(vO d.2.1),(vM d.2.2.1),(lZ d.2.2.2.1),d.2.2.2.2.1,d.2.2.2.2.2.1,(jQ d.2.2.2.2.2.2.1),(vM d.2.2.2.2.2.2.2.1),(vM d.2.2.2.2.2.2.2.2.1),d.2.2.2.2.2.2.2.2.2.1,d.2.2.2.2.2.2.2.2.2.2.1))|.inr d=>f (.inr (d.1.1.1,d.1.2.2.2.2.2.2.1.1,d.1.2.2.2.2.2.2.2.1.1,d.1.2.2.2.2.2.2.2.2.1.1,(vO d.2.1),(vM d.2.2.1),(lZ d.2.2.2.1),d.2.2.2.2.1,d.2.2.2.2.2.1,(vM d.2.2.2.2.2.2.1),d.2.2.2.2.2.2.2.1,d.2.2.2.2.2.2.2.2.1))
def VO:qI:=⟨[qWe,yHk],[(.exit 0,qUf),(.exit 0,yCb)],LX,fun k d=>yGe (xc k k) d,fun b x _ K=>match x with|.inl x=>K (.exit 0) (zV b qUf (((),(),(),()),((wT x.1 ()),(wT x.2.1 ()),x.2.2.1,x.2.2.2,())))|.inr x=>K (.exit 0) (zV b yCb (((),(),(),()),((wT x.1 ()),(wV x.2.1 ()),(wT x.2.2.1 ()),(Co x.2.2.2.1 ()),x.2.2.2.2.1,x.2.2.2.2.2.1,(wT x.2.2.2.2.2.2.1 ()),x.2.2.2.2.2.2.2.1,x.2.2.2.2.2.2.2.2,())))⟩
def ySz:qE:=⟨prog,fun _=>false,qS [R2q,qIa,qFq,F5,qEh,VA,qFv,qGm,qM7,VJ,qPs,qO9,qG5]⟩
def yKn:qB:=⟨[],[(7,VO)],[],true⟩
theorem yHm:qQ ySz:=zN zM ⟨F2q,vB2,yVw,KB,yX7,qSn,vFb,vE6,yTl,yQ8,yV8,yXu,yZu,trivial⟩
theorem yYe:qH prog 1000 0 110 (qD (qG f9) 0) VO:=lp (A:=yKn) VO (fun d=>match d with|.inl d=>.inl ((vM d.2.1),(vM d.2.2.1),d.2.2.2.1,d.2.2.2.2.1)|.inr d=>.inr ((vM d.2.1),(jQ d.2.2.1),(vM d.2.2.2.1),(lZ d.2.2.2.2.1),d.2.2.2.2.2.1,d.2.2.2.2.2.2.1,(vM d.2.2.2.2.2.2.2.1),d.2.2.2.2.2.2.2.2.1,d.2.2.2.2.2.2.2.2.2.1)) yGe xc w4 yHm zK (hs:=by intro k rec d;rcases d with d|d<;>kernel_rfl) (h0:=by intro k d;rcases d with d|d<;>rfl)
def VP:Nat×zH:=zQ 9 [.agg LA,.c (.int .i64),.c (.int .i64),.c (.dat false tX)] (.agg qX7) (fun k d=>B9 k (vO d) d.2.2.2.2.2.1 d.2.2.2.2.2.2.1 d.2.2.2.2.2.2.2.1) (fun x=>(Uz x ()))
theorem yRs:zJ prog VP:=fA (rs:=.agg qX7) f9 yKn (fun d=>(UD d)) yHm (qV yYe)
def VQ:Nat×zH:=zQ 38 [.c (.int .i64)] (.c (.int .i64)) (fun k d=>EI k d.1) (fun x=>(x,()))
theorem yP5:zJ prog VQ:=fA (rs:=.c (.int .i64)) f38 ⟨[],[],[],true⟩ (fun d=>d.1) (zN (l:=[]) zM trivial) zK
def qTd:zL:=⟨[(1,.c (.lit (.ptr 1001000 0))),(3,.c (.int .i64)),(4,.c (.int .i64))],[.box true ku],[]⟩
def yBe:zL:=⟨[(3,.c (.int .i64))],[],[]⟩
def yN5:zL:=⟨[(2,.c (.bool))],[],[]⟩
def yM7 (f:VR)(d:qTd.den):Option (Int⊕Bool):=f d.1.2.1.1 d.1.2.2.1.1 (jX d.2.1)
def VT:qI:=⟨[qTd],[(.exit 0,yBe),(.ret,yN5)],(Int⊕Bool),fun k d=>yM7 (EJ k k) d,fun b x _ K=>match x with|.inl x=>K (.exit 0) (zV b yBe (((x,()),()),()))|.inr x=>K .ret (zV b yN5 (((x,()),()),()))⟩
def vG9:qE:=⟨prog,fun _=>false,qS [VQ]⟩
def yAl:qB:=⟨[],[(3,VT)],[],true⟩
theorem yKc:qQ vG9:=zN zM ⟨yP5,trivial⟩
theorem vB6:qH prog 1000 0 21 (qD (qG f72) 0) VT:=lp (A:=yAl) VT (fun d=>match d with|.inl d=>.inl d.1.1.1|.inr d=>.inr d.1.1.1) yM7 EJ yF6 yKc zK
def yE9:Nat×zH:=zQ 72 [.agg wE] (.c (.bool)) (fun k d=>Ir k (jX d)) (fun x=>(x,()))
theorem vAg:zJ prog yE9:=fA (rs:=.c (.bool)) f72 yAl (fun d=>d.1) yKc (qV vB6)
def yGr:zL:=⟨[(1,.c (.dat false (.int .i64))),(4,.c (.lit (.ptr 1001000 0))),(5,.c (.lit (.ptr 1001001 0))),(6,.c (.int .i64))],[.box true ku,.box true ku],[]⟩
def yJk:zL:=⟨[(4,.c (.lit (.ptr 1001000 0))),(5,.c (.lit (.ptr 1001001 0)))],[.box true ku,.box true ku],[]⟩
def yAy (f:VU)(d:yGr.den):Option LY:=(tS (tS (f d.1.1.1 d.1.2.2.2.1.1) d.2.1) d.2.2.1)
def VV:qI:=⟨[yGr],[(.exit 0,yJk)],LY,fun k d=>yAy (LZ k k) d,fun b x _ K=>K (.exit 0) (zV b yJk (((),(),()),((Cu x ()),(vAt x ()),())))⟩
def vJ1:qE:=⟨prog,fun _=>false,qS []⟩
def yE0:qB:=⟨[],[(3,VV)],[],false⟩
theorem yMx:qQ vJ1:=zN zM trivial
theorem yV2:qH prog 1000 0 27 (qD (qG f13) 0) VV:=lp (A:=yE0) VV (fun d=>(Cu d.2.1 (jX d.2.2.1))) yAy LZ yOl yMx zK
def yQa:Nat×zH:=zQ 13 [.c (.int .i64),.c (.dat false (.int .i64))] (.agg mF) (fun k d=>yKy k d.1 d.2.1) (fun x=>(kU x ()))
theorem vF2:zJ prog yQa:=fA (rs:=.agg mF) f13 yE0 (fun d=>(jX d)) yMx (qV yV2)
def VW:Nat×zH:=zQ 24 [.c (.int .i64),.c (.int .i64),.c (.dat false (.int .i64))] (.agg Cn) (fun k d=>tK k d.1 d.2.1 d.2.2.1) (fun x=>(Co x ()))
theorem qYb:zJ prog VW:=fA (rs:=.agg Cn) f24 ⟨[],[],[],true⟩ (fun d=>(lZ d)) (zN (l:=[yQa]) zM ⟨vF2,trivial⟩) zK
def yA2:zL:=⟨[(0,.c (.dat false (.int .i64))),(3,.c (.lit (.osl 1001000 none))),(4,.c (.int .i64)),(5,.c (.int .i64))],[.arr true (.int .u8)],[]⟩
def qT4:zL:=⟨[(0,.c (.dat false (.int .i64))),(3,.c (.lit (.osl 1001000 none))),(4,.c (.int .i64))],[.arr true (.int .u8)],[]⟩
def yAw (f:VX)(d:yA2.den):Option L1:=f d.1.1.1 d.1.2.2.1.1 d.1.2.2.2.1.1 d.2.1
def VY:qI:=⟨[yA2],[(.exit 2,qT4)],L1,fun k d=>yAw (zx k k) d,fun b x _ K=>K (.exit 2) (zV b qT4 (((x.1,()),(),(x.2.1,()),()),(x.2.2,())))⟩
def yFq:zL:=⟨[(0,.c (.dat false (.int .i64))),(3,.c (.lit (.osl 1001000 none))),(4,.c (.int .i64))],[.arr true (.int .u8)],[]⟩
def yOx:zL:=⟨[(3,.c (.lit (.osl 1001000 none)))],[.arr true (.int .u8)],[]⟩
def qYs (f:VZ)(d:yFq.den):Option (List Int):=f d.1.1.1 d.1.2.2.1.1 d.2.1
def V0:qI:=⟨[yFq],[(.exit 0,yOx)],(List Int),fun k d=>qYs (vp k k) d,fun b x _ K=>K (.exit 0) (zV b yOx (((),()),(x,())))⟩
def vHt:qE:=⟨prog,fun _=>false,qS []⟩
def V1:qB:=⟨[],[(6,VY),(3,V0)],[],true⟩
theorem V2:qQ vHt:=zN zM trivial
theorem yZn:qH prog 1000 0 30 (qD (qD (qG f86) 0) 0) VY:=lp (A:=V1) VY (fun d=>(d.1.1.1,d.1.2.2.1.1,d.2.1)) yAw zx Iu V2 zK
theorem vFh:qH prog 1000 0 30 (qD (qG f86) 0) V0:=lp (A:=V1) V0 (fun d=>d.2.1) qYs vp zy V2 (qV yZn)
def qX1:Nat×zH:=zQ 86 [.c (.dat false (.int .i64))] (.c (.own (.int .u8))) (fun k d=>Is k d.1) (fun x=>(x,()))
theorem yWm:zJ prog qX1:=fA (rs:=.c (.own (.int .u8))) f86 V1 (fun d=>d.1) V2 (qV vFh)
def qY4:Nat×zH:=zQ 49 [.agg wE] (.c (.own (.int .u8))) (fun k d=>Iv k (jX d)) (fun x=>(x,()))
theorem yXk:zJ prog qY4:=fA (rs:=.c (.own (.int .u8))) f49 ⟨[1],[],[],true⟩ (fun d=>d.1) (zN (l:=[yE9,VQ,qX1]) zM ⟨vAg,yP5,yWm,trivial⟩) zK
def V3:Nat×zH:=zQ 23 [.agg F6] (.agg [.int .i64,.int .i64,.own (.int .u8),.int .i64,.int .i64]) (fun k d=>pc k (lZ d)) (fun x=>(ft x ()))
theorem qVk:zJ prog V3:=fA (rs:=.agg [.int .i64,.int .i64,.own (.int .u8),.int .i64,.int .i64]) f23 ⟨[],[],[],true⟩ (fun d=>(vO d)) (zN (l:=[qY4]) zM ⟨yXk,trivial⟩) zK
def qFh:Nat×zH:=zQ 16 [] (.c (.bool)) (fun k d=>Q5 k) (fun x=>(x,()))
theorem yY5:zJ prog qFh:=fA (rs:=.c (.bool)) f16 ⟨[],[],[],true⟩ (fun d=>d.1) (zN (l:=[Q8,VW,V3,VP]) zM ⟨F1q,qYb,qVk,yRs,trivial⟩) zK
def yGx:zL:=⟨[(0,.c (.dat false qP)),(6,.c (.int .i64)),(7,.c (.int .i64)),(8,.c (.int .i64)),(11,.c (.dat false (.int .i64))),(12,.c (.int .i64)),(13,.c (.int .i64)),(17,.c (.dat false qP)),(18,.c (.int .i64)),(19,.c (.int .i64))],[],[]⟩
def yQq:zL:=⟨[(0,.c (.dat false qP)),(7,.c (.int .i64)),(8,.c (.int .i64)),(11,.c (.dat false (.int .i64))),(12,.c (.int .i64)),(13,.c (.int .i64))],[],[]⟩
def yBw (f:V4)(d:yGx.den):Option L3:=f d.1.1.1 d.1.2.1.1 d.1.2.2.1.1 d.1.2.2.2.1.1 d.1.2.2.2.2.1.1 d.1.2.2.2.2.2.1.1 d.1.2.2.2.2.2.2.1.1 d.1.2.2.2.2.2.2.2.1.1 d.1.2.2.2.2.2.2.2.2.1.1 d.1.2.2.2.2.2.2.2.2.2.1.1
def V5:qI:=⟨[yGx],[(.exit 2,yQq)],L3,fun k d=>yBw (BQ k k) d,fun b x _ K=>K (.exit 2) (zV b yQq (((x.1,()),(x.2.1,()),(x.2.2.1,()),(x.2.2.2.1,()),(x.2.2.2.2.1,()),(x.2.2.2.2.2,()),()),()))⟩
def yKb:zL:=⟨[(0,.c (.dat false qP)),(11,.c (.dat false (.int .i64))),(12,.c (.int .i64)),(13,.c (.int .i64))],[],[]⟩
def qVs:zL:=⟨[],[],[]⟩
def qWi:zL:=⟨[(4,.c (.bool))],[],[]⟩
def yQh (f:V6)(d:yKb.den):Option (Unit⊕Bool):=f d.1.1.1 d.1.2.1.1 d.1.2.2.1.1 d.1.2.2.2.1.1
def V7:qI:=⟨[yKb],[(.exit 0,qVs),(.ret,qWi)],(Unit⊕Bool),fun k d=>yQh (FC k k) d,fun b x _ K=>match x with|.inl x=>K (.exit 0) (zV b qVs ((),()))|.inr x=>K .ret (zV b qWi (((x,()),()),()))⟩
def vMo:qE:=⟨prog,fun _=>false,qS []⟩
def V8:qB:=⟨[],[(6,V5),(2,V7)],[],false⟩
theorem V9:qQ vMo:=zN zM trivial
theorem yY9:qH prog 1000 0 59 (qD (qD (qG f25) 0) 0) V5:=lp (A:=V8) V5 (fun d=>(d.1.1.1,d.1.2.1.1,d.1.2.2.1.1,d.1.2.2.2.1.1,d.1.2.2.2.2.1.1,d.1.2.2.2.2.2.1.1)) yBw BQ BR V9 zK
theorem vB3:qH prog 1000 0 59 (qD (qG f25) 0) V7:=lp (A:=V8) V7 (fun d=>match d with|.inl d=>.inl ()|.inr d=>.inr d.1.1.1) yQh FC BS V9 (qV yY9)
def qDb:Nat×zH:=zQ 25 [.c (.dat false qP),.c (.dat false (.int .i64))] (.c (.bool)) (fun k d=>Jw k d.1 d.2.1) (fun x=>(x,()))
theorem vAr:zJ prog qDb:=fA (rs:=.c (.bool)) f25 V8 (fun d=>d.1) V9 (qV vB3)
def qXi:zL:=⟨[(1,.c (.dat false qP)),(5,.c (.lit (.ptr 1001000 0))),(6,.c (.lit (.osl 1001002 none))),(7,.c (.int .i64))],[.box true rK,.arr true vQ,.arr true tX],[(6,none,tX,false)]⟩
def yJd:zL:=⟨[(5,.c (.lit (.ptr 1001000 0))),(6,.c (.lit (.osl 1001002 none)))],[.box true rK,.arr true vQ,.arr true tX],[]⟩
def yQ4 (f:Wa)(d:qXi.den):Option L4:=f d.1.1.1 d.1.2.2.2.1.1 (vM d.2.1) d.2.2.1 d.2.2.2.1
def J0:qI:=⟨[qXi],[(.exit 0,yJd)],L4,fun k d=>yQ4 (Ca k k) d,fun b x _ K=>K (.exit 0) (zV b yJd (((),(),()),((wT x.1 ()),x.2.1,x.2.2,())))⟩
def qVp:zL:=⟨[(5,.c (.lit (.ptr 1001000 0))),(6,.c (.lit (.osl 1001002 none))),(8,.c (.int .i64))],[.box true rK,.arr true vQ,.arr true tX],[]⟩
def qXc:zL:=⟨[(5,.c (.lit (.ptr 1001000 0))),(6,.c (.lit (.osl 1001002 none)))],[.box true rK,.arr true vQ,.arr true tX],[]⟩
def qYk (f:Wb)(d:qVp.den):Option L5:=f d.1.2.2.1.1 (vM d.2.1) d.2.2.1 d.2.2.2.1
def J1:qI:=⟨[qVp],[(.exit 2,qXc)],L5,fun k d=>qYk (xd k k) d,fun b x _ K=>K (.exit 2) (zV b qXc (((),(),()),((wT x.1 ()),x.2.1,x.2.2,())))⟩
def yDw:zL:=⟨[(5,.c (.lit (.ptr 1001000 0))),(9,.c (.lit (.ptr 1001002 0))),(10,.c (.lit (.osl 1001005 none))),(11,.c (.lit (.osl 1001006 none))),(12,.c (.int .i64))],[.box true rK,.arr false vQ,.box true Gk,.arr true (.sl qP),.arr true qP,.arr true qP,.arr true (.int .i64)],[(10,none,qP,false)]⟩
def yQj:zL:=⟨[(5,.c (.lit (.ptr 1001000 0))),(9,.c (.lit (.ptr 1001002 0))),(10,.c (.lit (.osl 1001005 none))),(11,.c (.lit (.osl 1001006 none)))],[.box true rK,.arr false vQ,.box true Gk,.arr true (.sl qP),.arr true qP,.arr true qP,.arr true (.int .i64)],[]⟩
def qXg (f:Wc)(d:yDw.den):Option L6:=f d.1.2.2.2.2.1.1 (vM d.2.1) d.2.2.1 (nQ d.2.2.2.1) d.2.2.2.2.1 d.2.2.2.2.2.1 d.2.2.2.2.2.2.1 d.2.2.2.2.2.2.2.1
def J2:qI:=⟨[yDw],[(.exit 4,yQj)],L6,fun k d=>qXg (Ce k k) d,fun b x _ K=>K (.exit 4) (zV b yQj (((),(),(),(),()),((wT x.1 ()),x.2.1,(tR x.2.2.1 ()),x.2.2.2.1,x.2.2.2.2.1,x.2.2.2.2.2.1,x.2.2.2.2.2.2,())))⟩
def yKe:zL:=⟨[(5,.c (.lit (.ptr 1001000 0))),(9,.c (.lit (.ptr 1001002 0))),(10,.c (.lit (.osl 1001005 none))),(11,.c (.lit (.osl 1001006 none))),(13,.c (.int .i64))],[.box true rK,.arr false vQ,.box true Gk,.arr true (.sl qP),.arr true qP,.arr true qP,.arr true (.int .i64)],[]⟩
def yKg:zL:=⟨[(5,.c (.lit (.ptr 1001000 0))),(9,.c (.lit (.ptr 1001002 0))),(10,.c (.lit (.osl 1001005 none))),(11,.c (.lit (.osl 1001006 none)))],[.box true rK,.arr false vQ,.box true Gk,.arr true (.sl qP),.arr true qP,.arr true qP,.arr true (.int .i64)],[]⟩
def yEr:zL:=⟨[(4,.c (.bool))],[],[]⟩
def qSt (f:Wd)(d:yKe.den):Option L7:=f d.1.2.2.2.2.1.1 (vM d.2.1) d.2.2.1 (nQ d.2.2.2.1) d.2.2.2.2.1 d.2.2.2.2.2.1 d.2.2.2.2.2.2.1 d.2.2.2.2.2.2.2.1
def J3:qI:=⟨[yKe],[(.exit 6,yKg),(.ret,yEr)],L7,fun k d=>qSt (xe k k) d,fun b x _ K=>match x with|.inl x=>K (.exit 6) (zV b yKg (((),(),(),(),()),((wT x.1 ()),x.2.1,(tR x.2.2.1 ()),x.2.2.2.1,x.2.2.2.2.1,x.2.2.2.2.2.1,x.2.2.2.2.2.2,())))|.inr x=>K .ret (zV b yEr (((x,()),()),()))⟩
def yK3:zL:=⟨[(5,.c (.lit (.ptr 1001000 0))),(9,.c (.lit (.ptr 1001002 0))),(10,.c (.lit (.osl 1001005 none))),(11,.c (.lit (.osl 1001006 none))),(15,.c (.int .i64))],[.box true rK,.arr false vQ,.box true Gk,.arr true (.sl qP),.arr true qP,.arr true qP,.arr true (.int .i64)],[]⟩
def yP7:zL:=⟨[(9,.c (.lit (.ptr 1001000 0))),(10,.c (.lit (.osl 1001003 none)))],[.box true [.lit (.osl 1001001 none),.lit (.osl 1001002 none),.int .i64,.dat true yD,.dat true (.sl (.int .i64)),.dat true (.int .i64),.dat true (.sl (.int .i64)),.dat true (.int .i64),.dat true (.sl (.int .i64)),.dat true zO,.dat true (.int .i64),.int .i64,.bool,.bool],.arr true (.sl qP),.arr true qP,.arr true qP],[]⟩
def yR4:zL:=⟨[(4,.c (.bool))],[],[]⟩
def qW2 (f:We)(d:yK3.den):Option L8:=f d.1.2.2.2.2.1.1 (vM d.2.1) d.2.2.1 (nQ d.2.2.2.1) d.2.2.2.2.1 d.2.2.2.2.2.1 d.2.2.2.2.2.2.1 d.2.2.2.2.2.2.2.1
def J4:qI:=⟨[yK3],[(.exit 8,yP7),(.ret,yR4)],L8,fun k d=>qW2 (FV k k) d,fun b x _ K=>match x with|.inl x=>K (.exit 8) (zV b yP7 (((),(),()),((tR x.1 ()),x.2.1,x.2.2.1,x.2.2.2,())))|.inr x=>K .ret (zV b yR4 (((x,()),()),()))⟩
def qYw:qE:=⟨prog,fun _=>false,qS [Q8,V3,VW,VP,qDb,qFh]⟩
def Cx:qB:=⟨[],[(6,J0),(10,J1),(17,J2),(21,J3),(29,J4)],[],true⟩
theorem xh:qQ qYw:=zN zM ⟨F1q,qVk,qYb,yRs,vAr,yY5,trivial⟩
theorem vHm:qH prog 1000 0 154 (qD (qG f6) 0) J0:=lp (A:=Cx) J0 (fun d=>((vM d.2.1),d.2.2.1,d.2.2.2.1)) yQ4 Ca Cb xh zK
theorem yW0:qH prog 1000 0 154 (qD (qG f6) 1) J1:=lp (A:=Cx) J1 (fun d=>((vM d.2.1),d.2.2.1,d.2.2.2.1)) qYk xd Cc xh zK
theorem yV7:qH prog 1000 0 154 (qD (qG f6) 2) J2:=lp (A:=Cx) J2 (fun d=>((vM d.2.1),d.2.2.1,(nQ d.2.2.2.1),d.2.2.2.2.1,d.2.2.2.2.2.1,d.2.2.2.2.2.2.1,d.2.2.2.2.2.2.2.1)) qXg Ce Cf xh zK
theorem vA9:qH prog 1000 0 154 (qD (qG f6) 3) J3:=lp (A:=Cx) J3 (fun d=>match d with|.inl d=>.inl ((vM d.2.1),d.2.2.1,(nQ d.2.2.2.1),d.2.2.2.2.1,d.2.2.2.2.2.1,d.2.2.2.2.2.2.1,d.2.2.2.2.2.2.2.1)|.inr d=>.inr d.1.1.1) qSt xe xf xh zK
theorem vKd:qH prog 1000 0 154 (qD (qG f6) 4) J4:=lp (A:=Cx) J4 (fun d=>match d with|.inl d=>.inl ((nQ d.2.1),d.2.2.1,d.2.2.2.1,d.2.2.2.2.1)|.inr d=>.inr d.1.1.1) qW2 FV Cd xh zK
def Q6:List AS:=[.c (.int .i64),.c (.dat false qP)]
theorem vGm:OR qYw Cx 0 f6 Q6 (.c (.bool)) (fun d=>d.1) (fun k d=>JZ k d.1 d.2.1):=by intro k d;kernel_rfl
end
end Go.Ab.Gi
