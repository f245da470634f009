/- part 62 -/
import Derived.Test.YtdhajnjinkknkaaGreatGiXRa
set_option linter.unusedVariables false
set_option maxRecDepth 100000
set_option maxHeartbeats 4000000
namespace Go.Ab.Gi
open Go.RowKit Go.Lib Go.Proofs Go.Proofs.Tryz
noncomputable section
def yWu:zF:=⟨[(0,.c (.dat false zG)),(1,.c (.lit (.fn 127 [1001000]))),(7,.c (.int .i64)),(8,.c (.int .i64))],[.robox KZ],[]⟩
def yR7:zF:=⟨[],[],[]⟩
def yLw:zF:=⟨[(4,.c (.int .i64))],[],[]⟩
def yEz (f:R7)(d:yWu.den):Option (Unit⊕Int):=(oK (f d.1.1.1 d.1.2.2.1.1 d.1.2.2.2.1.1) d.2.1)
def R8:qE:=⟨yWu,[(.exit 0,yR7),(.ret,yLw)],(Unit⊕Int),fun k d=>yEz (wm k k) d,fun b x _ K=>match x with|.inl x=>K (.exit 0) (zS b yR7 ((),()))|.inr x=>K .ret (zS b yLw (((x,()),()),()))⟩
def vBi:qB:=⟨prog,fun _=>false,qJ [qHi]⟩
def yJ6:zY:=⟨[],[(2,R8)],false⟩
theorem yNj:qI vBi:=zN zM ⟨vF2,trivial⟩
theorem yYf:qD prog 1000 0 19 (zX (qC f98) 0) R8:=lp (A:=yJ6) R8 (fun d=>match d with|.inl d=>.inl ()|.inr d=>.inr d.1.1.1) yEz wm B3 yNj zK
def yKb:Nat×zH:=zP 98 [.c (.dat false zG),.fn 127 [oL]] (.c (.int .i64)) (fun k d=>(GV (Rx k) d)) (fun x=>(x,()))
theorem vKp:zJ prog yKb:=fA (rs:=.c (.int .i64)) f98 yJ6 (fun d=>d.1) yNj (loops1 yYf)
def yH5:Nat×zH:=zP 132 [.c (.dat false zG),.fn 127 [oL]] (.c (.bool)) (fun k d=>(GV (Kc k) d)) (fun x=>(x,()))
theorem vLa:zJ prog yH5:=fA (rs:=.c (.bool)) f132 ⟨[],[],false⟩ (fun d=>d.1) (zN (l:=[yKb]) zM ⟨vKp,trivial⟩) zK
def qT5:Nat×zH:=zP 67 [.agg oL] (.c (.bool)) (fun k d=>F9 k (yD d)) (fun x=>(x,()))
theorem vIv:zJ prog qT5:=fA (rs:=.c (.bool)) f67 ⟨[],[],true⟩ (fun d=>d.1) (zN (l:=[yN0,yR1,yH5]) zM ⟨yYs,vF3,vLa,trivial⟩) zK
def yQv:zF:=⟨[(2,.c (.lit (.ptr 1001000 0))),(3,.c (.lit (.ptr 1001001 0))),(5,.c (.lit (.osl 1001002 none))),(44,.c (.dat false yH)),(45,.c (.int .i64)),(46,.c (.int .i64))],[.box true nF,.box true KZ,.arr true (.int .i64)],[(5,none,(.int .i64),false)]⟩
def qXk:zF:=⟨[(2,.c (.lit (.ptr 1001000 0))),(3,.c (.lit (.ptr 1001001 0))),(5,.c (.lit (.osl 1001002 none)))],[.box true nF,.box true KZ,.arr true (.int .i64)],[]⟩
def yQ6 (f:R9)(d:yQv.den):Option K0:=f d.1.2.2.2.1.1 d.1.2.2.2.2.1.1 d.1.2.2.2.2.2.1.1 (vC d.2.1) (yD d.2.2.1) d.2.2.2.1
def Sa:qE:=⟨yQv,[(.exit 0,qXk)],K0,fun k d=>yQ6 (B7 k k) d,fun b x _ K=>K (.exit 0) (zS b qXk (((),(),(),()),((gj x.1 ()),(fz x.2.1 ()),x.2.2,())))⟩
def vDy:qB:=⟨prog,fun _=>false,qJ [iq,Sb,qTz,qT5,Sc,Sd]⟩
def qZp:zY:=⟨[],[(5,Sa)],true⟩
theorem yMb:qI vDy:=zN zM ⟨iQ,yRm,vFr,vIv,yNo,yAw,trivial⟩
theorem vJb:qD prog 1000 0 92 (zX (qC f26) 0) Sa:=lp (A:=qZp) Sa (fun d=>((vC d.2.1),(yD d.2.2.1),d.2.2.2.1)) yQ6 B7 B8 yMb zK
def qR8:Nat×zH:=zP 26 [.agg iR,.agg oL] (.c (.bool)) (fun k d=>Kf k (vC d) (xh d)) (fun x=>(x,()))
theorem vJk:zJ prog qR8:=fA (rs:=.c (.bool)) f26 qZp (fun d=>d.1) yMb (loops1 vJb)
def yCv:zF:=⟨[(1,.c (.dat false yA)),(5,.c (.lit (.ptr 1001000 0))),(6,.c (.lit (.ptr 1001001 0))),(7,.c (.lit (.ptr 1001002 0))),(8,.c (.int .i64))],[.box true K1,.box true kn,.box true kn],[(5,some 1,.bool,true),(6,some 1,.bool,true),(6,some 2,.bool,true),(6,some 3,.bool,true),(6,some 4,.bool,true),(6,some 5,.bool,true),(6,some 6,.bool,true),(6,some 7,.bool,true),(6,some 8,.bool,true),(7,some 1,.bool,true),(7,some 2,.bool,true),(7,some 3,.bool,true),(7,some 4,.bool,true),(7,some 5,.bool,true),(7,some 6,.bool,true),(7,some 7,.bool,true),(7,some 8,.bool,true)]⟩
def yJ5:zF:=⟨[(5,.c (.lit (.ptr 1001000 0))),(6,.c (.lit (.ptr 1001001 0)))],[.box true K1,.box true kn],[]⟩
def yU3:zF:=⟨[(4,.c (.bool))],[],[]⟩
def yD2 (f:Se)(d:yCv.den):Option K2:=f d.1.1.1 d.1.2.2.2.2.1.1 (vC d.2.1) (yD d.2.2.1) (yD d.2.2.2.1)
def Sf:qE:=⟨yCv,[(.exit 0,yJ5),(.ret,yU3)],K2,fun k d=>yD2 (xg k k) d,fun b x _ K=>match x with|.inl x=>K (.exit 0) (zS b yJ5 (((),(),()),((gj x.1 ()),(fz x.2 ()),())))|.inr x=>K .ret (zS b yU3 (((x,()),()),()))⟩
def yPt:qB:=⟨prog,fun _=>false,qJ [Sg,Sh,qSn,Si,qMe,qLl,qPx,qR8,qLe]⟩
def qW1:zY:=⟨[],[(6,Sf)],true⟩
theorem R5:qI yPt:=zN zM ⟨F0q,F4q,vPd,qW7,vHq,vBe,vEl,vJk,vGf,trivial⟩
theorem vRi:qD prog 1000 0 75 (zX (qC f9) 0) Sf:=lp (A:=qW1) Sf (fun d=>match d with|.inl d=>.inl ((vC d.2.1),(yD d.2.2.1))|.inr d=>.inr d.1.1.1) yD2 xg CR R5 zK
def R4:List AS:=[.c (.int .i64),.c (.dat false yA)]
theorem vAg:PR yPt qW1 0 f9 R4 (.c (.bool)) (fun d=>d.1) (fun k d=>KY k d.1 d.2.1):=by intro k d;kernel_rfl
end
end Go.Ab.Gi
