/- part 98 -/
import Derived.Test.YthpehdcmpldloaaGreatGiXRa
set_option linter.unusedVariables false
set_option maxRecDepth 100000
set_option maxHeartbeats 4000000
namespace Go.Ab.Gi
open Go.RowKit Go.Lib Go.Proofs Go.Proofs.Tryz
noncomputable section
def vDg:zE:=⟨[sI 1,(2,.c (.dat false yw)),sP 7 0,sP 8 2,sP 9 5,sP 11 7,sI 12],[oB [.i,.lit (.osl 1001001 none),.i,.i,.i],.arr false jC,oB qQ7,oA (.int .u8),oA (.int .u8),oB yIq,oB [.lit (.ptr 1001002 0),.i,.i,.i,.bool],oB jg],[(11,some 1,.bool,true),(11,some 2,.bool,true),(11,some 3,.bool,true),(11,some 4,.bool,true),(11,some 5,.bool,true),(11,some 6,.bool,true),(11,some 7,.bool,true),(11,some 8,.bool,true)]⟩
def yVn (f:H2)(d:vDg.den):=f d.1.1.1 d.1.2.1.1 d.1.2.2.2.2.2.2.1.1 (wS d.2.1) d.2.2.1 (lM d.2.2.2.1) d.2.2.2.2.1 d.2.2.2.2.2.1 (eJ d.2.2.2.2.2.2.1) (wS d.2.2.2.2.2.2.2.1) (qQ d.2.2.2.2.2.2.2.2.1)
def qT5:zT:=⟨[vDg],[(.exit 0,yV1),(.ret,yPo)],(Unit⊕Bool),fun k d=>yVn (H4 k k) d,fun b x _ K=>match x with|.inl x=>K (.exit 0) (zN b yV1 ((),()))|.inr x=>K .ret (zN b yPo (((x,()),()),()))⟩
def yIs:Env:=⟨prog,fun _=>false,fO [R0q,R1q,R2q,qWk,qPn,qSu,qS5,qKg,qZe,qNj,qNf,qZ3,qS0,qJ2,yAs]⟩
theorem yAb:jS yIs:=oh ij ⟨F0q,F1q,F2q,qNb,vGt,qVr,qZz,vPm,aae,Rb,qYa,vHq,qNy,vW1,vXf,trivial⟩
def yH7:zW:=⟨[],[(10,qT5)],[],true⟩
theorem vL4:zS prog 1000 0 150 (zQ (zR f3) 0) qT5:=lp (A:=yH7) qT5 (fun d=>match d with|.inl d=>.inl ()|.inr d=>.inr d.1.1.1) yVn H4 H3 yAb zF
def qQ1:List AS:=[.c .i,.c .i,.c (.dat false yw)]
theorem aad:V5 yIs yH7 0 f3 qQ1 (.c .bool) (fun d=>d.1) (fun k d=>Q9 k d.1 d.2.1 d.2.2.1):=by intro k d;kernel_rfl
end
end Go.Ab.Gi
