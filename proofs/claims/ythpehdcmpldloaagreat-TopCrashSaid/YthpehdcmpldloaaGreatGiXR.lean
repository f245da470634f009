/- part 98 -/
import Derived.Test.YthpehdcmpldloaaGreatGiXRa
set_option linter.unusedVariables false
set_option maxRecDepth 100000
set_option maxHeartbeats 4000000
namespace Go.Ab.Gi
open Go.RowKit Go.Lib Go.Proofs Go.Proofs.Tryz
noncomputable section
def yI3:zE:=⟨[sI 1,(2,.c (.dat false yt)),sP 7 0,sP 8 2,sP 9 5,sP 11 7,sI 12],[oB [.i,.lit (.osl 1001001 none),.i,.i,.i],.arr false jB,oB qKq,oA (.int .u8),oA (.int .u8),oB yS6,oB [.lit (.ptr 1001002 0),.i,.i,.i,.bool],oB jb],[(11,some 1,.bool,true),(11,some 2,.bool,true),(11,some 3,.bool,true),(11,some 4,.bool,true),(11,some 5,.bool,true),(11,some 6,.bool,true),(11,some 7,.bool,true),(11,some 8,.bool,true)]⟩
def yL9 (f:HY)(d:yI3.den):=f d.1.1.1 d.1.2.1.1 d.1.2.2.2.2.2.2.1.1 (wS d.2.1) d.2.2.1 (lJ d.2.2.2.1) d.2.2.2.2.1 d.2.2.2.2.2.1 (eG d.2.2.2.2.2.2.1) (wS d.2.2.2.2.2.2.2.1) (qQ d.2.2.2.2.2.2.2.2.1)
def qT2:zT:=⟨[yI3],[(.exit 0,vGj),(.ret,yDo)],(Unit⊕Bool),fun k d=>yL9 (H0 k k) d,fun b x _ K=>match x with|.inl x=>K (.exit 0) (zN b vGj ((),()))|.inr x=>K .ret (zN b yDo (((x,()),()),()))⟩
def yRv:Env:=⟨prog,fun _=>false,fK [R0q,R1q,R2q,qXi,qNa,qSt,qS6,qXy,qRx,qUk,qTw,qL0,qO9,qPo,yAl]⟩
def qYz:jU yRv:=od ic ⟨F0q,F1q,F2q,qSl,vQl,qJj,qMs,vMs,aae,Q8,yCv,vG7,qR0,aaf,vTt,trivial⟩
def yK6:zW:=⟨[],[(10,qT2)],[],true⟩
def aad:zS prog 1000 0 150 (zQ (zR f3) 0) qT2:=lp (A:=yK6) qT2 (fun d=>match d with|.inl d=>.inl ()|.inr d=>.inr d.1.1.1) yL9 H0 HZ qYz zF
def qJi:List AS:=[.c .i,.c .i,.c (.dat false yt)]
def vLy:Wb yRv yK6 0 f3 qJi (.c .bool) (fun d=>d.1) (fun k d=>Q6 k d.1 d.2.1 d.2.2.1):=by intro k d;kernel_rfl
end
end Go.Ab.Gi
