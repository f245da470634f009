/- part 104 -/
import Derived.Test.YtnojdbmhfbhdjaaGreatGiXS
import Derived.Test.YtnojdbmhfbhdjaaGreatGiAbE
import Derived.Test.YtnojdbmhfbhdjaaGreatProg
set_option linter.unusedVariables false
set_option maxRecDepth 100000
set_option maxHeartbeats 4000000
namespace Go.Ab.Gi
open Go.RowKit Go.Lib Go.Proofs Go.Proofs.Tryz
noncomputable section
def Fd {A B C D E F G:Type}(d:(F×E×D×(A×B)×C)×G):=d.1.2.2.2.1.1
def Id {A B C D E F G H I J K L M N O P Q R S T:Type}(d:T×S×R×Q×P×O×N×M×L×K×J×I×H×G×F×E×D×C×A×B):=d.2.2.2.2.2.2.2.2.2.2.2.2.2.2.2.2.2.2.1
def Rd {A B C D E F:Type}(d:(E×D×(A×B)×C)×F):=d.1.2.2.1.1
def be {A B C D E F G H I J K L M N O P Q R S T U:Type}(d:U×T×S×R×Q×P×O×N×M×L×K×J×I×H×G×F×E×D×C×A×B):=d.2.2.2.2.2.2.2.2.2.2.2.2.2.2.2.2.2.2.2.1
def ce {A B C D E F G H:Type}(d:(G×F×E×D×(A×B)×C)×H):=d.1.2.2.2.2.1.1
def ge {A B C D E F G:Type}(d:G×F×E×D×C×A×B):=d.2.2.2.2.2.1
def If {A B C D E F G H:Type}(d:H×G×F×E×D×C×A×B):=d.2.2.2.2.2.2.1
def rg {A B C D E F G H I:Type}(d:I×H×G×F×E×D×C×A×B):=d.2.2.2.2.2.2.2.1
def ci {A B C D E F G H I:Type}(d:(H×G×F×E×D×(A×B)×C)×I):=d.1.2.2.2.2.2.1.1
def ii {A B C D E F:Type}(d:F×E×D×C×A×B):=d.2.2.2.2.1
def li {A B C D E:Type}(d:E×D×C×A×B):=d.2.2.2.1
def pi {A B C D E:Type}(d:(D×(A×B)×C)×E):=d.1.2.1.1
def Pi {A B C D E F G H I J K L:Type}(d:L×K×J×I×H×G×F×E×D×C×A×B):=d.2.2.2.2.2.2.2.2.2.2.1
def Mj {A B C D:Type}(d:D×C×A×B):=d.2.2.1
def dl {A B C D E F G H I J:Type}(d:J×I×H×G×F×E×D×C×A×B):=d.2.2.2.2.2.2.2.2.1
def ul {A B C D E F G H I J K L M:Type}(d:M×L×K×J×I×H×G×F×E×D×C×A×B):=d.2.2.2.2.2.2.2.2.2.2.2.1
def wl {A B C D:Type}(d:((A×B)×C)×D):=d.1.1.1
def lm {A B C D E F G H I J K L M N O P Q:Type}(d:Q×P×O×N×M×L×K×J×I×H×G×F×E×D×C×A×B):=d.2.2.2.2.2.2.2.2.2.2.2.2.2.2.2.1
def pm {A B C D E F:Type}(d:F×E×(C×A×B)×D):=d.2.2.1.2.1
def un {A B C D E F G H I J:Type}(d:(I×H×G×F×E×D×(A×B)×C)×J):=d.1.2.2.2.2.2.2.1.1
def Fn {A B C D E F G H I J K:Type}(d:K×J×I×H×G×F×E×D×C×A×B):=d.2.2.2.2.2.2.2.2.2.1
def In {A B C D E F G:Type}(d:G×F×E×(C×A×B)×D):=d.2.2.2.1.2.1
def co {A B C D E F G H I J K L M N:Type}(d:N×M×L×K×J×I×H×G×F×E×D×C×A×B):=d.2.2.2.2.2.2.2.2.2.2.2.2.1
def Do {A B C D E:Type}(d:E×D×(A×B)×C):=d.2.2.1.1
def ap {A B C D E F G H I J K:Type}(d:(J×I×H×G×F×E×D×(A×B)×C)×K):=d.1.2.2.2.2.2.2.2.1.1
def ip {A B C D E F G H:Type}(d:H×G×F×(D×C×A×B)×E):=d.2.2.2.1.2.2.1
def jp {A B C D E F G:Type}(d:G×F×(D×C×A×B)×E):=d.2.2.1.2.2.1
def pp {A B C D E F:Type}(d:F×E×D×(A×B)×C):=d.2.2.2.1.1
def qr {A B C D E:Type}(d:E×(C×A×B)×D):=d.2.1.2.1
def wr {A B C D E F G H:Type}(d:H×G×F×E×(C×A×B)×D):=d.2.2.2.2.1.2.1
def Fr {A B C D E F:Type}(d:F×E×D×C×B×A):=d.2.2.2.2.2
def Or {A B C D E F:Type}(d:F×(D×C×A×B)×E):=d.2.1.2.2.1
def ms {A B C D:Type}(d:D×(A×B)×C):=d.2.1.1
abbrev Pa:zU:=⟨[],[],[],false⟩
abbrev gc:=zC prog
abbrev lc (l):=jJ ⟨prog,fun _=>false,fj l⟩
abbrev md:=zS prog 1000 0
abbrev wd (f i):=zQ (zR f) i
theorem gO:prog.follows .mixedOrders=true:=by kernel_rfl
abbrev n0:zU:=⟨[],[],[],true⟩
theorem e0:lc []:=nV (l:=[]) gO trivial
theorem e1 {a0}(h0:gc a0):lc [a0]:=nV (l:=[a0]) gO ⟨h0,trivial⟩
theorem e2 {a0 a1}(h0:gc a0)(h1:gc a1):lc [a0,a1]:=nV (l:=[a0,a1]) gO ⟨h0,h1,trivial⟩
theorem e3 {a0 a1 a2}(h0:gc a0)(h1:gc a1)(h2:gc a2):lc [a0,a1,a2]:=nV (l:=[a0,a1,a2]) gO ⟨h0,h1,h2,trivial⟩
theorem e4 {a0 a1 a2 a3}(h0:gc a0)(h1:gc a1)(h2:gc a2)(h3:gc a3):lc [a0,a1,a2,a3]:=nV (l:=[a0,a1,a2,a3]) gO ⟨h0,h1,h2,h3,trivial⟩
theorem e5 {a0 a1 a2 a3 a4}(h0:gc a0)(h1:gc a1)(h2:gc a2)(h3:gc a3)(h4:gc a4):lc [a0,a1,a2,a3,a4]:=nV (l:=[a0,a1,a2,a3,a4]) gO ⟨h0,h1,h2,h3,h4,trivial⟩
theorem e6 {a0 a1 a2 a3 a4 a5}(h0:gc a0)(h1:gc a1)(h2:gc a2)(h3:gc a3)(h4:gc a4)(h5:gc a5):lc [a0,a1,a2,a3,a4,a5]:=nV (l:=[a0,a1,a2,a3,a4,a5]) gO ⟨h0,h1,h2,h3,h4,h5,trivial⟩
theorem e7 {a0 a1 a2 a3 a4 a5 a6}(h0:gc a0)(h1:gc a1)(h2:gc a2)(h3:gc a3)(h4:gc a4)(h5:gc a5)(h6:gc a6):lc [a0,a1,a2,a3,a4,a5,a6]:=nV (l:=[a0,a1,a2,a3,a4,a5,a6]) gO ⟨h0,h1,h2,h3,h4,h5,h6,trivial⟩
theorem e8 {a0 a1 a2 a3 a4 a5 a6 a7}(h0:gc a0)(h1:gc a1)(h2:gc a2)(h3:gc a3)(h4:gc a4)(h5:gc a5)(h6:gc a6)(h7:gc a7):lc [a0,a1,a2,a3,a4,a5,a6,a7]:=nV (l:=[a0,a1,a2,a3,a4,a5,a6,a7]) gO ⟨h0,h1,h2,h3,h4,h5,h6,h7,trivial⟩
theorem e9 {a0 a1 a2 a3 a4 a5 a6 a7 a8}(h0:gc a0)(h1:gc a1)(h2:gc a2)(h3:gc a3)(h4:gc a4)(h5:gc a5)(h6:gc a6)(h7:gc a7)(h8:gc a8):lc [a0,a1,a2,a3,a4,a5,a6,a7,a8]:=nV (l:=[a0,a1,a2,a3,a4,a5,a6,a7,a8]) gO ⟨h0,h1,h2,h3,h4,h5,h6,h7,h8,trivial⟩
theorem Sb {a0 a1 a2 a3 a4 a5 a6 a7 a8 a9}(h0:gc a0)(h1:gc a1)(h2:gc a2)(h3:gc a3)(h4:gc a4)(h5:gc a5)(h6:gc a6)(h7:gc a7)(h8:gc a8)(h9:gc a9):lc [a0,a1,a2,a3,a4,a5,a6,a7,a8,a9]:=nV (l:=[a0,a1,a2,a3,a4,a5,a6,a7,a8,a9]) gO ⟨h0,h1,h2,h3,h4,h5,h6,h7,h8,h9,trivial⟩
theorem e11 {a0 a1 a2 a3 a4 a5 a6 a7 a8 a9 Ks}(h0:gc a0)(h1:gc a1)(h2:gc a2)(h3:gc a3)(h4:gc a4)(h5:gc a5)(h6:gc a6)(h7:gc a7)(h8:gc a8)(h9:gc a9)(Yk:gc Ks):lc [a0,a1,a2,a3,a4,a5,a6,a7,a8,a9,Ks]:=nV (l:=[a0,a1,a2,a3,a4,a5,a6,a7,a8,a9,Ks]) gO ⟨h0,h1,h2,h3,h4,h5,h6,h7,h8,h9,Yk,trivial⟩
def R0q:=zI 4 [.c .i] (.agg [.i,.own wQ,.i,.i,.i]) (fun k d=>lG k d.1) (fun x=>(vK x ())) (fun d=>(qZ d))
theorem F0q:gc R0q:=fA f4 n0 e0 zF
def R1q:=yB 5 [.c (.p .i)] (.c (.link 0)) [lf] 1 (fun k d=>Ni k d.1) (fun x=>((),(wY x ()))) (fun d=>(pE d))
theorem F1q:gc R1q:=fX f5 n0 0 e0 zF
def R2q:=yB 6 [.c (.p .i)] (.c (.link 0)) [nv] 1 (fun k d=>qQ5 k d.1) (fun x=>((),(wY x ()))) (fun d=>(pE d))
theorem F2q:gc R2q:=fX f6 n0 0 e0 zF
theorem F3q:gc (zI 20 [.ptr Nu] (.c .bool) (fun k d=>qz k (jC d)) (fun x=>(x,())) (fun d=>d.1)):=fA f20 n0 e0 zF
theorem F4q:gc (zI 21 [.c .i] (.c .bool) (fun k d=>Sc k d.1) (fun x=>(x,())) (fun d=>d.1)):=fA f21 n0 e0 zF
theorem F5q:gc (yB 22 [.ptr true nu] (.c .bool) [lf] 0 (fun k d=>eW k (jC d)) (fun x=>(x.1,(wY x.2 ()))) (fun d=>(d.1,(pE d)))):=fX f22 ⟨[],[],[(6,3)],true⟩ 1 e0 (J7 (n:=1) (by kernel_rfl) fun i hi=>match i,hi with|0,_=>.inr ⟨by kernel_rfl,zF⟩|i+1,hi=>absurd hi (by omega))
def R6q:=yB 7 [.ptr true nu,.c (.p .i),.c (.p (.dat false (.int .u8)))] (.c .i) [lf] 0 (fun k d=>mn k (jC d) (Pi d) (ul d)) (fun x=>(x.1,(wY x.2 ()))) (fun d=>(d.1,(pE d)))
theorem F6q:gc R6q:=fX f7 n0 1 (e3 F3q F4q F5q) zF
def R7q:=yB 8 [.ptr true nu] (.c .i) [lf] 0 (fun k d=>nW k (jC d)) (fun x=>(x.1,(wY x.2 ()))) (fun d=>(d.1,(pE d)))
theorem F7q:gc R7q:=fX f8 ⟨[],[],[(4,3)],true⟩ 1 (e2 F3q F5q) (J7 (n:=1) (by kernel_rfl) fun i hi=>match i,hi with|0,_=>.inr ⟨by kernel_rfl,zF⟩|i+1,hi=>absurd hi (by omega))
theorem F8q:gc (yB 23 [.ptr true rj] (.c .bool) [nv] 0 (fun k d=>uW k (jC d)) (fun x=>(x.1,(wY x.2 ()))) (fun d=>(d.1,(pE d)))):=fX f23 ⟨[],[],[(6,3)],true⟩ 1 e0 (J7 (n:=1) (by kernel_rfl) fun i hi=>match i,hi with|0,_=>.inr ⟨by kernel_rfl,zF⟩|i+1,hi=>absurd hi (by omega))
def R9q:=yB 9 [.ptr true rj,.c (.p .i),.c (.p (.dat false (.int .u8)))] (.c .i) [nv] 0 (fun k d=>ym k (jC d) (Pi d) (ul d)) (fun x=>(x.1,(wY x.2 ()))) (fun d=>(d.1,(pE d)))
theorem F9q:gc R9q:=fX f9 n0 1 (e1 F8q) zF
def qXq:=yB 10 [.ptr true rj] (.c .i) [nv] 0 (fun k d=>yn k (jC d)) (fun x=>(x.1,(wY x.2 ()))) (fun d=>(d.1,(pE d)))
theorem qTt:gc qXq:=fX f10 n0 1 (e1 F8q) zF
theorem yMy:gc (zI 62 [.c .i,.c .i,.c .i] (.c .bool) (fun k d=>tw k d.1 d.2.1 (Mj d)) (fun x=>(x,())) (fun d=>d.1)):=fA f62 n0 e0 zF
theorem vFn:gc (zI 61 [.agg [.i,.i]] (.c .bool) (fun k d=>yO5 k (d.1,d.2.1)) (fun x=>(x,())) (fun d=>d.1)):=fA f61 n0 (e1 yMy) zF
def yUp:zE:=sp [(0,.c (.dat false wQ)),(1,.c (.lit (.fn 61 []))),sI 7,sI 8] []
def yZp:zE:=sp [] []
def yQb:zE:=sp [sI 4] []
def yNy (f:yCh)(d:yUp.den):=f (wl d) (Rd d) (Fd d)
def qSs:zT:=⟨[yUp],[(.exit 0,yZp),(.ret,yQb)],(Unit⊕Int),fun k d=>yNy (qTw k k) d,fun b x _ K=>match x with|.inl x=>K (.exit 0) (zL b yZp ((),()))|.inr x=>K .ret (zL b yQb (((x,()),()),()))⟩
def yGq:zU:=⟨[],[(2,qSs)],[],true⟩
theorem vXz:md 19 (wd f115 0) qSs:=lp (A:=yGq) qSs (fun d=>match d with|.inl d=>.inl ()|.inr d=>.inr (wl d)) yNy qTw yTu (e1 vFn) zF
theorem vQc:gc (zI 115 [.c (.dat false wQ),.c (.fn 61)] (.c .i) (fun k d=>vHt k d.1) (fun x=>(x,())) (fun d=>d.1)):=fA f115 yGq (e1 vFn) (loops1 vXz)
theorem abL:gc (zI 63 [.c (.dat false wQ),.c (.fn 61)] (.c .bool) (fun k d=>yMc k d.1) (fun x=>(x,())) (fun d=>d.1)):=fA f63 n0 (e1 vQc) zF
theorem yHi:gc (zI 24 [.agg ig] (.c .bool) (fun k d=>qS3 k (qZ d)) (fun x=>(x,())) (fun d=>d.1)):=fA f24 n0 (e2 yMy abL) zF
theorem vYw:gc (xC 191 false (.int .u8) (.own (.int .u8)) Cq):=fC f191 n0 e0 zF
theorem vQa:gc (zI 117 [.ptr Nu,.c .i] (.c (.own (.int .u8))) (fun k d=>yEl k (jC d) (Pi d)) (fun x=>(x,())) (fun d=>d.1)):=fA f117 n0 (e2 F4q vYw) zF
def yS5:zE:=⟨[(0,.c (.dat false (.int .u8))),sO 2 0],[oA (.sl (.int .u8))],[(2,none,(.sl (.int .u8)),false)]⟩
def yMn:zE:=sp [(0,.c (.dat false (.int .u8))),sO 2 0] [oA (.sl (.int .u8))]
def vH3 (f:qN6)(d:yS5.den):=f (wl d) d.2.1
def qRk:zT:=⟨[yS5],[(.exit 0,yMn)],yC7,fun k d=>vH3 (Mp k k) d,fun b x _ K=>K (.exit 0) (zL b yMn (((x.1,()),(),()),(x.2,())))⟩
def yW5:zU:=⟨[],[(1,qRk)],[],true⟩
theorem abO:md 43 (wd f116 0) qRk:=lp (A:=yW5) qRk (fun d=>(wl d,d.2.1)) vH3 Mp Q9 e0 zF
theorem abP:gc (zI 116 [.c (.dat false (.int .u8))] (.tup [(false,[.own (.sl (.int .u8))]),(false,yF)]) (fun k d=>qWp k d.1) (fun x=>(x.1,x.2,())) (fun d=>(d.1,d.2.1))):=fA f116 yW5 e0 (loops1 abO)
def yFe:zE:=sp [(0,.c (.dat false (.int .u8))),sO 4 0,(5,.c (.int .u64)),(16,.c (.dat false (.int .u8))),sI 17,sI 18] [oA .i]
def vD2:zE:=sp [(0,.c (.dat false (.int .u8))),sO 4 0,(5,.c (.int .u64))] [oA .i]
def vEm (f:qU1)(d:yFe.den):=f (wl d) (Rd d) (Fd d) (ce d) (ci d) d.2.1
def yDc:zT:=⟨[yFe],[(.exit 2,vD2)],qSc,fun k d=>vEm (EL k k) d,fun b x _ K=>K (.exit 2) (zL b vD2 (((x.1,()),(),(x.2.1,()),()),(x.2.2,())))⟩
def yOd:zE:=⟨[(0,.c (.dat false (.int .u8))),sO 4 0],[oA .i],[(4,none,.i,false)]⟩
def vFf:zE:=sp [sO 4 0] [oA .i]
def yK8 (f:AC→AC→Option AC)(d:yOd.den):=f (wl d) d.2.1
def yE9:zT:=⟨[yOd],[(.exit 0,vFf)],AC,fun k d=>yK8 (EM k k) d,fun b x _ K=>K (.exit 0) (zL b vFf (((),()),(x,())))⟩
def qRh:zU:=⟨[],[(7,yDc),(4,yE9)],[],true⟩
theorem vRs:md 36 (zQ (wd f80 0) 0) yDc:=lp (A:=qRh) yDc (fun d=>(wl d,Rd d,d.2.1)) vEm EL Pw e0 zF
theorem vYo:md 36 (wd f80 0) yE9:=lp (A:=qRh) yE9 (fun d=>d.2.1) yK8 EM EN e0 (loops1 vRs)
theorem Sd:gc (zI 80 [.c (.dat false (.int .u8))] (.tup [(false,[.own .i]),(false,yF)]) (fun k d=>sJ k d.1) (fun x=>(x.1,x.2,())) (fun d=>(d.1,d.2.1))):=fA f80 qRh e0 (loops1 vYo)
theorem abR:gc (zI 64 [.ptr Nu,.c .i] (.tup [(false,yF),(false,[.fro (.int .u8)]),(false,[.fro (.sl (.int .u8))])]) (fun k d=>Hl k (jC d) (Pi d)) (fun x=>(x.1,x.2.1,x.2.2,())) (fun d=>(d.1,d.2.1,Mj d))):=fA f64 n0 (e3 vQa abP Sd) zF
theorem qPx:gc (zI 25 [.ptr Nu] (.tup [(false,yF),(false,yF),(false,[.fro (.int .u8)]),(false,[.fro (.sl (.int .u8))]),(false,[.bool])]) (fun k d=>Ms k (jC d)) (fun x=>(vK x ())) (fun d=>(d.1,d.2.1,Mj d,li d,ii d))):=fA f25 ⟨[],[],[(2,3)],true⟩ (e1 abR) (J7 (n:=1) (by kernel_rfl) fun i hi=>match i,hi with|0,_=>.inr ⟨by kernel_rfl,zF⟩|i+1,hi=>absurd hi (by omega))
theorem Se:gc (zI 122 [.c .i] (.c .bool) (fun k d=>Le k d.1) (fun x=>(x,())) (fun d=>d.1)):=fA f122 Pa e0 zF
def yOu:zE:=sp [sI 1,sO 5 0,sI 13,sI 14] [oA .i]
def yVy:zE:=sp [sO 5 0] [oA .i]
def vE2 (f:qVd)(d:yOu.den):=f (wl d) (Rd d) (Fd d) d.2.1
def qMg:zT:=⟨[yOu],[(.exit 0,yVy)],AC,fun k d=>vE2 (Lf k k) d,fun b x _ K=>K (.exit 0) (zL b yVy (((),()),(x,())))⟩
def yXn:zU:=⟨[],[(5,qMg)],[],false⟩
theorem vT6:md 23 (wd f69 0) qMg:=lp (A:=yXn) qMg (fun d=>d.2.1) vE2 Lf FF (e1 Se) zF
theorem Da:gc (zI 69 [.c .i,.c .i] (.c (.own .i)) (fun k d=>BW k d.1 d.2.1) (fun x=>(x,())) (fun d=>d.1)):=fA f69 yXn (e1 Se) (loops1 vT6)
def yNz:zE:=sp [sI 0,sI 1,sO 5 0,sI 13,sI 14] [.mat]
def yTe:zE:=sp [sO 5 0] [.mat]
def yQl (f:qLl)(d:yNz.den):=f (wl d) (pi d) (Fd d) (ce d) d.2.1
def yA1:zT:=⟨[yNz],[(.exit 0,yTe)],EQ,fun k d=>yQl (Lg k k) d,fun b x _ K=>K (.exit 0) (zL b yTe (((),()),(x,())))⟩
def yWz:zU:=⟨[11],[(5,yA1)],[],false⟩
theorem vQq:md 25 (wd f68 0) yA1:=lp (A:=yWz) yA1 (fun d=>d.2.1) yQl Lg FH (e2 Se Da) zF
theorem Nv:gc (zI 68 [.c .i,.c .i] (.c (.mat)) (fun k d=>FG k d.1 d.2.1) (fun x=>(x,())) (fun d=>d.1)):=fA f68 yWz (e2 Se Da) (loops1 vQq)
def yH0:zE:=⟨[sP 1 0,sP 2 1,sI 3,sP 4 2,(20,.c (.dat false wQ)),sI 21,sI 22],[oB iH,oB jN,oB Sf,oA qQ,.mat,oA .i,.mat,oA .i],[(4,some 5,.i,false)]⟩
def yV2:zE:=sp [sP 1 0,sP 2 1,sI 3,sP 4 2] [oB iH,oB jN,oB Sf,oA qQ,.mat,oA .i,.mat,oA .i]
def yMq (f:qMr)(d:yH0.den):=f (Rd d) (ce d) (ci d) (un d) (qZ d.2.1) (Do d,pm d,jp d) (pp d,In d,ip d) (ii d) (ge d) (If d) (rg d) (dl d)
def Sg:zT:=⟨[yH0],[(.exit 0,yV2)],qY3,fun k d=>yMq (qTm k k) d,fun b x _ K=>K (.exit 0) (zL b yV2 (((),(),(x.1,()),(),()),((vK x.2.1 ()),(Do x,pm x,x.2.2.1.2.2,()),(pp x,In x,x.2.2.2.1.2.2,()),ii x,ge x,If x,rg x,x.2.2.2.2.2.2.2.2,())))⟩
def vHn:zE:=⟨[sP 1 0,sP 2 1,sP 4 2,sI 34,sI 35],[oB iH,oB jN,oB vG8,oA qQ,.mat,oA .i,.mat,oA .i,.mat],[(4,some 6,(.sl .i),true)]⟩
def yXt:zE:=sp [sP 2 0,sP 4 1] [oB jN,oB yL1,oA qQ,.mat,oA .i,.mat,oA .i,.mat]
def yPc (f:qPa)(d:vHn.den):=f (Fd d) (ce d) (qZ d.2.1) (Do d,pm d,jp d) (pp d,In d,ip d) (ii d) (ge d) (If d) (rg d) (dl d) (Fn d)
def Sh:zT:=⟨[vHn],[(.exit 2,yXt)],qVr,fun k d=>yPc (qL1 k k) d,fun b x _ K=>K (.exit 2) (zL b yXt (((),(),()),((x.1.1,x.1.2.1,x.1.2.2,()),(ms x,qr x,x.2.1.2.2,()),Mj x,li x,ii x,ge x,If x,x.2.2.2.2.2.2.2,())))⟩
def qQz:zU:=⟨[43,44],[(4,Sg),(9,Sh)],[],true⟩
theorem vKw:md 48 (wd f28 0) Sg:=lp (A:=qQz) Sg (fun d=>(Rd d,(qZ d.2.1),(Do d,pm d,jp d),(pp d,In d,ip d),ii d,ge d,If d,rg d,dl d)) yMq qTm vEa (e2 Nv Da) zF
theorem abU:md 48 (wd f28 1) Sh:=lp (A:=qQz) Sh (fun d=>((ms d,qr d,Or d),(Do d,pm d,jp d),li d,ii d,ge d,If d,rg d,dl d)) yPc qL1 yU4 (e2 Nv Da) zF
theorem yWk:gc (zI 28 [.agg ig] (.agg qYw) (fun k d=>zx k (qZ d)) (fun x=>(vP x ())) (fun d=>(qO d))):=fA f28 qQz (e2 Nv Da) (mc (n:=2) (by kernel_rfl) fun i hi=>match i,hi with|0,_=>⟨Sg,by kernel_rfl,vKw⟩|1,_=>⟨Sh,by kernel_rfl,abU⟩|i+2,hi=>absurd hi (by omega))
theorem qPm:gc (zI 66 [.c .bool] (.c .i) (fun k d=>PG k d.1) (fun x=>(x,())) (fun d=>d.1)):=fA f66 n0 e0 zF
def yTk:zE:=sp [sO 3 0,sI 5,sI 6,(11,.c (.dat false .i)),sI 12,sI 13] [oA (.int .u8)]
def yRe:zE:=sp [sO 3 0,(11,.c (.dat false .i)),sI 12,sI 13] [oA (.int .u8)]
def vFk (f:qMm)(d:yTk.den):=f (pi d) (Rd d) (Fd d) (ce d) (ci d) d.2.1
def yBa:zT:=⟨[yTk],[(.exit 2,yRe)],yEg,fun k d=>vFk (xI k k) d,fun b x _ K=>K (.exit 2) (zL b yRe (((),(x.1,()),(x.2.1,()),(Mj x,()),()),(x.2.2.2,())))⟩
def yZ6:zE:=sp [sO 3 0] [oA (.int .u8)]
def vHd (f:qQd)(d:yRe.den):=f (pi d) (Rd d) (Fd d) d.2.1
def yEp:zT:=⟨[yRe],[(.exit 0,yZ6)],AC,fun k d=>vHd (BO k k) d,fun b x _ K=>K (.exit 0) (zL b yZ6 (((),()),(x,())))⟩
def qXz:zU:=⟨[],[(6,yBa),(3,yEp)],[],true⟩
theorem abV:md 31 (zQ (wd f112 0) 0) yBa:=lp (A:=qXz) yBa (fun d=>(pi d,Rd d,Fd d,d.2.1)) vFk xI PB e0 zF
theorem vZ9:md 31 (wd f112 0) yEp:=lp (A:=qXz) yEp (fun d=>d.2.1) vHd BO ER e0 (loops1 abV)
theorem Si:gc (zI 112 [.c (.dat false .i)] (.c (.own (.int .u8))) (fun k d=>xJ k d.1) (fun x=>(x,())) (fun d=>d.1)):=fA f112 qXz e0 (loops1 vZ9)
theorem yFx:gc (zI 121 [.c (.dat false .i)] (.c (.own (.int .u8))) (fun k d=>PD k d.1) (fun x=>(x,())) (fun d=>d.1)):=fA f121 n0 (e1 Si) zF
def vBn:zE:=⟨[sO 3 0,(6,.c (.dat false (.sl .i))),sI 7,sI 8],[oA (.int .u8)],[(3,none,(.int .u8),false)]⟩
def yUh (f:yDt)(d:vBn.den):=f (pi d) (Rd d) (Fd d) d.2.1
def qP1:zT:=⟨[vBn],[(.exit 0,yZ6)],AC,fun k d=>yUh (EU k k) d,fun b x _ K=>K (.exit 0) (zL b yZ6 (((),()),(x,())))⟩
def yQk:zU:=⟨[],[(3,qP1)],[],true⟩
theorem abX:md 18 (wd f67 0) qP1:=lp (A:=yQk) qP1 (fun d=>d.2.1) yUh EU EV (e1 yFx) zF
theorem qVv:gc (zI 67 [.c (.dat false (.sl .i))] (.c (.own (.int .u8))) (fun k d=>KH k d.1) (fun x=>(x,())) (fun d=>d.1)):=fA f67 yQk (e1 yFx) (loops1 abX)
def yJ9:zE:=sp [sP 1 0,sP 3 1,sO 4 2,(39,.c (.dat true qQ)),sI 40,sI 41] [oB iI,oB wC,oA (.sl .i)]
def yXp:zE:=sp [sP 1 0,sP 3 1,sO 4 2] [oB iI,oB wC,oA (.sl .i)]
def yZx (f:qV7)(d:yJ9.den):=f (Fd d) (ce d) (ci d) (qO d.2.1) (jM (Mj d)) (li d)
def Sj:zT:=⟨[yJ9],[(.exit 0,yXp)],qN8,fun k d=>yZx (BP k k) d,fun b x _ K=>K (.exit 0) (zL b yXp (((),(),(),()),((vP x.1 ()),(jI x.2.1 ()),x.2.2,())))⟩
def yIj:zE:=sp [sP 1 0,sO 4 1,(79,.c (.dat true zG)),sI 80,sI 81] [oB iI,oA (.sl .i)]
def yWw:zE:=sp [sP 1 0,sO 4 1] [oB iI,oA (.sl .i)]
def yIn (f:qZ0)(d:yIj.den):=f (Rd d) (Fd d) (ce d) (qO d.2.1) (Mj d)
def Sk:zT:=⟨[yIj],[(.exit 2,yWw)],qVg,fun k d=>yIn (BQ k k) d,fun b x _ K=>K (.exit 2) (zL b yWw (((),(),()),((vP x.1 ()),x.2,())))⟩
def yAm:zU:=⟨[],[(4,Sj),(14,Sk)],[],true⟩
theorem vLq:md 110 (wd f27 0) Sj:=lp (A:=yAm) Sj (fun d=>((qO d.2.1),(jM (Mj d)),li d)) yZx BP EW (e2 qPm qVv) zF
theorem vK3:md 110 (wd f27 1) Sk:=lp (A:=yAm) Sk (fun d=>((qO d.2.1),Mj d)) yIn BQ EX (e2 qPm qVv) zF
theorem C5:gc (zI 27 [.agg Av] (.c (.own (.int .u8))) (fun k d=>lD k (qO d)) (fun x=>(x,())) (fun d=>d.1)):=fA f27 yAm (e2 qPm qVv) (mc (n:=2) (by kernel_rfl) fun i hi=>match i,hi with|0,_=>⟨Sj,by kernel_rfl,vLq⟩|1,_=>⟨Sk,by kernel_rfl,vK3⟩|i+2,hi=>absurd hi (by omega))
theorem vAt:gc (zI 118 [.c (.dat false (.int .u8))] (.tup [(false,[.own (.int .u8)]),(false,[.bool])]) (fun k d=>KE k d.1) (fun x=>(x.1,x.2,())) (fun d=>(d.1,d.2.1))):=fA f118 n0 e0 zF
theorem abZ:gc (zI 119 [.ptr Nu] (.c .i) (fun k d=>Q3 k (jC d)) (fun x=>(x,())) (fun d=>d.1)):=fA f119 n0 e0 zF
theorem vSq:gc (yB 120 [.ptr true nu,.c (.p .i)] (.c .i) [lf] 0 (fun k d=>Hc k (jC d) (Pi d)) (fun x=>(x.1,(wY x.2 ()))) (fun d=>(d.1,(pE d)))):=fX f120 n0 1 (e3 F3q F4q F5q) zF
theorem yPl:gc (yB 65 [.ptr true nu,.c (.p .i),.c (.p .i),.c (.p (.dat false (.int .u8)))] (.c .i) [lf] 0 (fun k d=>yo k (jC d) (Pi d) (ul d) (co d)) (fun x=>(x.1,(wY x.2 ()))) (fun d=>(d.1,(pE d)))):=fX f65 n0 1 (e6 Si vAt abZ vSq F6q F7q) zF
theorem yQ4:gc (BG 26 [.ptr true nu,.c (.p (.dat false (.int .u8)))] (.tup [(false,[.link 1]),(false,[.fro (.int .u8)]),(false,[.fro (.sl (.int .u8))]),(false,yF)]) [lf,Sl] 1 (.tup [(false,[.nilp]),(false,[.own (.int .u8)]),(false,[.own (.sl (.int .u8))]),(false,yF)]) [lf] 0 (fun k d=>qYg k (jC d) (Pi d)) (fun x=>((),x.1,x.2.1,Mj x,(wY (li x) ((),(jI x.2.2.2.2 ()))))) (fun x=>((),x.1,x.2.1,Mj x,(wY x.2.2.2 ()))) (fun d=>(d.2.1,Mj d,li d,(Sm d),(yFr d))) (fun d=>(d.2.1,Mj d,li d,(Sm d)))):=fN f26 n0 1 (e2 qPx yPl) zF
theorem vWr:gc (zI 123 [.c (.dat true (.int .u8))] (.tup [(false,[.own .i]),(false,[.fro (.int .u8)]),(false,[.bool])]) (fun k d=>Q4 k d.1) (fun x=>(x.1,x.2.1,x.2.2,())) (fun d=>(d.1,d.2.1,Mj d))):=fA f123 n0 (e1 Sd) zF
theorem IT:gc (yB 72 [.ptr true IS] (.c (.own .i)) [[.fro (.int .u8),.bool]] 0 (fun k d=>yr k (d.1,d.2.1)) (fun x=>(x.1,x.2.1,x.2.2,())) (fun d=>(d.1,(d.2.1,Mj d)))):=fX f72 n0 1 (e1 vWr) zF
theorem qX8:gc (yB 70 [.ptr true IS,.c (.p .i)] (.c (.own .i)) [[.fro (.int .u8),.bool]] 0 (fun k d=>uX k (d.1,d.2.1) (Mj d)) (fun x=>(x.1,x.2.1,x.2.2,())) (fun d=>(d.1,(d.2.1,Mj d)))):=fX f70 n0 1 (e1 IT) zF
def vCq:zE:=⟨[sP 0 0,sI 1,sO 5 1],[oB pF,oA (.sl .i)],[(5,none,(.sl .i),false)]⟩
def yQq:zE:=sp [sP 0 0,sO 5 1] [oB pF,oA (.sl .i)]
def yQ7 (f:qOs)(d:vCq.den):=f (pi d) (ms d,qr d) (Mj d)
def yEb:zT:=⟨[vCq],[(.exit 0,yQq)],qT4,fun k d=>yQ7 (Ho k k) d,fun b x _ K=>K (.exit 0) (zL b yQq (((),(),()),((x.1.1,x.1.2,()),x.2,())))⟩
def vCf:zU:=⟨[],[(2,yEb)],[],true⟩
theorem vXq:zS prog 1000 1 23 (wd f71 0) yEb:=lp (A:=vCf) yEb (fun d=>((ms d,qr d),Mj d)) yQ7 Ho Hq (e1 IT) zF
theorem qSz:gc (yB 71 [.ptr true IS,.c (.p .i)] (.c (.own (.sl .i))) [[.fro (.int .u8),.bool]] 0 (fun k d=>Hm k (d.1,d.2.1) (Mj d)) (fun x=>(x.1,x.2.1,x.2.2,())) (fun d=>(d.1,(d.2.1,Mj d)))):=fX f71 vCf 1 (e1 IT) (loops1 vXq)
theorem qMz:gc (zI 73 [.c (.dat false (.int .u8)),.c (.dat false (.int .u8))] (.c .bool) (fun k d=>vHb k d.1 d.2.1) (fun x=>(x,())) (fun d=>d.1)):=fA f73 n0 e0 zF
def yHt:zE:=⟨[(0,.c (.dat true (.int .u8))),sP 2 0,sP 4 1,sO 5 2,sP 6 3,sI 7],[oB jN,oB pF,oA .i,oB Sn,oA qQ],[(6,some 1,qQ,false)]⟩
def yYc:zE:=sp [(0,.c (.dat true (.int .u8))),sP 2 0,sP 4 1,sO 5 2,sP 6 3] [oB jN,oB pF,oA .i,oB Sn,oA qQ]
def vAu (f:yAp)(d:yHt.den):=f (wl d) (ci d) (ms d,qr d,Or d) (Do d,pm d) (li d) (d.2.2.2.2.1.1,wr d,d.2.2.2.2.1.2.2.1) (ge d)
def So:zT:=⟨[yHt],[(.exit 0,yYc)],yEh,fun k d=>vAu (Cr k k) d,fun b x _ K=>K (.exit 0) (zL b yYc (((x.1,()),(),(),(),(),()),((ms x,qr x,x.2.1.2.2,()),(Do x,x.2.2.1.2,()),li x,(x.2.2.2.2.1.1,wr x,x.2.2.2.2.1.2.2,()),Fr x,())))⟩
def vA1:zE:=⟨[(0,.c (.dat true (.int .u8))),sP 2 0,sP 4 1,sP 6 2,sI 9],[oB jN,oB pF,oB qRi,oA qQ,oA (.sl .i),oA .i,oA (.sl .i),oA .i,oA (.sl .i),oA zG],[(6,some 7,zG,false)]⟩
def vHv:zE:=sp [(0,.c (.dat true (.int .u8))),sP 2 0,sP 4 1,sP 6 2] [oB jN,oB pF,oB qRi,oA qQ,oA (.sl .i),oA .i,oA (.sl .i),oA .i,oA (.sl .i),oA zG]
def vHc (f:yB1)(d:vA1.den):=f (wl d) (ce d) (ms d,qr d,Or d) (Do d,pm d) (pp d,In d,ip d) (ii d) (ge d) (If d) (rg d) (dl d) (Fn d) (Pi d)
def Sp:zT:=⟨[vA1],[(.exit 2,vHv)],yEv,fun k d=>vHc (Cu k k) d,fun b x _ K=>K (.exit 2) (zL b vHv (((x.1,()),(),(),(),()),((ms x,qr x,x.2.1.2.2,()),(Do x,x.2.2.1.2,()),(pp x,In x,x.2.2.2.1.2.2,()),ii x,ge x,If x,rg x,dl x,Fn x,x.2.2.2.2.2.2.2.2.2.2,())))⟩
def yDf:zU:=⟨[],[(5,So),(15,Sp)],[],true⟩
theorem ab3:md 146 (wd f29 0) So:=lp (A:=yDf) So (fun d=>(wl d,(ms d,qr d,Or d),(Do d,pm d),li d,(d.2.2.2.2.1.1,wr d,d.2.2.2.2.1.2.2.1),ge d)) vAu Cr Ht (e5 qX8 qSz IT C5 qMz) zF
theorem vQd:md 146 (wd f29 1) Sp:=lp (A:=yDf) Sp (fun d=>(wl d,(ms d,qr d,Or d),(Do d,pm d),(pp d,In d,ip d),ii d,ge d,If d,rg d,dl d,Fn d,Pi d)) vHc Cu Hv (e5 qX8 qSz IT C5 qMz) zF
theorem vCk:gc (zI 29 [.c (.dat true (.int .u8))] (.tup [(true,Au),(false,[.bool])]) (fun k d=>Hy k d.1) (fun x=>(vP x.1 (x.2,()))) (fun d=>((qO d),ul d))):=fA f29 yDf (e5 qX8 qSz IT C5 qMz) (mc (n:=2) (by kernel_rfl) fun i hi=>match i,hi with|0,_=>⟨So,by kernel_rfl,ab3⟩|1,_=>⟨Sp,by kernel_rfl,vQd⟩|i+2,hi=>absurd hi (by omega))
theorem Sq:gc (zI 109 [.c .i] (.c .i) (fun k d=>uA k d.1) (fun x=>(x,())) (fun d=>d.1)):=fA f109 n0 e0 zF
theorem yEs:gc (zI 48 [.c (.dat false (.int .u8))] (.tup [(true,pG),(false,yF)]) (fun k d=>BN k d.1) (fun x=>(gh x.1 (x.2,()))) (fun d=>((vO d),rg d))):=fA f48 n0 (e2 Sd Sq) zF
theorem vAr:gc (zI 31 [.c (.dat false (.int .u8))] (.tup [(true,yDs),(false,yF)]) (fun k d=>RX k d.1) (fun x=>(Db x.1 (x.2,()))) (fun d=>((kp d),dl d))):=fA f31 n0 (e2 Sd yEs) zF
theorem ab8:gc (zI 143 [.c .i] (.c .bool) (fun k d=>QY k d.1) (fun x=>(x,())) (fun d=>d.1)):=fA f143 n0 e0 zF
theorem vT2:gc (zI 144 [.c .i] (.c .bool) (fun k d=>Mh k d.1) (fun x=>(x,())) (fun d=>d.1)):=fA f144 n0 e0 zF
def yHs:zE:=sp [(13,.c (.dat true .i)),sI 14,sI 15] []
def yT1:zE:=sp [(2,.c .bool)] []
def yH1 (f:qOd)(d:yHs.den):=f (wl d) (pi d) (Rd d)
def yBm:zT:=⟨[yHs],[(.exit 0,yZp),(.ret,yT1)],(Unit⊕Bool),fun k d=>yH1 (mw k k) d,fun b x _ K=>match x with|.inl x=>K (.exit 0) (zL b yZp ((),()))|.inr x=>K .ret (zL b yT1 (((x,()),()),()))⟩
def vBl:zU:=⟨[],[(5,yBm)],[],true⟩
theorem ab9:md 22 (wd f145 0) yBm:=lp (A:=vBl) yBm (fun d=>match d with|.inl d=>.inl ()|.inr d=>.inr (wl d)) yH1 mw lE (e1 Sq) zF
theorem yGw:gc (zI 145 [.agg vM] (.c .bool) (fun k d=>kZ k (vO d)) (fun x=>(x,())) (fun d=>d.1)):=fA f145 vBl (e1 Sq) (loops1 ab9)
theorem vUy:gc (zI 81 [.agg ig,.agg nx,.agg C7] (.c .i) (fun k d=>yk k (qZ d) (gM d) (qNt d)) (fun x=>(x,())) (fun d=>d.1)):=fA f81 n0 (e3 ab8 vT2 yGw) zF
theorem yJg:gc (zI 200 [.agg vM,.ptr [.i]] (.c .bool) (fun k d=>(mz (ZK k) d)) (fun x=>(x,())) (fun d=>d.1)):=fA f200 Pa e0 zF
def yXd:zE:=⟨[(1,.c (.lit (.fn 200 [1001000]))),sO 5 1,(8,.c (.dat false zG)),sI 9,sI 10],[.robox [.i],oA zG],[(5,none,zG,false)]⟩
def yOm:zE:=sp [sO 5 0] [oA zG]
def yLb (f:qS4)(d:yXd.den):=f (Rd d) (Fd d) (ce d) (ms d) (Mj d)
def yDz:zT:=⟨[yXd],[(.exit 0,yOm)],qZc,fun k d=>yLb (LY k k) d,fun b x _ K=>K (.exit 0) (zL b yOm (((),()),(x,())))⟩
def yKw:zU:=⟨[],[(3,yDz)],[],false⟩
theorem vLv:md 23 (wd f199 0) yDz:=lp (A:=yKw) yDz (fun d=>d.2.1) yLb LY GI (e1 yJg) zF
theorem vN5:gc (zI 199 [.c (.dat false zG),.fn 200 [[.i]]] (.c (.own zG)) (fun k d=>ZJ k d.1 d.2.1) (fun x=>(x,())) (fun d=>d.1)):=fA f199 yKw (e1 yJg) (loops1 vLv)
theorem Nw:gc (zI 146 [.c (.dat false zG),.c .i] (.c (.own zG)) (fun k d=>LX k d.1 d.2.1) (fun x=>(x,())) (fun d=>d.1)):=fA f146 Pa (e1 vN5) zF
theorem ace:gc (yB 83 [.ptr true [.p .i,.p (.nil),.p .i,.p .i,.p .i,.p .i,.p (.nil),.p (.nil),.p (.nil),.p (.nil),.p (.nil),.p (.nil),.p (.nil),.p (.nil),.p .i,.p .bool,.p .i,.p (.nil)],.c (.p .i),.c (.p (.dat false .i))] (.tup []) [[.i,.own wQ,.i,.i,.i,.i,.own qQ,.mat,.own .i,.mat,.own .i,.mat,.own zG,.own .i,.i,.bool,.i,.own yE]] 0 (fun k d=>yZi k (d.1,(Sr d (d.2.2.2.2.2.2.2.2.2.2.2.2.2.2.1,lm d,d.2.2.2.2.2.2.2.2.2.2.2.2.2.2.2.2.1))) (Id d) (be d)) (fun x=>(jR x ())) (fun d=>(jQ d))):=fX f83 n0 1 e0 zF
theorem acg:gc (zI 82 [.agg nx,.c .i] (.c (.own yE)) (fun k d=>RT k (qO d) (ul d)) (fun x=>(x,())) (fun d=>d.1)):=fA f82 n0 (e2 Nw ace) zF
theorem yVc:gc (yB 83 [.ptr true Aw,.c (.p .i),.c (.p (.dat false .i))] (.tup []) [lH] 0 (fun k d=>RU k (lI d) (Id d) (be d)) (fun x=>(jR x ())) (fun d=>(jQ d))):=fX f83 n0 1 e0 zF
theorem iJ:gc (zI 74 [.c .i,.c .i,.c .i] (.c .bool) (fun k d=>vH k d.1 d.2.1 (Mj d)) (fun x=>(x,())) (fun d=>d.1)):=fA f74 n0 e0 zF
theorem ach:gc (zI 275 [.agg ig,.c .i] (.c .bool) (fun k d=>Mb k (qZ d) (ge d)) (fun x=>(x,())) (fun d=>d.1)):=fA f275 n0 e0 zF
theorem vRm:gc (zI 244 [.agg ig,.c .i,.agg vM] (.c .bool) (fun k d=>QT k (qZ d) (ge d) (yDq d)) (fun x=>(x,())) (fun d=>d.1)):=fA f244 n0 (e1 ach) zF
theorem qNx:gc (zI 206 [.agg ig,.c .i,.c .i] (.c .i) (fun k d=>Ch k (qZ d) (ge d) (If d)) (fun x=>(x,())) (fun d=>d.1)):=fA f206 n0 e0 zF
theorem yYl:gc (zI 201 [.agg ig,.c .i,.agg vM] (.c .i) (fun k d=>G2 k (qZ d) (ge d) (yDq d)) (fun x=>(x,())) (fun d=>d.1)):=fA f201 n0 (e2 vRm qNx) zF
theorem ack:gc (zI 273 [.c .i] (.c .bool) (fun k d=>Qu k d.1) (fun x=>(x,())) (fun d=>d.1)):=fA f273 n0 e0 zF
theorem vJi:gc (zI 240 [.c .i,.c .i] (.c .bool) (fun k d=>Qt k d.1 d.2.1) (fun x=>(x,())) (fun d=>d.1)):=fA f240 n0 (e1 ack) zF
theorem yI1:gc (zI 241 [.c .i] (.c .bool) (fun k d=>Qw k d.1) (fun x=>(x,())) (fun d=>d.1)):=fA f241 n0 e0 zF
def ySx:zE:=sp [(0,.c (.dat false .i)),sI 1,sI 6,sI 7,sI 8] []
def yYt:zE:=sp [(0,.c (.dat false .i)),sI 1,sI 6,sI 7] []
def yPa (f:qV8)(d:ySx.den):=f (wl d) (pi d) (Rd d) (Fd d) (ce d)
def qT9:zT:=⟨[ySx],[(.exit 0,yYt)],yBy,fun k d=>yPa (LJ k k) d,fun b x _ K=>K (.exit 0) (zL b yYt (((x.1,()),(x.2.1,()),(Mj x,()),(x.2.2.2,()),()),()))⟩
def yW2:zU:=⟨[],[(3,qT9)],[],true⟩
theorem acn:md 54 (wd f196 0) qT9:=lp (A:=yW2) qT9 (fun d=>(wl d,pi d,Rd d,Fd d)) yPa LJ Qv (e2 vJi yI1) zF
theorem vB7:gc (zI 196 [.c (.dat false .i),.c .i] (.tup [(false,yF),(false,[.bool])]) (fun k d=>Gh k d.1 d.2.1) (fun x=>(x.1,x.2,())) (fun d=>(d.1,d.2.1))):=fA f196 yW2 (e2 vJi yI1) (loops1 acn)
theorem Nx:gc (xC 246 false .i (.own .i) qi):=fC f246 Pa e0 zF
theorem vRk (A X:Option Addr)(n c vc:Nat)(w w':World)(rv:Value)(hr:(Builtin.append_ #[55,55] 55 #[.slice A n c,.slice X 1 vc]).run prog w=.ok rv w'):
    Calls prog 245 #[.slice A n c,.int .i64 n,.slice X 1 vc] w fun e pf=>e=.returned rv∧pf=w':=by
  have t0:prog.underlying 55=some (.slice 2):=by kernel_rfl
  have t3:prog.underlying 3=some (.int .i64):=by kernel_rfl
  have z0:∀w,(Go.sizeOf 2).run prog w=.ok 1 w:=fun w=>by kernel_rfl
  have u0:=run_underlying t0;have u3:=run_underlying t3
  go_enter Proofs.Tryz.func245,Proofs.Tryz.ntmps245
  go_wp2_with (at_builtin;refine Lib.wpList_append_run _ rfl _ _ _ _ rfl _ _ rfl rfl _ _ hr ?_)
  all_goals (go_ret;exact⟨rfl,rfl⟩)
theorem acp:Pn prog 245 55 3 1 where
  ends:=vRk
  grow B off n c i X vo vc N G w w1 w2 w3 hi hnc aY Mn hG hz hA hB:=by
    simp only[Nat.mul_one] at hA hB;have t0:prog.underlying 55=some (.slice 2):=by kernel_rfl
    have t3:prog.underlying 3=some (.int .i64):=by kernel_rfl
    have z0:∀w,(Go.sizeOf 2).run prog w=.ok 1 w:=fun w=>by kernel_rfl
    have u0:=run_underlying t0;have u3:=run_underlying t3;have mixed:prog.follows .mixedOrders=true:=gO;have hz2:¬((i:Int)=(n:Int)):=by omega
    have su:IntKind.i64.wrap ((i:Int)+1)=(i:Int)+1:=by rw[IntKind.wrap_i64];omega
    have j6:(0:Int)≤(i:Int)+1:=by omega
    have gz:i≤n:=by omega
    have g9:((i:Int)+1).toNat=i+1:=by omega
    have hci:¬(c=i):=by omega
    have hz3:(c:Int)<(n:Int)+1:=by omega
    have hb3:(i:Int)≤(n:Int):=by omega
    have hGi:¬(G=i):=by omega
    have acq:¬(G=i+1):=by omega
    go_enter Proofs.Tryz.func245,Proofs.Tryz.ntmps245
    go_wp2_with (first
      |(at_builtin;refine Lib.wpList_append_run _ rfl _ _ _ _ rfl _ _ rfl rfl _ _ hz ?_)
      |(at_builtin;refine Pr _ rfl _ _ 55 55 rfl _ _ rfl rfl (hA _) ?_))
    go_region_law_o (refine Ps rfl _ _ 55 55 rfl (.slice (some ⟨N,(i+1),none⟩) (n+1-(i+1)) (G-(i+1))) (.slice (some ⟨B,off+i,none⟩) (n-i) (c-i)) (by simp[Act.eval,Act.put]) (by simp[Act.eval,Act.put]) (hB (G-(i+1)) (c-i)) ?_)
    go_wp2
    go_ret
    exact⟨rfl,rfl⟩
  shift B off n c i X vo vc w w1 w2 hi aY Mn sm hA hB:=by
    simp only[Nat.mul_one] at hA hB;have t0:prog.underlying 55=some (.slice 2):=by kernel_rfl
    have t3:prog.underlying 3=some (.int .i64):=by kernel_rfl
    have z0:∀w,(Go.sizeOf 2).run prog w=.ok 1 w:=fun w=>by kernel_rfl
    have u0:=run_underlying t0;have u3:=run_underlying t3;have mixed:prog.follows .mixedOrders=true:=gO;have hz2:¬((i:Int)=(n:Int)):=by omega
    have su:IntKind.i64.wrap ((i:Int)+1)=(i:Int)+1:=by rw[IntKind.wrap_i64];omega
    have j6:(0:Int)≤(i:Int)+1:=by omega
    have gz:i≤n:=by omega
    have g9:((i:Int)+1).toNat=i+1:=by omega
    have hci:¬(c=i):=by omega
    have vl:=fun lb cb=>yF5 (P:=prog) (fo:=276) (tb:=4) (e:=2) (size:=1) Proofs.Tryz.func276 (by kernel_rfl) (by kernel_rfl) (by kernel_rfl) (by kernel_rfl) t0 z0 sm vo (off+(i+1)) vc lb cb
    have Rs:¬(c=i+1):=by omega
    have hb3:(i:Int)≤(n:Int)+1:=by omega
    go_enter Proofs.Tryz.func245,Proofs.Tryz.ntmps245
    go_wp2_with (simp only[vl])
    go_region_law_o (refine Ps rfl _ _ 55 55 rfl (.slice (some ⟨B,off+(i+1),none⟩) (n-i) (c-(i+1))) (.slice (some ⟨B,off+i,none⟩) (n+1-i) (c-i)) (by simp[Act.eval,Act.put]) (by simp[Act.eval,Act.put]) (hA _ _) ?_)
    go_wp2_with (at_builtin;refine Pr _ rfl _ _ 55 55 rfl _ _ rfl rfl (hB _) ?_)
    go_ret
    exact⟨rfl,rfl⟩
def vVd:Nat×nQ:=(245,Xz .i 8)
theorem vX4:gc vVd:=yFf (e:=2) (fn:=f245) acp
theorem yRm:gc (zI 202 [.c (.dat true .i),.c .i] (.tup [(false,[.fro .i]),(false,yF)]) (fun k d=>Gj k d.1 d.2.1) (fun x=>(x.1,x.2,())) (fun d=>(d.1,d.2.1))):=fA f202 n0 (e3 vB7 Nx vX4) zF
theorem yYe:gc (zI 160 [.agg vM,.ptr [.i]] (.c .bool) (fun k d=>(mz (Y8 k) d)) (fun x=>(x,())) (fun d=>d.1)):=fA f160 Pa e0 zF
def vD4:zE:=sp [(0,.c (.dat false zG)),(1,.c (.lit (.fn 160 [1001000]))),sI 7,sI 8] [.robox [.i]]
def yU2 (f:yCk)(d:vD4.den):=f (wl d) (Rd d) (Fd d) (ms d)
def qZy:zT:=⟨[vD4],[(.exit 0,yZp),(.ret,yQb)],(Unit⊕Int),fun k d=>yU2 (F6 k k) d,fun b x _ K=>match x with|.inl x=>K (.exit 0) (zL b yZp ((),()))|.inr x=>K .ret (zL b yQb (((x,()),()),()))⟩
def vHp:zU:=⟨[],[(2,qZy)],[],false⟩
theorem vMs:md 19 (wd f159 0) qZy:=lp (A:=vHp) qZy (fun d=>match d with|.inl d=>.inl ()|.inr d=>.inr (wl d)) yU2 F6 F7 (e1 yYe) zF
theorem acu:gc (zI 159 [.c (.dat false zG),.fn 160 [[.i]]] (.c .i) (fun k d=>Y9 k d.1 d.2.1) (fun x=>(x,())) (fun d=>d.1)):=fA f159 vHp (e1 yYe) (loops1 vMs)
theorem Ax:gc (zI 87 [.c (.dat false zG),.c .i] (.c .i) (fun k d=>pt k d.1 d.2.1) (fun x=>(x,())) (fun d=>d.1)):=fA f87 Pa (e1 acu) zF
theorem vQb:gc (zI 274 [.c .i] (.c .bool) (fun k d=>Qr k d.1) (fun x=>(x,())) (fun d=>d.1)):=fA f274 Pa e0 zF
theorem acy:gc (zI 243 [.c .i,.c .i] (.c .i) (fun k d=>LB k d.1 d.2.1) (fun x=>(x,())) (fun d=>d.1)):=fA f243 Pa (e1 vQb) zF
def yP7:zE:=sp [sI 3,(6,.c (.dat false .i)),sI 7,sI 8] []
def yT3:zE:=sp [sI 3] []
def yIc:zE:=sp [sI 2] []
def yNe (f:qV9)(d:yP7.den):=f (wl d) (pi d) (Rd d) (Fd d)
def qS1:zT:=⟨[yP7],[(.exit 0,yT3),(.ret,yIc)],(Int⊕Int),fun k d=>yNe (LA k k) d,fun b x _ K=>match x with|.inl x=>K (.exit 0) (zL b yT3 (((x,()),()),()))|.inr x=>K .ret (zL b yIc (((x,()),()),()))⟩
def yIt:zU:=⟨[],[(3,qS1)],[],false⟩
theorem acz:md 18 (wd f242 0) qS1:=lp (A:=yIt) qS1 (fun d=>match d with|.inl d=>.inl (wl d)|.inr d=>.inr (wl d)) yNe LA yYy e0 zF
theorem acA:gc (zI 242 [.c (.dat false .i)] (.c .i) (fun k d=>Qq k d.1) (fun x=>(x,())) (fun d=>d.1)):=fA f242 yIt e0 (loops1 acz)
theorem IV:gc (zI 198 [.agg vM,.agg vM] (.c .i) (fun k d=>(IU (F8 k) d)) (fun x=>(x,())) (fun d=>d.1)):=fA f198 Pa (e2 acy acA) zF
theorem Ss:gc (xC 248 false zG (.own zG) xS):=fC f248 Pa e0 zF
theorem vKe (A X:Option Addr)(n c vc:Nat)(w w':World)(rv:Value)(hr:(Builtin.append_ #[58,58] 58 #[.slice A n c,.slice X 1 vc]).run prog w=.ok rv w'):
    Calls prog 247 #[.slice A n c,.int .i64 n,.slice X 1 vc] w fun e pf=>e=.returned rv∧pf=w':=by
  have t0:prog.underlying 58=some (.slice 141):=by kernel_rfl
  have t3:prog.underlying 3=some (.int .i64):=by kernel_rfl
  have z0:∀w,(Go.sizeOf 141).run prog w=.ok 7 w:=fun w=>by kernel_rfl
  have u0:=run_underlying t0;have u3:=run_underlying t3
  go_enter Proofs.Tryz.func247,Proofs.Tryz.ntmps247
  go_wp2_with (at_builtin;refine Lib.wpList_append_run _ rfl _ _ _ _ rfl _ _ rfl rfl _ _ hr ?_)
  all_goals (go_ret;exact⟨rfl,rfl⟩)
theorem acC:Pn prog 247 58 3 7 where
  ends:=vKe
  grow B off n c i X vo vc N G w w1 w2 w3 hi hnc aY Mn hG hz hA hB:=by
    have t0:prog.underlying 58=some (.slice 141):=by kernel_rfl
    have t3:prog.underlying 3=some (.int .i64):=by kernel_rfl
    have z0:∀w,(Go.sizeOf 141).run prog w=.ok 7 w:=fun w=>by kernel_rfl
    have u0:=run_underlying t0;have u3:=run_underlying t3;have mixed:prog.follows .mixedOrders=true:=gO;have hz2:¬((i:Int)=(n:Int)):=by omega
    have su:IntKind.i64.wrap ((i:Int)+1)=(i:Int)+1:=by rw[IntKind.wrap_i64];omega
    have j6:(0:Int)≤(i:Int)+1:=by omega
    have gz:i≤n:=by omega
    have g9:((i:Int)+1).toNat=i+1:=by omega
    have hci:¬(c=i):=by omega
    have hz3:(c:Int)<(n:Int)+1:=by omega
    have hb3:(i:Int)≤(n:Int):=by omega
    have hGi:¬(G=i):=by omega
    have acq:¬(G=i+1):=by omega
    go_enter Proofs.Tryz.func247,Proofs.Tryz.ntmps247
    go_wp2_with (first
      |(at_builtin;refine Lib.wpList_append_run _ rfl _ _ _ _ rfl _ _ rfl rfl _ _ hz ?_)
      |(at_builtin;refine Pr _ rfl _ _ 58 58 rfl _ _ rfl rfl (hA _) ?_))
    go_region_law_o (refine Ps rfl _ _ 58 58 rfl (.slice (some ⟨N,(i+1)*7,none⟩) (n+1-(i+1)) (G-(i+1))) (.slice (some ⟨B,off+i*7,none⟩) (n-i) (c-i)) (by simp[Act.eval,Act.put]) (by simp[Act.eval,Act.put]) (hB (G-(i+1)) (c-i)) ?_)
    go_wp2
    go_ret
    exact⟨rfl,rfl⟩
  shift B off n c i X vo vc w w1 w2 hi aY Mn sm hA hB:=by
    have t0:prog.underlying 58=some (.slice 141):=by kernel_rfl
    have t3:prog.underlying 3=some (.int .i64):=by kernel_rfl
    have z0:∀w,(Go.sizeOf 141).run prog w=.ok 7 w:=fun w=>by kernel_rfl
    have u0:=run_underlying t0;have u3:=run_underlying t3;have mixed:prog.follows .mixedOrders=true:=gO;have hz2:¬((i:Int)=(n:Int)):=by omega
    have su:IntKind.i64.wrap ((i:Int)+1)=(i:Int)+1:=by rw[IntKind.wrap_i64];omega
    have j6:(0:Int)≤(i:Int)+1:=by omega
    have gz:i≤n:=by omega
    have g9:((i:Int)+1).toNat=i+1:=by omega
    have hci:¬(c=i):=by omega
    have vl:=fun lb cb=>yF5 (P:=prog) (fo:=278) (tb:=4) (e:=141) (size:=7) Proofs.Tryz.func278 (by kernel_rfl) (by kernel_rfl) (by kernel_rfl) (by kernel_rfl) t0 z0 sm vo (off+(i+1)*7) vc lb cb
    have Rs:¬(c=i+1):=by omega
    have hb3:(i:Int)≤(n:Int)+1:=by omega
    go_enter Proofs.Tryz.func247,Proofs.Tryz.ntmps247
    go_wp2_with (simp only[vl])
    go_region_law_o (refine Ps rfl _ _ 58 58 rfl (.slice (some ⟨B,off+(i+1)*7,none⟩) (n-i) (c-(i+1))) (.slice (some ⟨B,off+i*7,none⟩) (n+1-i) (c-i)) (by simp[Act.eval,Act.put]) (by simp[Act.eval,Act.put]) (hA _ _) ?_)
    go_wp2_with (at_builtin;refine Pr _ rfl _ _ 58 58 rfl _ _ rfl rfl (hB _) ?_)
    go_ret
    exact⟨rfl,rfl⟩
def acD:Nat×nQ:=(247,Xz zG 56)
theorem Su:gc acD:=yFf (e:=141) (fn:=f247) acC
def vG6:zE:=sp [(0,.c (.dat true zG)),sP 3 0,sI 6] [oB vY]
def yM5 (f:qUh)(d:vG6.den):=f (wl d) (Rd d) (vO d.2.1)
def qYm:zT:=⟨[vG6],[(.exit 1,vG6)],yBj,fun k d=>yM5 (LF k k) d,fun b x _ K=>K (.exit 1) (zL b vG6 (((x.1,()),(),(x.2.1,()),()),((gh x.2.2 ()),())))⟩
def yQ2:zU:=⟨[],[(6,qYm)],[],true⟩
theorem vVw:md 40 (wd f203 0) qYm:=lp (A:=yQ2) qYm (fun d=>(wl d,Rd d,(vO d.2.1))) yM5 LF Gc (e4 Ax IV Ss Su) zF
theorem Sw:gc (zI 203 [.c (.dat true zG),.agg vM] (.tup [(false,[.fro zG]),(false,yF)]) (fun k d=>xT k d.1 (Sv d)) (fun x=>(x.1,x.2,())) (fun d=>(d.1,d.2.1))):=fA f203 yQ2 (e4 Ax IV Ss Su) (loops1 vVw)
theorem acE:gc (yB 147 [.ptr true Ay,.agg Ny] (.c .i) [lH] 0 (fun k d=>QU k (jQ d) (yXv d)) (fun x=>(x.1,(jR x.2 ()))) (fun d=>(d.1,(ko d)))):=fX f147 n0 1 (e4 iJ yYl yRm Sw) zF
theorem yUg:gc (zI 204 [.ptr qXv,.c .i] (.tup [(true,pG),(false,yF)]) (fun k d=>yEn k (jQ d) (Id d)) (fun x=>(gh x.1 (x.2,()))) (fun d=>((vO d),rg d))):=fA f204 n0 (e1 Ax) zF
theorem vJj:gc (yB 249 [.c (.own zG),.c (.p .i),.c (.p .i)] (.c (.own zG)) [] 0 (fun k d=>Ly k d.1 d.2.1 (Mj d)) (fun x=>(x,())) (fun d=>d.1)):=fX f249 Pa 0 e0 zF
theorem rp:gc (zI 205 [.c (.dat true zG),.c .i] (.tup [(false,[.fro zG]),(true,pG),(false,yF)]) (fun k d=>qo k d.1 d.2.1) (fun x=>(Sx x ())) (fun d=>(Sy d))):=fA f205 Pa (e3 Ax Ss vJj) zF
theorem vC1:gc (yB 83 [.ptr true Ay,.c (.p .i),.c (.p (.dat false .i))] (.tup []) [lH] 0 (fun k d=>yj k (jQ d) (Id d) (be d)) (fun x=>(jR x ())) (fun d=>(jQ d))):=fX f83 n0 1 e0 zF
theorem yPd:gc (zI 207 [.c (.dat true zG),.c .i,.c .i] (.tup [(false,[.fro zG]),(false,yF)]) (fun k d=>Gd k d.1 d.2.1 (Mj d)) (fun x=>(x.1,x.2,())) (fun d=>(d.1,d.2.1))):=fA f207 n0 (e2 rp Sw) zF
theorem yRk:gc (zI 205 [.c (.dat false zG),.c .i] (.tup [(false,[.own zG]),(true,pG),(false,yF)]) (fun k d=>Zg k d.1 d.2.1) (fun x=>(Sx x ())) (fun d=>(Sy d))):=fA f205 Pa (e3 Ax Ss vJj) zF
def yUx:zE:=sp [sO 6 0,sP 7 1,sI 9] [oA zG,oB vY]
def yQ0 (f:yDv)(d:yUx.den):=f (Rd d) d.2.1 (vO (Mj d))
def qSq:zT:=⟨[yUx],[(.exit 0,yUx)],qMw,fun k d=>yQ0 (LI k k) d,fun b x _ K=>K (.exit 0) (zL b yUx (((),(),(x.1,()),()),(x.2.1,(gh x.2.2 ()),())))⟩
def yTw:zU:=⟨[],[(5,qSq)],[],true⟩
theorem acH:md 41 (wd f208 0) qSq:=lp (A:=yTw) qSq (fun d=>(Rd d,d.2.1,(vO (Mj d)))) yQ0 LI Gf (e3 yRk IV Su) zF
theorem yMd:gc (zI 208 [.c (.dat true zG),.c .i] (.tup [(false,[.fro zG]),(false,yF)]) (fun k d=>Gg k d.1 d.2.1) (fun x=>(x.1,x.2,())) (fun d=>(d.1,d.2.1))):=fA f208 yTw (e3 yRk IV Su) (loops1 acH)
theorem yMb:gc (zI 209 [.c (.dat true zG),.c .i] (.tup [(false,[.fro zG]),(false,yF)]) (fun k d=>Ge k d.1 d.2.1) (fun x=>(x.1,x.2,())) (fun d=>(d.1,d.2.1))):=fA f209 n0 (e2 rp Sw) zF
theorem acK:gc (yB 148 [.ptr true Ay,.agg vM] (.c .i) [lH] 0 (fun k d=>Ck k (jQ d) (IW d)) (fun x=>(x.1,(jR x.2 ()))) (fun d=>(d.1,(ko d)))):=fX f148 n0 1 (e8 yUg rp vC1 iJ qNx yPd yMd yMb) zF
theorem acL:gc (xC 250 false qQ (.own qQ) Ym):=fC f250 Pa e0 zF
theorem vE9:gc (xC 213 true (.sl .i) (.jun) Yj):=fC f213 Pa e0 zF
def yMp:zE:=sp [sO 3 0,(8,.c (.dat true (.sl .i))),sI 9,sI 10] [.pmat]
def vJ3:zE:=sp [sO 3 0] [.pmat]
def vJf (f:qOj)(d:yMp.den):=f (pi d) (Rd d) (Fd d) (ms d) d.2.1.2
def qWz:zT:=⟨[yMp],[(.exit 0,vJ3)],(EQ×Nat),fun k d=>vJf (KV k k) d,fun b x _ K=>K (.exit 0) (zL b vJ3 (((),()),((x.1,x.2),())))⟩
def yW7:zU:=⟨[],[(3,qWz)],[],false⟩
theorem acN:md 22 (wd f251 0) qWz:=lp (A:=yW7) qWz (fun d=>d.2.1) vJf KV Fg (e2 vE9 Nx) zF
theorem acO:gc (zI 251 [.c (.dat true (.sl .i))] (.c (.mat)) (fun k d=>KW k d.1) (fun x=>(x,())) (fun d=>d.1)):=fA f251 yW7 (e2 vE9 Nx) (loops1 acN)
theorem pH:gc (zI 210 [.agg [.dat false qQ,.dat true (.sl .i),.dat false .i,.dat true (.sl .i)]] (.agg [.own qQ,.mat,.own .i,.mat]) (fun k d=>(vF (gF k) d)) (fun x=>(jI x ())) (fun d=>(jM d))):=fA f210 Pa (e3 acL acO Nx) zF
theorem yJn:gc (zI 211 [.ptr qXv,.c .i] (.c .bool) (fun k d=>qO0 k (jQ d) (Id d)) (fun x=>(x,())) (fun d=>d.1)):=fA f211 n0 (e1 iJ) zF
theorem vMv:gc (yB 149 [.ptr true Ay,.agg vM] (.c .i) [lH] 0 (fun k d=>Cl k (jQ d) (IW d)) (fun x=>(x.1,(jR x.2 ()))) (fun d=>(d.1,(ko d)))):=fX f149 n0 1 (e3 pH yJn iJ) zF
theorem IX:gc (zI 212 [.ptr qXv,.c .i] (.c .bool) (fun k d=>Nz k (jQ d) (Id d)) (fun x=>(x,())) (fun d=>d.1)):=fA f212 n0 (e1 iJ) zF
theorem vAj:gc (xC 213 true (.sl .i) (.own (.sl .i)) G4):=fC f213 Pa e0 zF
theorem IY:gc (zI 214 [.c (.dat false .i),.c .i,.c .i] (.c (.own .i)) (fun k d=>qu k d.1 d.2.1 (Mj d)) (fun x=>(x,())) (fun d=>d.1)):=fA f214 n0 (e1 Nx) zF
theorem acT:gc (zI 237 [.c .i] (.c .bool) (fun k d=>LL k d.1) (fun x=>(x,())) (fun d=>d.1)):=fA f237 n0 e0 zF
theorem acU:gc (zI 238 [.c (.int .u64),.c (.int .u64)] (.tup [(false,[.int .u64]),(false,[.int .u64])]) (fun k d=>Gn k d.1 d.2.1) (fun x=>(x.1,x.2,())) (fun d=>(d.1,d.2.1))):=fA f238 n0 e0 zF
theorem vSn:gc (zI 300 [.c (.int .u64)] (.c .i) (fun k d=>vIm k d.1) (fun x=>(x,())) (fun d=>d.1)):=fA f300 n0 e0 zF
theorem qT8:gc (zI 272 [.c (.int .u64)] (.c .i) (fun k d=>qL0 k d.1) (fun x=>(x,())) (fun d=>d.1)):=fA f272 n0 (e1 vSn) zF
def yKo:zE:=sp [(2,.c (.int .u64)),(8,.c (.int .u64)),(9,.c (.int .u64)),(10,.c (.int .u64)),(11,.c (.int .u64)),(13,.c (.int .u64)),(14,.c (.int .u64)),(15,.c (.int .u64)),(16,.c (.int .u64))] []
def yTc:zE:=sp [(2,.c (.int .u64)),(8,.c (.int .u64)),(9,.c (.int .u64)),(10,.c (.int .u64)),(11,.c (.int .u64)),(13,.c (.int .u64)),(14,.c (.int .u64)),(15,.c (.int .u64))] []
def yGe (f:qMq)(d:yKo.den):=f (wl d) (pi d) (Rd d) (Fd d) (ce d) (ci d) (un d) (ap d) d.1.2.2.2.2.2.2.2.2.1.1
def Sz:zT:=⟨[yKo],[(.exit 0,yTc)],qJ,fun k d=>yGe (zl k k) d,fun b x _ K=>K (.exit 0) (zL b yTc (((x.1,()),(x.2.1,()),(Mj x,()),(li x,()),(ii x,()),(ge x,()),(If x,()),(x.2.2.2.2.2.2.2,()),()),()))⟩
def yX8:zE:=sp [(2,.c (.int .u64)),(8,.c (.int .u64)),(9,.c (.int .u64)),(10,.c (.int .u64)),(14,.c (.int .u64)),(15,.c (.int .u64)),(16,.c (.int .u64)),(17,.c (.int .u64)),(18,.c (.int .u64))] []
def vEn:zE:=sp [(2,.c (.int .u64)),(8,.c (.int .u64)),(14,.c (.int .u64)),(15,.c (.int .u64)),(17,.c (.int .u64)),(18,.c (.int .u64))] []
def vGy (f:yA3)(d:yX8.den):=f (wl d) (pi d) (Rd d) (Fd d) (ce d) (ci d) (un d) (ap d) d.1.2.2.2.2.2.2.2.2.1.1
def SA:zT:=⟨[yX8],[(.exit 2,vEn)],NT,fun k d=>vGy (zm k k) d,fun b x _ K=>K (.exit 2) (zL b vEn (((x.1,()),(x.2.1,()),(Mj x,()),(li x,()),(ii x,()),(Fr x,()),()),()))⟩
def qP6:zU:=⟨[],[(17,Sz),(24,SA)],[],true⟩
theorem vSc:md 135 (wd f239 0) Sz:=lp (A:=qP6) Sz (fun d=>(wl d,pi d,Rd d,Fd d,ce d,ci d,un d,ap d)) yGe zl MK (e1 qT8) zF
theorem acX:md 135 (wd f239 1) SA:=lp (A:=qP6) SA (fun d=>(wl d,pi d,Rd d,Fd d,ce d,ci d)) vGy zm ML (e1 qT8) zF
theorem vZ1:gc (zI 239 [.c (.int .u64),.c (.int .u64),.c (.int .u64)] (.tup [(false,[.int .u64]),(false,[.int .u64])]) (fun k d=>Gp k d.1 d.2.1 (Mj d)) (fun x=>(x.1,x.2,())) (fun d=>(d.1,d.2.1))):=fA f239 qP6 (e1 qT8) (mc (n:=2) (by kernel_rfl) fun i hi=>match i,hi with|0,_=>⟨Sz,by kernel_rfl,vSc⟩|1,_=>⟨SA,by kernel_rfl,acX⟩|i+2,hi=>absurd hi (by omega))
theorem qL2:gc ((142,Pm)):=Xy (fn:=f142)
theorem yZq:gc (zI 195 [.c .i,.c .i,.c .i] (.tup [(false,yF),(false,[.bool])]) (fun k d=>Gq k d.1 d.2.1 (Mj d)) (fun x=>(x.1,x.2,())) (fun d=>(d.1,d.2.1))):=fA f195 n0 (e4 acT acU vZ1 qL2) zF
def yWr:zE:=sp [sI 4,(5,.c (.int .u64)),(9,.c (.dat false .i)),sI 10,sI 11] []
def yOp:zE:=sp [sI 4,(5,.c (.int .u64))] []
def vIt (f:qQa)(d:yWr.den):=f (wl d) (pi d) (Rd d) (Fd d) (ce d)
def qMn:zT:=⟨[yWr],[(.exit 0,yOp)],vX,fun k d=>vIt (Gl k k) d,fun b x _ K=>K (.exit 0) (zL b yOp (((x.1,()),(x.2,()),()),()))⟩
def vF3:zU:=⟨[],[(4,qMn)],[],false⟩
theorem ac1:md 37 (wd f78 0) qMn:=lp (A:=vF3) qMn (fun d=>(wl d,pi d)) vIt Gl Gm (e1 qL2) zF
theorem SB:gc (zI 78 [.c (.dat false .i)] (.tup [(false,yF),(false,[.bool])]) (fun k d=>Gk k d.1) (fun x=>(x.1,x.2,())) (fun d=>(d.1,d.2.1))):=fA f78 vF3 (e1 qL2) (loops1 ac1)
def yV1:zE:=⟨[(1,.c (.dat false .i)),(2,.c (.dat false .i)),sO 8 0,(25,.c (.dat false wQ)),sI 26,sI 27],[oA .i],[(8,none,.i,false)]⟩
def vDp:zE:=sp [sO 8 0] [oA .i]
def yRt:zE:=sp [sI 6,(7,.c .bool)] []
def yNv (f:yCw)(d:yV1.den):=f (wl d) (pi d) (Fd d) (ce d) (ci d) d.2.1
def yCm:zT:=⟨[yV1],[(.exit 0,vDp),(.ret,yRt)],(AC⊕fa),fun k d=>yNv (qt k k) d,fun b x _ K=>match x with|.inl x=>K (.exit 0) (zL b vDp (((),()),(x,())))|.inr x=>K .ret (zL b yRt (((x.1,()),(x.2,()),()),()))⟩
def vC2:zU:=⟨[],[(5,yCm)],[],true⟩
theorem vO0:md 57 (wd f134 0) yCm:=lp (A:=vC2) yCm (fun d=>match d with|.inl d=>.inl d.2.1|.inr d=>.inr (wl d,pi d)) yNv qt sS (e2 yZq SB) zF
theorem Az:gc (zI 134 [.c (.dat false wQ),.c (.dat false .i),.c (.dat false .i)] (.tup [(false,yF),(false,[.bool])]) (fun k d=>mY k d.1 d.2.1 (Mj d)) (fun x=>(x.1,x.2,())) (fun d=>(d.1,d.2.1))):=fA f134 vC2 (e2 yZq SB) (loops1 vO0)
theorem ac4:gc (yB 150 [.ptr true Ay,.c (.p .i),.c (.p .i)] (.c .i) [lH] 0 (fun k d=>QV k (jQ d) (Id d) (be d)) (fun x=>(x.1,(jR x.2 ()))) (fun d=>(d.1,(ko d)))):=fX f150 n0 1 (e6 IX iJ vAj IY Az pH) zF
theorem ac6:gc (zI 280 [.c .i,.c .i] (.tup [(false,yF),(false,[.bool])]) (fun k d=>QW k d.1 d.2.1) (fun x=>(x.1,x.2,())) (fun d=>(d.1,d.2.1))):=fA f280 Pa e0 zF
theorem yVf:gc (zI 125 [.agg oC] (.c .bool) (fun k d=>PI k d.1 d.2.1 (Mj d)) (fun x=>(x,())) (fun d=>d.1)):=fA f125 Pa e0 zF
theorem yX2:gc (zI 252 [.agg oC,.c .i] (.tup [(true,[.i,.i,.i]),(false,yF)]) (fun k d=>Me k (d.1,d.2.1,Mj d) (li d)) (fun x=>(x.1.1,x.1.2.1,x.1.2.2,x.2,())) (fun d=>((d.1,d.2.1,Mj d),li d))):=fA f252 n0 (e2 ac6 yVf) zF
theorem yGj:gc (zI 215 [.agg oC,.c .i] (.tup [(true,[.i,.i,.i]),(false,yF)]) (fun k d=>HB k (d.1,d.2.1,Mj d) (li d)) (fun x=>(x.1.1,x.1.2.1,x.1.2.2,x.2,())) (fun d=>((d.1,d.2.1,Mj d),li d))):=fA f215 n0 (e1 yX2) zF
theorem SC:gc (zI 253 [.agg oC,.c .i] (.c .i) (fun k d=>(vF (xN k) d)) (fun x=>(x,())) (fun d=>d.1)):=fA f253 Pa e0 zF
theorem yIh:gc (zI 216 [.agg oC,.c .i,.c .i] (.tup [(true,[.i,.i,.i]),(false,yF)]) (fun k d=>HC k (d.1,d.2.1,Mj d) (li d) (ii d)) (fun x=>(x.1.1,x.1.2.1,x.1.2.2,x.2,())) (fun d=>((d.1,d.2.1,Mj d),li d))):=fA f216 n0 (e2 yX2 SC) zF
theorem vBk:gc (zI 217 [.agg oC,.c .i] (.c .i) (fun k d=>HD k (d.1,d.2.1,Mj d) (li d)) (fun x=>(x,())) (fun d=>d.1)):=fA f217 n0 e0 zF
theorem vO4:gc (yB 151 [.ptr true Ay,.c (.p .i),.c (.p .i),.c (.p .i)] (.c .i) [lH] 0 (fun k d=>qZ2 k (jQ d) (Id d) (be d) d.2.2.2.2.2.2.2.2.2.2.2.2.2.2.2.2.2.2.2.2.1) (fun x=>(x.1,(jR x.2 ()))) (fun d=>(d.1,(ko d)))):=fX f151 n0 1 (e5 iJ yGj yIh vBk pH) zF
def yJz:zE:=sp [sP 0 0,sO 7 2,sP 8 3,(40,.c (.dat true (.sl .i))),sI 41,sI 42] [oB qTx,oA yE,oA .i,oB vJg,oA qQ,.mat,oA .i,.mat]
def vBc:zE:=sp [sP 0 0,sO 7 2,sP 8 3] [oB qTx,oA yE,oA .i,oB vJg,oA qQ,.mat,oA .i,.mat]
def yI7:zE:=sp [sP 0 0,sI 6] [oB qTx,oA yE]
def vBe (f:qY6)(d:yJz.den):=f (Fd d) (ce d) (ci d) (lI d.2.1) (Mj d) (li d) (ge d) (If d) (rg d) (dl d)
def qUr:zT:=⟨[yJz],[(.exit 0,vBc),(.ret,yI7)],qNw,fun k d=>vBe (qW7 k k) d,fun b x _ K=>match x with|.inl x=>K (.exit 0) (zL b vBc (((),(),(),()),((vR x.1 ()),x.2.1,Mj x,(),li x,ii x,ge x,x.2.2.2.2.2.2,())))|.inr x=>K .ret (zL b yI7 (((),(x.1,()),()),((vR x.2.1 ()),x.2.2,())))⟩
def vBb:zU:=⟨[],[(6,qUr)],[],true⟩
theorem vRw:zS prog 1000 1 81 (wd f152 0) qUr:=lp (A:=vBb) qUr (fun d=>match d with|.inl d=>.inl ((lI d.2.1),Mj d,li d,ge d,If d,rg d,dl d)|.inr d=>.inr (pi d,(lI d.2.1),Mj d)) vBe qW7 yKy (e5 IX iJ IY pH Az) zF
theorem ac9:gc (yB 152 [.ptr true Ay,.c (.p .i),.c (.p .i)] (.c .i) [lH] 0 (fun k d=>yTq k (jQ d) (Id d) (be d)) (fun x=>(x.1,(jR x.2 ()))) (fun d=>(d.1,(ko d)))):=fX f152 vBb 1 (e5 IX iJ IY pH Az) (loops1 vRw)
theorem vYk:gc (yB 84 [.ptr true Ay,.agg vM] (.c .i) [lH] 0 (fun k d=>RP k (jQ d) (IW d)) (fun x=>(x.1,(jR x.2 ()))) (fun d=>(d.1,(ko d)))):=fX f84 n0 1 (e6 acE acK vMv ac4 vO4 ac9) zF
theorem SD:gc (zI 79 [.agg ig,.c .i] (.c .bool) (fun k d=>(kq (Cg k) d)) (fun x=>(x,())) (fun d=>d.1)):=fA f79 Pa e0 zF
theorem AA:gc (zI 155 [.c .i,.c .i,.c (.dat false .i)] (.agg yDs) (fun k d=>qx k d.1 d.2.1 (Mj d)) (fun x=>(Db x ())) (fun d=>(kp d))):=fA f155 Pa e0 zF
def vJ1:zE:=⟨[sP 1 0,sP 2 1,sO 4 2,(10,.c (.dat true zG)),sI 11,sI 12],[oB iI,oB jN,oA yE],[(4,none,yE,false)]⟩
def vJu:zE:=sp [sP 1 0,sP 2 1,sO 4 2] [oB iI,oB jN,oA yE]
def yNu (f:qYs)(d:vJ1.den):=(tx (f (Fd d) (ce d) (ci d)) d.2.1) (Do d) (pm d) (jp d) (li d)
def SE:zT:=⟨[vJ1],[(.exit 0,vJu)],yCj,fun k d=>yNu (GV k k) d,fun b x _ K=>K (.exit 0) (zL b vJu (((),(),(),()),((AB x ()),(ul x,co x,x.2.2.2.2.2.2.2.2.2.2.2.2.2.1,()),x.2.2.2.2.2.2.2.2.2.2.2.2.2.2,())))⟩
def yPi:zE:=sp [sP 1 0,sP 2 1,sO 4 2,(28,.c (.dat true qQ)),sI 29,sI 30] [oB iI,oB jN,oA yE]
def yUc (f:yD5)(d:yPi.den):=(tx (f (Fd d) (ce d) (ci d)) d.2.1) (Do d) (pm d) (jp d) (li d)
def SF:zT:=⟨[yPi],[(.exit 2,vJu)],yCj,fun k d=>yUc (L9 k k) d,fun b x _ K=>K (.exit 2) (zL b vJu (((),(),(),()),((AB x ()),(ul x,co x,x.2.2.2.2.2.2.2.2.2.2.2.2.2.1,()),x.2.2.2.2.2.2.2.2.2.2.2.2.2.2,())))⟩
def yEz:zU:=⟨[],[(3,SE),(8,SF)],[],false⟩
theorem vT7:md 48 (wd f153 0) SE:=lp (A:=yEz) SE (fun d=>(AB d.2.1 (Do d,pm d,jp d,li d))) yNu GV GW (e1 AA) zF
theorem vRp:md 48 (wd f153 1) SF:=lp (A:=yEz) SF (fun d=>(AB d.2.1 (Do d,pm d,jp d,li d))) yUc L9 GY (e1 AA) zF
theorem yId:gc (zI 153 [.agg Av] (.tup [(true,[.i,.fro qQ,.fro (.sl .i),.fro .i,.fro (.sl .i),.fro .i,.fro (.sl .i),.own zG,.fro .i,.i,.bool]),(false,[.own yE])]) (fun k d=>(tx (QS k) d)) (fun x=>(IZ x ())) (fun d=>(I1 d))):=fA f153 yEz (e1 AA) (mc (n:=2) (by kernel_rfl) fun i hi=>match i,hi with|0,_=>⟨SE,by kernel_rfl,vT7⟩|1,_=>⟨SF,by kernel_rfl,vRp⟩|i+2,hi=>absurd hi (by omega))
theorem yIa:gc (zI 154 [.agg vM,.c .i] (.c .bool) (fun k d=>(mz (ZU k) d)) (fun x=>(x,())) (fun d=>d.1)):=fA f154 Pa e0 zF
theorem yK2:gc (zI 156 [.agg ig,.c .i] (.c .bool) (fun k d=>(kq (G1 k) d)) (fun x=>(x,())) (fun d=>d.1)):=fA f156 Pa e0 zF
theorem ade:gc (zI 287 [.agg vM,.c .i] (.c .bool) (fun k d=>(mz (YW k) d)) (fun x=>(x,())) (fun d=>d.1)):=fA f287 Pa e0 zF
theorem yKi:gc (zI 286 [.agg vM,.ptr [.i]] (.c .bool) (fun k d=>(mz (YV k) d)) (fun x=>(x,())) (fun d=>d.1)):=fA f286 Pa (e1 ade) zF
def yUy:zE:=⟨[(1,.c (.lit (.fn 286 [1001000]))),sO 5 1,(8,.c (.dat false zG)),sI 9,sI 10],[.robox [.i],oA zG],[(5,none,zG,false)]⟩
def yWy (f:qS4)(d:yUy.den):=f (Rd d) (Fd d) (ce d) (ms d) (Mj d)
def qV1:zT:=⟨[yUy],[(.exit 0,yOm)],qZc,fun k d=>yWy (Lq k k) d,fun b x _ K=>K (.exit 0) (zL b yOm (((),()),(x,())))⟩
def yYj:zU:=⟨[],[(3,qV1)],[],false⟩
theorem adg:md 23 (wd f199 0) qV1:=lp (A:=yYj) qV1 (fun d=>d.2.1) yWy Lq FT (e1 yKi) zF
theorem vZx:gc (zI 199 [.c (.dat false zG),.fn 286 [[.i]]] (.c (.own zG)) (fun k d=>YU k d.1 d.2.1) (fun x=>(x,())) (fun d=>d.1)):=fA f199 yYj (e1 yKi) (loops1 adg)
theorem Dc:gc (zI 258 [.c (.dat false zG),.c .i] (.c (.own zG)) (fun k d=>FR k d.1 d.2.1) (fun x=>(x,())) (fun d=>d.1)):=fA f258 Pa (e1 vZx) zF
theorem yUu:gc (zI 316 [.agg vM,.ptr vM] (.c .bool) (fun k d=>(IU (Y1 k) d)) (fun x=>(x,())) (fun d=>d.1)):=fA f316 Pa e0 zF
def yKb:zE:=sp [(0,.c (.dat false zG)),(1,.c (.lit (.fn 316 [1001000]))),sI 7,sI 8] [.robox vY]
def yMu (f:yEj)(d:yKb.den):=(mA (f (wl d) (Rd d) (Fd d)) d.2.1)
def yCs:zT:=⟨[yKb],[(.exit 0,yZp),(.ret,yQb)],(Unit⊕Int),fun k d=>yMu (Lv k k) d,fun b x _ K=>match x with|.inl x=>K (.exit 0) (zL b yZp ((),()))|.inr x=>K .ret (zL b yQb (((x,()),()),()))⟩
def vBt:zU:=⟨[],[(2,yCs)],[],false⟩
theorem adk:md 19 (wd f159 0) yCs:=lp (A:=vBt) yCs (fun d=>match d with|.inl d=>.inl ()|.inr d=>.inr (wl d)) yMu Lv F0 (e1 yUu) zF
theorem vR8:gc (zI 159 [.c (.dat false zG),.fn 316 [vM]] (.c .i) (fun k d=>(mz (Y2 k) d)) (fun x=>(x,())) (fun d=>d.1)):=fA f159 vBt (e1 yUu) (loops1 adk)
theorem adm:gc (zI 141 [.c (.dat false zG),.fn 316 [vM]] (.c .bool) (fun k d=>(mz (Qm k) d)) (fun x=>(x,())) (fun d=>d.1)):=fA f141 Pa (e1 vR8) zF
theorem yHx:gc (yB 315 [.agg vM,.ptr true [.map],.ptr false [.p (.dat false zG)]] (.c .bool) [[.map]] 0 (fun k d=>(SG (Y5 k) d)) (fun x=>(x.1,x.2,())) (fun d=>(d.1,d.2.1))):=fX f315 Pa 3 (e1 adm) zF
def yPt:zE:=⟨[(1,.c (.lit (.fn 315 [1001000,1001002]))),sO 5 3,(8,.c (.dat false zG)),sI 9,sI 10],[oB [.lit (.map 1001001)],.imap,.robox [.dat false zG],oA zG],[(5,none,zG,false)]⟩
def yVq:zE:=sp [(1,.c (.lit (.fn 315 [1001000,1001002]))),sO 5 3] [oB [.lit (.map 1001001)],.imap,.robox [.dat false zG],oA zG]
def vFg (f:yAx)(d:yPt.den):=f (Rd d) (Fd d) (ce d) (Mj d) (pp d) (ii d)
def qZ8:zT:=⟨[yPt],[(.exit 0,yVq)],qWo,fun k d=>vFg (F1 k k) d,fun b x _ K=>K (.exit 0) (zL b yVq (((),(),()),((),x.1,(x.2.1,()),x.2.2,())))⟩
def yVb:zU:=⟨[],[(3,qZ8)],[],false⟩
theorem ado:zS prog 1000 2 23 (wd f199 0) qZ8:=lp (A:=yVb) qZ8 (fun d=>(Mj d,pp d,ii d)) vFg F1 F2 (e1 yHx) zF
theorem vYe:gc (yB 199 [.c (.p (.dat false zG)),.fn 315 [(true,[.map]),(false,[.p (.dat false zG)])]] (.c (.own zG)) [[.map]] 0 (fun k d=>Y4 k d.1 d.2.1 (Mj d)) (fun x=>(x.1,x.2,())) (fun d=>(d.1,d.2.1))):=fX f199 yVb 2 (e1 yHx) (loops1 ado)
theorem NA:gc (zI 303 [.c (.dat false zG),.c .i] (.c (.own zG)) (fun k d=>Lw k d.1 d.2.1) (fun x=>(x,())) (fun d=>d.1)):=fA f303 Pa (e2 Dc vYe) zF
theorem qUo:gc (zI 137 [.agg jZ,.agg vM] (.c .bool) (fun k d=>(tx (Fl k) d)) (fun x=>(x,())) (fun d=>d.1)):=fA f137 Pa e0 zF
theorem vEr:gc (zI 317 [.agg vM,.ptr jZ] (.c .bool) (fun k d=>(tx (YR k) d)) (fun x=>(x,())) (fun d=>d.1)):=fA f317 Pa (e1 qUo) zF
def yOk:zE:=sp [(0,.c (.dat false zG)),(1,.c (.lit (.fn 317 [1001000]))),sI 7,sI 8] [.robox jP]
def vBg (f:yC9)(d:yOk.den):=(vF (f (wl d) (Rd d) (Fd d)) d.2.1)
def qZs:zT:=⟨[yOk],[(.exit 0,yZp),(.ret,yQb)],(Unit⊕Int),fun k d=>vBg (Ln k k) d,fun b x _ K=>match x with|.inl x=>K (.exit 0) (zL b yZp ((),()))|.inr x=>K .ret (zL b yQb (((x,()),()),()))⟩
def yH7:zU:=⟨[],[(2,qZs)],[],false⟩
theorem vM9:md 19 (wd f159 0) qZs:=lp (A:=yH7) qZs (fun d=>match d with|.inl d=>.inl ()|.inr d=>.inr (wl d)) vBg Ln FQ (e1 vEr) zF
theorem vSz:gc (zI 159 [.c (.dat false zG),.fn 317 [jZ]] (.c .i) (fun k d=>(lJ (YS k) d)) (fun x=>(x,())) (fun d=>d.1)):=fA f159 yH7 (e1 vEr) (loops1 vM9)
theorem vMi:gc (zI 141 [.c (.dat false zG),.fn 317 [jZ]] (.c .bool) (fun k d=>(lJ (Qi k) d)) (fun x=>(x,())) (fun d=>d.1)):=fA f141 Pa (e1 vSz) zF
def vH2:zE:=sp [sP 4 0,sP 5 1,(15,.c (.dat false zG)),sI 16,sI 17] [oB [.lit .nsl,.lit .nsl,.lit .nsl],oB qU6,oA .i,oA .i,.mat]
def yFw:zE:=sp [sP 4 0,sP 5 1] [oB [.lit .nsl,.lit .nsl,.lit .nsl],oB qU6,oA .i,oA .i,.mat]
def yOr (f:qLi)(d:vH2.den):=f (Rd d) (Fd d) (ce d) (li d) (ii d) (ge d)
def qYp:zT:=⟨[vH2],[(.exit 0,yFw)],qQ7,fun k d=>yOr (Lj k k) d,fun b x _ K=>K (.exit 0) (zL b yFw (((),(),()),((),(),x.1,x.2.1,x.2.2,())))⟩
def yVu:zU:=⟨[],[(3,qYp)],[],false⟩
theorem vZv:md 84 (wd f305 0) qYp:=lp (A:=yVu) qYp (fun d=>(li d,ii d,ge d)) yOr Lj FI (e2 Da Nv) zF
theorem vFj:gc (zI 305 [.c .i,.c (.dat false zG)] (.agg [.own .i,.own .i,.mat]) (fun k d=>Qd k d.1 d.2.1) (fun x=>(x.1,x.2.1,x.2.2,())) (fun d=>(d.1,d.2.1,Mj d))):=fA f305 yVu (e2 Da Nv) (loops1 vZv)
theorem yZv:gc (zI 306 [.agg vM,.ptr [.i]] (.c .bool) (fun k d=>(mz (YI k) d)) (fun x=>(x,())) (fun d=>d.1)):=fA f306 Pa e0 zF
def yTp:zE:=sp [(0,.c (.dat false zG)),(1,.c (.lit (.fn 306 [1001000]))),sI 7,sI 8] [.robox [.i]]
def yT8 (f:yCk)(d:yTp.den):=f (wl d) (Rd d) (Fd d) (ms d)
def qO7:zT:=⟨[yTp],[(.exit 0,yZp),(.ret,yQb)],(Unit⊕Int),fun k d=>yT8 (Lk k k) d,fun b x _ K=>match x with|.inl x=>K (.exit 0) (zL b yZp ((),()))|.inr x=>K .ret (zL b yQb (((x,()),()),()))⟩
def yHj:zU:=⟨[],[(2,qO7)],[],false⟩
theorem adq:md 19 (wd f159 0) qO7:=lp (A:=yHj) qO7 (fun d=>match d with|.inl d=>.inl ()|.inr d=>.inr (wl d)) yT8 Lk FJ (e1 yZv) zF
theorem vRg:gc (zI 159 [.c (.dat false zG),.fn 306 [[.i]]] (.c .i) (fun k d=>YJ k d.1 d.2.1) (fun x=>(x,())) (fun d=>d.1)):=fA f159 yHj (e1 yZv) (loops1 adq)
theorem yMx:gc (zI 141 [.c (.dat false zG),.fn 306 [[.i]]] (.c .bool) (fun k d=>Qe k d.1 d.2.1) (fun x=>(x,())) (fun d=>d.1)):=fA f141 Pa (e1 vRg) zF
def yWx:zE:=sp [sI 5,(12,.c (.dat false .i)),sI 13,sI 14] []
def yOb:zE:=sp [sI 5] []
def vCy (f:Int→AC→Int→Int→Option Int)(d:yWx.den):=f (wl d) (pi d) (Rd d) (Fd d)
def qUc:zT:=⟨[yWx],[(.exit 0,yOb)],Int,fun k d=>vCy (FD k k) d,fun b x _ K=>K (.exit 0) (zL b yOb (((x,()),()),()))⟩
def yQw:zU:=⟨[],[(3,qUc)],[],false⟩
theorem adt:md 23 (wd f318 0) qUc:=lp (A:=yQw) qUc (fun d=>(wl d)) vCy FD FE e0 zF
theorem yNc:gc (zI 318 [.agg jZ,.c .i] (.c .i) (fun k d=>(lJ (Qa k) d)) (fun x=>(x,())) (fun d=>d.1)):=fA f318 yQw e0 (loops1 adt)
theorem qTr:gc (zI 319 [.c .i,.c .i] (.c .bool) (fun k d=>FL k d.1 d.2.1) (fun x=>(x,())) (fun d=>d.1)):=fA f319 Pa e0 zF
theorem yJb:gc (zI 320 [.agg vM,.ptr [.i],.ptr oC,.ptr SH,.ptr [.i],.ptr jZ] (.c .bool) (fun k d=>(vMr (YK k) d)) (fun x=>(x,())) (fun d=>d.1)):=fA f320 Pa (e2 SC qTr) zF
def yWu:zE:=sp [(0,.c (.dat false zG)),(1,.c (.lit (.fn 320 [1001000,1001001,1001002,1001003,1001004]))),sI 7,sI 8] [.robox [.i],.robox [.i,.i,.i],.robox yCi,.robox [.i],.robox jP]
def vF9 (f:yBt)(d:yWu.den):=(vF (f (wl d) (Rd d) (Fd d) (ms d) (Do d) (pm d) (jp d) (pp d) (In d) (ip d) d.2.2.2.2.1.1) (ge d))
def qXo:zT:=⟨[yWu],[(.exit 0,yZp),(.ret,yQb)],(Unit⊕Int),fun k d=>vF9 (Lm k k) d,fun b x _ K=>match x with|.inl x=>K (.exit 0) (zL b yZp ((),()))|.inr x=>K .ret (zL b yQb (((x,()),()),()))⟩
def yNa:zU:=⟨[],[(2,qXo)],[],false⟩
theorem adv:md 19 (wd f159 0) qXo:=lp (A:=yNa) qXo (fun d=>match d with|.inl d=>.inl ()|.inr d=>.inr (wl d)) vF9 Lm FM (e1 yJb) zF
theorem adw:gc (zI 159 [.c (.dat false zG),.fn 320 [[.i],oC,SH,[.i],jZ]] (.c .i) (fun k d=>(qSb (YL k) d)) (fun x=>(x,())) (fun d=>d.1)):=fA f159 yNa (e1 yJb) (loops1 adv)
theorem yI0:gc (zI 141 [.c (.dat false zG),.fn 320 [[.i],oC,SH,[.i],jZ]] (.c .bool) (fun k d=>(qSb (Qf k) d)) (fun x=>(x,())) (fun d=>d.1)):=fA f141 Pa (e1 adw) zF
def yKa:zE:=sp [(3,.c (.dat false zG)),sP 4 0,sP 5 1,sP 6 2,sP 9 3,sP 10 4,sI 11,(39,.c (.dat false .i)),sI 40,sI 41] [oB yCi,oB jP,oB [.i],oB [.i,.i,.i],oB [.i]]
def yV5:zE:=sp [(3,.c (.dat false zG)),sP 4 0,sP 5 1,sP 6 2,sP 9 3,sP 10 4,sI 11] [oB yCi,oB jP,oB [.i],oB [.i,.i,.i],oB [.i]]
def vF8 (f:qUj)(d:yKa.den):=(vF (f (wl d) (un d) (ap d) d.1.2.2.2.2.2.2.2.2.1.1 d.1.2.2.2.2.2.2.2.2.2.1.1 (ms d) (qr d) (Or d)) (Mj d)) (pp d) d.2.2.2.2.1.1 (wr d) d.2.2.2.2.1.2.2.1 d.2.2.2.2.2.1.1
def qQs:zT:=⟨[yKa],[(.exit 0,yV5)],qUd,fun k d=>vF8 (BY k k) d,fun b x _ K=>K (.exit 0) (zL b yV5 (((x.1,()),(),(),(),(),(),(x.2.1,()),()),((Mj x,li x,ii x,()),(ady x ()),(Fn x,()),(Pi x,ul x,co x,()),(x.2.2.2.2.2.2.2.2.2.2.2.2.2,()),())))⟩
def yOc:zU:=⟨[],[(7,qQs)],[],false⟩
theorem vS4:md 59 (wd f307 0) qQs:=lp (A:=yOc) qQs (fun d=>(wl d,un d,ms d,qr d,Or d,(vV (Mj d) (pp d,d.2.2.2.2.1.1,wr d,d.2.2.2.2.1.2.2.1,d.2.2.2.2.2.1.1)))) vF8 BY FN (e3 yNc qTr yI0) zF
theorem vE5:gc (zI 307 [.agg SH,.agg jZ,.c .i,.c (.dat false zG)] (.c .bool) (fun k d=>(SG (Qh k) d)) (fun x=>(x,())) (fun d=>d.1)):=fA f307 yOc (e3 yNc qTr yI0) (loops1 vS4)
def vJ4:zE:=⟨[(1,.c (.dat false zG)),sP 2 0,sP 5 1,sO 6 5,sI 16,sI 17],[oB jP,oB qU6,oA .i,oA .i,.mat,oA .i],[(6,none,.i,false)]⟩
def vAn:zE:=sp [sO 6 0] [oA .i]
def yHf (f:yDn)(d:vJ4.den):=(vF (f (wl d) (ce d) (ci d)) d.2.1) (li d) (ii d) (ge d) (If d)
def qYo:zT:=⟨[vJ4],[(.exit 0,vAn)],AC,fun k d=>yHf (FO k k) d,fun b x _ K=>K (.exit 0) (zL b vAn (((),()),(x,())))⟩
def vEz:zU:=⟨[],[(4,qYo)],[],false⟩
theorem vUt:md 37 (wd f283 0) qYo:=lp (A:=vEz) qYo (fun d=>d.2.1) yHf FO FP (e3 vFj yMx vE5) zF
theorem NB:gc (zI 283 [.agg jZ,.c (.dat false zG)] (.c (.own .i)) (fun k d=>(lJ (BZ k) d)) (fun x=>(x,())) (fun d=>d.1)):=fA f283 vEz (e3 vFj yMx vE5) (loops1 vUt)
theorem NC:gc (zI 304 [.agg jZ,.c (.dat false zG)] (.c .bool) (fun k d=>(lJ (B1 k) d)) (fun x=>(x,())) (fun d=>d.1)):=fA f304 Pa (e2 vMi NB) zF
theorem yGb:gc (zI 288 [.agg vM,.ptr jZ] (.c .bool) (fun k d=>(tx (Yr k) d)) (fun x=>(x,())) (fun d=>d.1)):=fA f288 Pa (e1 qUo) zF
def yPb:zE:=sp [(0,.c (.dat false zG)),(1,.c (.lit (.fn 288 [1001000]))),sI 7,sI 8] [.robox jP]
def yR8 (f:yC9)(d:yPb.den):=(vF (f (wl d) (Rd d) (Fd d)) d.2.1)
def qZb:zT:=⟨[yPb],[(.exit 0,yZp),(.ret,yQb)],(Unit⊕Int),fun k d=>yR8 (K4 k k) d,fun b x _ K=>match x with|.inl x=>K (.exit 0) (zL b yZp ((),()))|.inr x=>K .ret (zL b yQb (((x,()),()),()))⟩
def yK3:zU:=⟨[],[(2,qZb)],[],false⟩
theorem adC:md 19 (wd f159 0) qZb:=lp (A:=yK3) qZb (fun d=>match d with|.inl d=>.inl ()|.inr d=>.inr (wl d)) yR8 K4 Fm (e1 yGb) zF
theorem adD:gc (zI 159 [.c (.dat false zG),.fn 288 [jZ]] (.c .i) (fun k d=>(lJ (Ys k) d)) (fun x=>(x,())) (fun d=>d.1)):=fA f159 yK3 (e1 yGb) (loops1 adC)
theorem yOg:gc (zI 141 [.c (.dat false zG),.fn 288 [jZ]] (.c .bool) (fun k d=>(lJ (PW k) d)) (fun x=>(x,())) (fun d=>d.1)):=fA f141 Pa (e1 adD) zF
theorem yQ9:gc (zI 124 [.agg oC] (.c .bool) (fun k d=>X9 k d.1 d.2.1 (Mj d)) (fun x=>(x,())) (fun d=>d.1)):=fA f124 Pa (e1 yVf) zF
def yZ5:zE:=sp [(0,.c (.dat false qQ)),(1,.c (.lit (.fn 124 []))),sI 7,sI 8] []
def vCc (f:yDg)(d:yZ5.den):=f (wl d) (Rd d) (Fd d)
def qWk:zT:=⟨[yZ5],[(.exit 0,yZp),(.ret,yQb)],(Unit⊕Int),fun k d=>vCc (KM k k) d,fun b x _ K=>match x with|.inl x=>K (.exit 0) (zL b yZp ((),()))|.inr x=>K .ret (zL b yQb (((x,()),()),()))⟩
def yG2:zU:=⟨[],[(2,qWk)],[],false⟩
theorem vPc:md 19 (wd f192 0) qWk:=lp (A:=yG2) qWk (fun d=>match d with|.inl d=>.inl ()|.inr d=>.inr (wl d)) vCc KM E4 (e1 yQ9) zF
theorem vYj:gc (zI 192 [.c (.dat false qQ),.c (.fn 124)] (.c .i) (fun k d=>Ya k d.1) (fun x=>(x,())) (fun d=>d.1)):=fA f192 yG2 (e1 yQ9) (loops1 vPc)
theorem adF:gc (zI 126 [.c (.dat false qQ),.c (.fn 124)] (.c .bool) (fun k d=>PK k d.1) (fun x=>(x,())) (fun d=>d.1)):=fA f126 Pa (e1 vYj) zF
theorem adG:gc (zI 128 [.c .i] (.c .bool) (fun k d=>X5 k d.1) (fun x=>(x,())) (fun d=>d.1)):=fA f128 Pa e0 zF
theorem yGd:gc (zI 193 [.c .i,.ptr [.fn 128]] (.c .bool) (fun k d=>Yc k d.1) (fun x=>(x,())) (fun d=>d.1)):=fA f193 Pa (e1 adG) zF
def vAv:zE:=sp [(0,.c (.dat false .i)),(1,.c (.lit (.fn 193 [1001000]))),sI 7,sI 8] [.robox [.lit (.fn 128 [])]]
def yFq (f:yDm)(d:vAv.den):=f (wl d) (Rd d) (Fd d)
def qVi:zT:=⟨[vAv],[(.exit 0,yZp),(.ret,yQb)],(Unit⊕Int),fun k d=>yFq (KN k k) d,fun b x _ K=>match x with|.inl x=>K (.exit 0) (zL b yZp ((),()))|.inr x=>K .ret (zL b yQb (((x,()),()),()))⟩
def yTf:zU:=⟨[],[(2,qVi)],[],false⟩
theorem adI:md 19 (wd f194 0) qVi:=lp (A:=yTf) qVi (fun d=>match d with|.inl d=>.inl ()|.inr d=>.inr (wl d)) yFq KN E5 (e1 yGd) zF
theorem vNu:gc (zI 194 [.c (.dat false .i),.fn 193 [[.fn 128]]] (.c .i) (fun k d=>Yd k d.1) (fun x=>(x,())) (fun d=>d.1)):=fA f194 yTf (e1 yGd) (loops1 adI)
theorem adL:gc (zI 132 [.c (.dat false .i),.fn 193 [[.fn 128]]] (.c .bool) (fun k d=>PM k d.1) (fun x=>(x,())) (fun d=>d.1)):=fA f132 Pa (e1 vNu) zF
theorem qPh:gc (zI 129 [.c (.dat false .i),.c .i,.c (.fn 128)] (.c .bool) (fun k d=>KP k d.1 d.2.1) (fun x=>(x,())) (fun d=>d.1)):=fA f129 Pa (e1 adL) zF
def yFg:zE:=sp [sI 1,(2,.c (.lit (.fn 128 []))),(13,.c (.dat false (.sl .i))),sI 14,sI 15] []
def yV6:zE:=sp [(6,.c .bool)] []
def yQt (f:qOi)(d:yFg.den):=f (wl d) (Rd d) (Fd d) (ce d)
def qTs:zT:=⟨[yFg],[(.exit 0,yZp),(.ret,yV6)],(Unit⊕Bool),fun k d=>yQt (KQ k k) d,fun b x _ K=>match x with|.inl x=>K (.exit 0) (zL b yZp ((),()))|.inr x=>K .ret (zL b yV6 (((x,()),()),()))⟩
def vAh:zU:=⟨[],[(4,qTs)],[],false⟩
theorem vNk:md 25 (wd f127 0) qTs:=lp (A:=vAh) qTs (fun d=>match d with|.inl d=>.inl ()|.inr d=>.inr (wl d)) yQt KQ E7 (e1 qPh) zF
theorem vXp:gc (zI 127 [.c (.dat false (.sl .i)),.c .i,.c (.fn 128)] (.c .bool) (fun k d=>PQ k d.1 d.2.1) (fun x=>(x,())) (fun d=>d.1)):=fA f127 vAh (e1 qPh) (loops1 vNk)
theorem adO:gc (zI 130 [.c .i] (.c .bool) (fun k d=>PJ k d.1) (fun x=>(x,())) (fun d=>d.1)):=fA f130 Pa e0 zF
theorem yP0:gc (zI 193 [.c .i,.ptr [.fn 130]] (.c .bool) (fun k d=>Yf k d.1) (fun x=>(x,())) (fun d=>d.1)):=fA f193 Pa (e1 adO) zF
def yTl:zE:=sp [(0,.c (.dat false .i)),(1,.c (.lit (.fn 193 [1001000]))),sI 7,sI 8] [.robox [.lit (.fn 130 [])]]
def vEu (f:yDm)(d:yTl.den):=f (wl d) (Rd d) (Fd d)
def qZi:zT:=⟨[yTl],[(.exit 0,yZp),(.ret,yQb)],(Unit⊕Int),fun k d=>vEu (KO k k) d,fun b x _ K=>match x with|.inl x=>K (.exit 0) (zL b yZp ((),()))|.inr x=>K .ret (zL b yQb (((x,()),()),()))⟩
def vCb:zU:=⟨[],[(2,qZi)],[],false⟩
theorem adP:md 19 (wd f194 0) qZi:=lp (A:=vCb) qZi (fun d=>match d with|.inl d=>.inl ()|.inr d=>.inr (wl d)) vEu KO E6 (e1 yP0) zF
theorem adR:gc (zI 194 [.c (.dat false .i),.fn 193 [[.fn 130]]] (.c .i) (fun k d=>Yg k d.1) (fun x=>(x,())) (fun d=>d.1)):=fA f194 vCb (e1 yP0) (loops1 adP)
theorem vX5:gc (zI 132 [.c (.dat false .i),.fn 193 [[.fn 130]]] (.c .bool) (fun k d=>PN k d.1) (fun x=>(x,())) (fun d=>d.1)):=fA f132 Pa (e1 adR) zF
theorem vIu:gc (zI 129 [.c (.dat false .i),.c .i,.c (.fn 130)] (.c .bool) (fun k d=>PO k d.1 d.2.1) (fun x=>(x,())) (fun d=>d.1)):=fA f129 Pa (e1 vX5) zF
def yX7:zE:=sp [sI 1,(2,.c (.lit (.fn 130 []))),(13,.c (.dat false (.sl .i))),sI 14,sI 15] []
def yW1 (f:qOi)(d:yX7.den):=f (wl d) (Rd d) (Fd d) (ce d)
def qUi:zT:=⟨[yX7],[(.exit 0,yZp),(.ret,yV6)],(Unit⊕Bool),fun k d=>yW1 (KR k k) d,fun b x _ K=>match x with|.inl x=>K (.exit 0) (zL b yZp ((),()))|.inr x=>K .ret (zL b yV6 (((x,()),()),()))⟩
def vDq:zU:=⟨[],[(4,qUi)],[],false⟩
theorem vV8:md 25 (wd f127 0) qUi:=lp (A:=vDq) qUi (fun d=>match d with|.inl d=>.inl ()|.inr d=>.inr (wl d)) yW1 KR E8 (e1 vIu) zF
theorem vR0:gc (zI 127 [.c (.dat false (.sl .i)),.c .i,.c (.fn 130)] (.c .bool) (fun k d=>PR k d.1 d.2.1) (fun x=>(x,())) (fun d=>d.1)):=fA f127 vDq (e1 vIu) (loops1 vV8)
def vIl:zE:=sp [(0,.c (.dat false (.sl .i))),sI 3,(7,.c (.dat false (.sl .i))),sI 8,sI 9,(14,.c (.dat false .i)),sI 15,sI 16] []
def vAa:zE:=sp [(0,.c (.dat false (.sl .i))),(7,.c (.dat false (.sl .i))),sI 8,sI 9] []
def yPj (f:yEt)(d:vIl.den):=f (wl d) (pi d) (Rd d) (Fd d) (ce d) (ci d) (un d) (ap d)
def qTg:zT:=⟨[vIl],[(.exit 2,vAa),(.ret,yT1)],qQ0,fun k d=>yPj (E9 k k) d,fun b x _ K=>match x with|.inl x=>K (.exit 2) (zL b vAa (((x.1,()),(x.2.1,()),(Mj x,()),(x.2.2.2,()),()),()))|.inr x=>K .ret (zL b yT1 (((x,()),()),()))⟩
def yY5 (f:qU3)(d:vAa.den):=f (wl d) (pi d) (Rd d) (Fd d)
def qW9:zT:=⟨[vAa],[(.exit 0,yZp),(.ret,yT1)],(Unit⊕Bool),fun k d=>yY5 (KS k k) d,fun b x _ K=>match x with|.inl x=>K (.exit 0) (zL b yZp ((),()))|.inr x=>K .ret (zL b yT1 (((x,()),()),()))⟩
def yBs:zU:=⟨[],[(5,qTg),(2,qW9)],[],false⟩
theorem adU:md 33 (zQ (wd f131 0) 0) qTg:=lp (A:=yBs) qTg (fun d=>match d with|.inl d=>.inl (wl d,pi d,Rd d,Fd d)|.inr d=>.inr (wl d)) yPj E9 Fa e0 zF
theorem adV:md 33 (wd f131 0) qW9:=lp (A:=yBs) qW9 (fun d=>match d with|.inl d=>.inl ()|.inr d=>.inr (wl d)) yY5 KS Fc e0 (loops1 adU)
theorem vOm:gc (zI 131 [.c (.dat false (.sl .i))] (.c .bool) (fun k d=>PS k d.1) (fun x=>(x,())) (fun d=>d.1)):=fA f131 yBs e0 (loops1 adV)
theorem SI:gc (zI 75 [.agg jZ] (.c .bool) (fun k d=>(vF (Fe k) d)) (fun x=>(x,())) (fun d=>d.1)):=fA f75 Pa (e5 adF vXp qPh vR0 vOm) zF
def yO1:zE:=sp [sP 2 0,sP 4 1,sP 7 2,(24,.c (.dat false zG)),sI 25,sI 26] [oB wC,oB oD,oB tz,oA qQ,.mat,oA .i,.mat]
def yRo:zE:=sp [sP 2 0,sP 4 1,sP 7 2] [oB wC,oB oD,oB tz,oA qQ,.mat,oA .i,.mat]
def vGt (f:yAe)(d:yO1.den):=(vF (f (Fd d) (ce d) (ci d)) d.2.1) (ii d) (ge d) (If d) (rg d)
def yEe:zT:=⟨[yO1],[(.exit 0,yRo)],qVj,fun k d=>vGt (Fq k k) d,fun b x _ K=>K (.exit 0) (zL b yRo (((),(),(),()),((vV x ()),(),(),ii x,ge x,If x,x.2.2.2.2.2.2.2,())))⟩
def vEk:zU:=⟨[],[(6,yEe)],[],false⟩
theorem adW:md 104 (wd f259 0) yEe:=lp (A:=vEk) yEe (fun d=>(vV d.2.1 (ii d,ge d,If d,rg d))) vGt Fq Fs (e4 yOg pH SC SI) zF
theorem Dd:gc (zI 259 [.agg lg,.c (.dat false zG)] (.tup [(true,ny),(false,yF)]) (fun k d=>(lJ (qm k) d)) (fun x=>(vK x ())) (fun d=>(qZ d))):=fA f259 vEk (e4 yOg pH SC SI) (loops1 adW)
def yU1:zE:=sp [sP 3 0,sP 6 1,sP 7 2,sO 15 3,sI 16,sI 17] [oB wC,oB vY,oB oD,oA zG]
def yZn:zE:=sp [sP 3 0,sP 6 1,sP 7 2] [oB wC,oB vY,oB oD]
def yKl:zE:=sp [sP 6 0,sP 7 1,(8,.c .bool)] [oB vY,oB wC]
def vFm (f:yB4)(d:yU1.den):=(mA (vF (f (ce d) (ci d)) d.2.1) (Mj d)) (ii d)
def qPj:zT:=⟨[yU1],[(.exit 0,yZn),(.ret,yKl)],yAu,fun k d=>vFm (LN k k) d,fun b x _ K=>match x with|.inl x=>K (.exit 0) (zL b yZn (((),(),(),()),((vV x ()),(ND x ()),(),())))|.inr x=>K .ret (zL b yKl (((),(),(x.1,()),()),((qY9 x ()),(vPz x ()),())))⟩
def vGq:zU:=⟨[],[(2,qPj)],[],false⟩
theorem vOc:md 40 (wd f281 0) qPj:=lp (A:=vGq) qPj (fun d=>match d with|.inl d=>.inl (vV d.2.1 (vO (Mj d)))|.inr d=>.inr (Rd d,(kk d.2.1 (jM (Mj d))))) vFm LN Gu (e3 NA NC Dd) zF
theorem yFp:gc (zI 281 [.agg lg,.c (.dat true zG),.c .i] (.tup [(true,pG),(true,ny),(false,[.bool])]) (fun k d=>(kq (QD k) d)) (fun x=>(IZ x ())) (fun d=>(I1 d))):=fA f281 vGq (e3 NA NC Dd) (loops1 vOc)
def vFw:zE:=⟨[sI 2,sP 6 0,(7,.c (.dat true zG)),sO 8 1],[oB wC,oA zG],[(8,none,zG,false)]⟩
def yXx:zE:=sp [sP 6 0,(7,.c (.dat true zG)),sO 8 1] [oB wC,oA zG]
def yKj (f:qPu)(d:vFw.den):=(vF (f (wl d) (Rd d)) d.2.1) (Mj d)
def qYf:zT:=⟨[vFw],[(.ret,yXx)],yDo,fun k d=>yKj (LO k k) d,fun b x _ K=>K .ret (zL b yXx (((),(x.1,()),(),()),((iK x ()),Fr x,())))⟩
def yGc:zU:=⟨[],[(2,qYf)],[],false⟩
theorem adX:md 40 (wd f254 0) qYf:=lp (A:=yGc) qYf (fun d=>(pi d,(vV d.2.1 (Mj d)))) yKj LO Gw (e2 yFp rp) zF
theorem vJv:gc (zI 254 [.agg lg,.c (.dat true zG),.c .i] (.tup [(true,ny),(false,[.fro zG]),(false,[.own zG])]) (fun k d=>(kq (QE k) d)) (fun x=>(oE x ())) (fun d=>(nz d))):=fA f254 yGc (e2 yFp rp) (loops1 adX)
def vBs:zE:=sp [sP 3 0,sP 6 1,sO 8 2,sP 10 3,sO 18 2,sI 19,sI 20,sO 24 2,sI 25,sI 26] [oB wC,oB SJ,oA zG,oB vY]
def yOf:zE:=sp [sP 3 0,sP 6 1,sO 8 2,sO 18 2,sI 19,sI 20] [oB wC,oB SJ,oA zG]
def yYk:zE:=sp [sP 6 0,(7,.c .bool)] [oB yIr]
def vDe (f:qWy)(d:vBs.den):=(mA ((IU (vF (f (ci d) (un d) d.1.2.2.2.2.2.2.2.2.1.1 d.1.2.2.2.2.2.2.2.2.2.1.1) d.2.1) (Mj d)) (li d)) (ii d))
def qUy:zT:=⟨[vBs],[(.exit 2,yOf),(.ret,yYk)],qNv,fun k d=>vDe (LP k k) d,fun b x _ K=>match x with|.inl x=>K (.exit 2) (zL b yOf (((),(),(),(),(x.1,()),(x.2.1,()),()),((Sr x ()),(vQr x ()),x.2.2.2.2.2.2.2.2.2.2.2.2.2.2.2.2.2.2.2.2,())))|.inr x=>K .ret (zL b yYk (((),(x.1,()),()),((yBv x ()),())))⟩
def yQu:zE:=sp [sP 6 0] [oB SJ]
def vF2 (f:qVa)(d:yOf.den):=(IU (vF (f (ce d) (ci d)) d.2.1) (Mj d)) (li d)
def qP4:zT:=⟨[yOf],[(.exit 0,yQu),(.ret,yYk)],yB2,fun k d=>vF2 (LR k k) d,fun b x _ K=>match x with|.inl x=>K (.exit 0) (zL b yQu (((),()),((qTu x ()),())))|.inr x=>K .ret (zL b yYk (((),(x.1,()),()),((yBv x ()),())))⟩
def yAf:zU:=⟨[],[(6,qUy),(3,qP4)],[],false⟩
theorem vP8:md 74 (zQ (wd f282 0) 0) qUy:=lp (A:=yAf) qUy (fun d=>match d with|.inl d=>.inl (ce d,ci d,(vV d.2.1 (qPf (Mj d) (li d))))|.inr d=>.inr (pi d,(jQ d.2.1))) vDe LP Gz (e3 NA NC Dd) zF
theorem adZ:md 74 (wd f282 0) qP4:=lp (A:=yAf) qP4 (fun d=>match d with|.inl d=>.inl (yMz d.2.1)|.inr d=>.inr (pi d,(jQ d.2.1))) vF2 LR GA (e3 NA NC Dd) (loops1 vP8)
theorem yBg:gc (zI 282 [.agg lg,.c (.dat true zG),.c .i] (.tup [(true,[.i,.i,.i,.i,.i,.i,.i,.i,.i,.i,.i,.i,.i,.i,.fro qQ,.fro (.sl .i),.fro .i,.fro (.sl .i)]),(false,[.bool])]) (fun k d=>(kq (QG k) d)) (fun x=>(AE x ())) (fun d=>(SK d))):=fA f282 yAf (e3 NA NC Dd) (loops1 adZ)
def yLf:zE:=⟨[sI 2,sP 6 0,(7,.c (.dat true zG)),sO 8 1,sO 33 2,sI 34,sI 35],[oB wC,oA zG,oA zG],[(8,none,zG,false)]⟩
def yIz:zE:=sp [sI 2,sP 6 0,(7,.c (.dat true zG)),sO 8 1] [oB wC,oA zG]
def yV0 (f:qN2)(d:yLf.den):=(vF (f (wl d) (Rd d) (ci d) (un d)) d.2.1) (Mj d) (li d)
def yAs:zT:=⟨[yLf],[(.exit 2,yIz)],qPo,fun k d=>yV0 (xW k k) d,fun b x _ K=>K (.exit 2) (zL b yIz (((x.1,()),(),(x.2.1,()),(),()),((Sr x ()),x.2.2.2.2.2.2,())))⟩
def vG9 (f:qPu)(d:vFw.den):=(vF (f (wl d) (Rd d)) d.2.1) (Mj d)
def qUq:zT:=⟨[vFw],[(.ret,yXx)],yDo,fun k d=>vG9 (LS k k) d,fun b x _ K=>K .ret (zL b yXx (((),(x.1,()),(),()),((iK x ()),Fr x,())))⟩
def qR8:zU:=⟨[],[(7,yAs),(2,qUq)],[],false⟩
theorem vO6:md 52 (zQ (wd f255 0) 0) yAs:=lp (A:=qR8) yAs (fun d=>(wl d,Rd d,(vV d.2.1 (Mj d)))) yV0 xW xX (e2 yBg rp) zF
theorem ad0:md 52 (wd f255 0) qUq:=lp (A:=qR8) qUq (fun d=>(pi d,(vV d.2.1 (Mj d)))) vG9 LS GB (e2 yBg rp) (loops1 vO6)
theorem yUw:gc (zI 255 [.agg lg,.c (.dat true zG),.c .i] (.tup [(true,ny),(false,[.fro zG]),(false,[.own zG])]) (fun k d=>(kq (QH k) d)) (fun x=>(oE x ())) (fun d=>(nz d))):=fA f255 qR8 (e2 yBg rp) (loops1 ad0)
def yK0 (f:qPu)(d:vFw.den):=(vF (f (wl d) (Rd d)) d.2.1) (Mj d)
def qSj:zT:=⟨[vFw],[(.ret,yXx)],yDo,fun k d=>yK0 (L4 k k) d,fun b x _ K=>K .ret (zL b yXx (((),(x.1,()),(),()),((iK x ()),Fr x,())))⟩
def yO7:zU:=⟨[],[(2,qSj)],[],false⟩
theorem vUc:md 40 (wd f218 0) qSj:=lp (A:=yO7) qSj (fun d=>(pi d,(vV d.2.1 (Mj d)))) yK0 L4 QO (e2 vJv yUw) zF
theorem vNr:gc (zI 218 [.agg lg,.c (.dat true zG),.c .i] (.tup [(true,ny),(false,[.fro zG]),(false,[.own zG])]) (fun k d=>(kq (L5 k) d)) (fun x=>(oE x ())) (fun d=>(nz d))):=fA f218 yO7 (e2 vJv yUw) (loops1 vUc)
theorem vSe:gc (xC 284 false .i (.own .i) ZG):=fC f284 Pa e0 zF
theorem yPz:gc (yB 285 [.agg vM,.ptr true [.own .i]] (.c .bool) [[.own .i]] 0 (fun k d=>(mz (ZI k) d)) (fun x=>(x.1,x.2,())) (fun d=>(d.1,d.2.1))):=fX f285 Pa 2 e0 zF
def yFu:zE:=⟨[(1,.c (.lit (.fn 285 [1001000]))),sO 5 2,(8,.c (.dat false zG)),sI 9,sI 10],[oB [.lit (.osl 1001001 none)],oA .i,oA zG],[(5,none,zG,false)]⟩
def yTa:zE:=sp [(1,.c (.lit (.fn 285 [1001000]))),sO 5 2] [oB [.lit (.osl 1001001 none)],oA .i,oA zG]
def vFx (f:qX5)(d:yFu.den):=f (Rd d) (Fd d) (ce d) (Mj d) (li d)
def qO4:zT:=⟨[yFu],[(.exit 0,yTa)],qLo,fun k d=>vFx (GG k k) d,fun b x _ K=>K (.exit 0) (zL b yTa (((),(),()),((),x.1,x.2,())))⟩
def yJa:zU:=⟨[],[(3,qO4)],[],false⟩
theorem ad3:zS prog 1000 2 23 (wd f199 0) qO4:=lp (A:=yJa) qO4 (fun d=>(Mj d,li d)) vFx GG GH (e1 yPz) zF
theorem ad4:gc (yB 199 [.c (.p (.dat false zG)),.fn 285 [(true,[.own .i])]] (.c (.own zG)) [[.own .i]] 0 (fun k d=>ZH k d.1 d.2.1) (fun x=>(x.1,x.2,())) (fun d=>(d.1,d.2.1))):=fX f199 yJa 2 (e1 yPz) (loops1 ad3)
theorem I2:gc (zI 257 [.c (.dat false zG),.c (.dat false .i)] (.c (.own zG)) (fun k d=>GD k d.1 d.2.1) (fun x=>(x,())) (fun d=>d.1)):=fA f257 Pa (e2 vSe ad4) zF
def yN2:zE:=⟨[sP 3 0,sO 6 1,sI 7,sO 8 2,sI 18,sI 19],[oB jP,oA .i,oA zG],[(6,none,.i,false)]⟩
def ySr:zE:=sp [sP 3 0,sO 6 1,sI 7,sO 8 2] [oB jP,oA .i,oA zG]
def yVt (f:qRl)(d:yN2.den):=(vF (f (Rd d) (ce d) (ci d)) d.2.1) (Mj d) (li d)
def SM:zT:=⟨[yN2],[(.exit 0,ySr)],yA5,fun k d=>yVt (Cb k k) d,fun b x _ K=>K (.exit 0) (zL b ySr (((),(),(x.1,()),(),()),((iK x ()),ge x,x.2.2.2.2.2.2,())))⟩
def yZz:zE:=sp [sP 3 0,sO 6 1,sI 7,sO 8 2,sO 42 3,sI 43,sI 44] [oB jP,oA .i,oA zG,oA .i]
def yIg (f:yC1)(d:yZz.den):=(vF (f (Rd d) (ci d) (un d)) d.2.1) (Mj d) (li d) (ii d)
def qLh:zT:=⟨[yZz],[(.exit 4,ySr)],yA5,fun k d=>yIg (GK k k) d,fun b x _ K=>K (.exit 4) (zL b ySr (((),(),(x.1,()),(),()),((iK x ()),ge x,x.2.2.2.2.2.2,())))⟩
def vHa:zE:=sp [sO 6 0,sI 7] [oA .i]
def yQj (f:yAn)(d:ySr.den):=(vF (f (Rd d)) d.2.1) (Mj d) (li d)
def SN:zT:=⟨[ySr],[(.ret,vHa)],(Int×AC),fun k d=>yQj (LZ k k) d,fun b x _ K=>K .ret (zL b vHa (((),(x.1,()),()),(x.2,())))⟩
def SO:zU:=⟨[],[(3,SM),(12,qLh),(7,SN)],[],false⟩
theorem vNp:md 55 (wd f256 0) SM:=lp (A:=SO) SM (fun d=>(Rd d,(vV d.2.1 (Mj d,li d)))) yVt Cb GJ (e4 Dc Nw I2 NB) zF
theorem vPd:md 55 (zQ (wd f256 1) 0) qLh:=lp (A:=SO) qLh (fun d=>(Rd d,(vV d.2.1 (Mj d,li d)))) yIg GK GL (e4 Dc Nw I2 NB) zF
theorem ad6:md 55 (wd f256 1) SN:=lp (A:=SO) SN (fun d=>(pi d,d.2.1)) yQj LZ GM (e4 Dc Nw I2 NB) (loops1 vPd)
theorem vGe:gc (zI 256 [.agg jZ,.c (.dat false zG),.c .i] (.tup [(false,[.own .i]),(false,yF)]) (fun k d=>(kq (QL k) d)) (fun x=>(x.1,x.2,())) (fun d=>(d.1,d.2.1))):=fA f256 SO (e4 Dc Nw I2 NB) (mc (n:=2) (by kernel_rfl) fun i hi=>match i,hi with|0,_=>⟨SM,by kernel_rfl,vNp⟩|1,_=>⟨SN,by kernel_rfl,ad6⟩|i+2,hi=>absurd hi (by omega))
def yGi:zE:=sp [sP 6 0,(7,.c (.dat true zG)),sO 11 1,sO 38 1,sI 39,sI 40] [oB wC,oA zG]
def vIp:zE:=sp [sP 6 0,(7,.c (.dat true zG)),sO 11 1] [oB wC,oA zG]
def yJ7 (f:qQ1)(d:yGi.den):=(vF (f (pi d) (ce d) (ci d)) d.2.1) (Mj d)
def qV2:zT:=⟨[yGi],[(.exit 0,vIp)],yDo,fun k d=>yJ7 (Cc k k) d,fun b x _ K=>K (.exit 0) (zL b vIp (((),(x.1,()),(),()),((iK x ()),Fr x,())))⟩
def vCv:zU:=⟨[],[(8,qV2)],[],false⟩
theorem ad7:md 56 (wd f219 0) qV2:=lp (A:=vCv) qV2 (fun d=>(pi d,(vV d.2.1 (Mj d)))) yJ7 Cc GN (e5 vGe Dc I2 Dd rp) zF
theorem vSp:gc (zI 219 [.agg lg,.c (.dat true zG),.c .i] (.tup [(true,ny),(false,[.fro zG]),(false,[.own zG])]) (fun k d=>(kq (Cd k) d)) (fun x=>(oE x ())) (fun d=>(nz d))):=fA f219 vCv (e5 vGe Dc I2 Dd rp) (loops1 ad7)
theorem aea:gc (zI 157 [.agg lg,.c (.dat true zG),.c .i,.c .bool] (.tup [(true,ny),(false,[.fro zG]),(false,[.own zG])]) (fun k d=>(mA (yc k) d)) (fun x=>(oE x ())) (fun d=>(nz d))):=fA f157 Pa (e2 vNr vSp) zF
def yFc:zE:=⟨[sO 3 0,sP 5 1,(8,.c (.dat false zG)),sI 9,sI 10,sO 18 2,sI 19,sI 20],[oA yE,oB vY,oA .i],[(3,none,yE,false)]⟩
def yHg:zE:=sp [sO 3 0,(8,.c (.dat false zG)),sI 9,sI 10] [oA yE]
def yGo (f:qZz)(d:yFc.den):=(mA (f (Rd d) (Fd d) (ce d) (un d) (ap d) d.2.1) (Mj d)) (li d)
def qYa:zT:=⟨[yFc],[(.exit 2,yHg)],qXn,fun k d=>yGo (ye k k) d,fun b x _ K=>K (.exit 2) (zL b yHg (((),(x.1,()),(x.2.1,()),(Mj x,()),()),(x.2.2.2,())))⟩
def yYo:zE:=⟨[sO 3 0,(8,.c (.dat false zG)),sI 9,sI 10],[oA yE],[(3,none,yE,false)]⟩
def yGs:zE:=sp [sO 3 0] [oA yE]
def vE4 (f:yAi)(d:yYo.den):=f (pi d) (Rd d) (Fd d) d.2.1
def qYi:zT:=⟨[yYo],[(.exit 0,yGs)],qUl,fun k d=>vE4 (L6 k k) d,fun b x _ K=>K (.exit 0) (zL b yGs (((),()),(x,())))⟩
def qSf:zU:=⟨[],[(6,qYa),(3,qYi)],[],false⟩
theorem aeb:md 41 (zQ (wd f158 0) 0) qYa:=lp (A:=qSf) qYa (fun d=>(pi d,Rd d,Fd d,d.2.1)) yGo ye yf (e1 AA) zF
theorem vKq:md 41 (wd f158 0) qYi:=lp (A:=qSf) qYi (fun d=>d.2.1) vE4 L6 GQ (e1 AA) (loops1 aeb)
theorem aec:gc (zI 158 [.c (.dat false zG)] (.c (.own yE)) (fun k d=>QP k d.1) (fun x=>(x,())) (fun d=>d.1)):=fA f158 qSf (e1 AA) (loops1 vKq)
theorem yEc:gc (zI 86 [.agg Av,.c .bool] (.tup [(true,Au),(false,[.own yE])]) (fun k d=>(NF (uR k) d)) (fun x=>(IZ x ())) (fun d=>(I1 d))):=fA f86 Pa (e2 aea aec) zF
def yFh:zE:=⟨[sP 2 0,sP 3 1,sP 4 2,sO 6 3,sO 7 4,(27,.c (.dat true zG)),sI 28,sI 29],[oB iH,oB iI,oB jN,oA yE,oA zG],[(6,none,yE,false),(7,none,zG,false)]⟩
def yLa:zE:=sp [sP 2 0,sP 3 1,sP 4 2,sO 6 3,sO 7 4] [oB iH,oB iI,oB jN,oA yE,oA zG]
def yYz (f:qNg)(d:yFh.den):=(tx (lJ (f (ci d) (un d) (ap d)) d.2.1) (Mj d)) (pp d) (In d) (ip d) (ii d) (ge d)
def qPg:zT:=⟨[yFh],[(.exit 0,yLa)],qYl,fun k d=>yYz (GZ k k) d,fun b x _ K=>K (.exit 0) (zL b yLa (((),(),(),(),(),()),((gg x ()),(aee x ()),(x.2.2.2.2.2.2.2.2.2.2.2.2.2.2.2.2.1,x.2.2.2.2.2.2.2.2.2.2.2.2.2.2.2.2.2.1,Id x,()),be x,x.2.2.2.2.2.2.2.2.2.2.2.2.2.2.2.2.2.2.2.2,())))⟩
def yXz:zU:=⟨[],[(9,qPg)],[],false⟩
theorem vNy:md 66 (wd f85 0) qPg:=lp (A:=yXz) qPg (fun d=>(gg d.2.1 (AB (Mj d) (pp d,In d,ip d,ii d,ge d)))) yYz GZ G0 (e6 SD yId yIa AA yK2 yEc) zF
theorem aeg:gc (zI 85 [.agg ig,.agg Av] (.tup [(true,Au),(false,[.own yE])]) (fun k d=>(yV4 (yh k) d)) (fun x=>(IZ x ())) (fun d=>(I1 d))):=fA f85 yXz (e6 SD yId yIa AA yK2 yEc) (loops1 vNy)
theorem vY9:gc (yB 147 [.ptr true Aw,.agg Ny] (.c .i) [lH] 0 (fun k d=>yTx k (lI d) (yXv d)) (fun x=>(x.1,(jR x.2 ()))) (fun d=>(d.1,(ko d)))):=fX f147 n0 1 (e4 iJ yYl yRm Sw) zF
theorem vOv:gc (yB 148 [.ptr true Aw,.agg vM] (.c .i) [lH] 0 (fun k d=>SP k (lI d) (IW d)) (fun x=>(x.1,(jR x.2 ()))) (fun d=>(d.1,(ko d)))):=fX f148 n0 1 (e8 yUg rp yVc iJ qNx yPd yMd yMb) zF
theorem vM6:gc (yB 149 [.ptr true Aw,.agg vM] (.c .i) [lH] 0 (fun k d=>SQ k (lI d) (IW d)) (fun x=>(x.1,(jR x.2 ()))) (fun d=>(d.1,(ko d)))):=fX f149 n0 1 (e3 pH yJn iJ) zF
theorem vQ0:gc (yB 150 [.ptr true Aw,.c (.p .i),.c (.p .i)] (.c .i) [lH] 0 (fun k d=>vGn k (lI d) (Id d) (be d)) (fun x=>(x.1,(jR x.2 ()))) (fun d=>(d.1,(ko d)))):=fX f150 n0 1 (e6 IX iJ vAj IY Az pH) zF
theorem aek:gc (yB 151 [.ptr true Aw,.c (.p .i),.c (.p .i),.c (.p .i)] (.c .i) [lH] 0 (fun k d=>HA k (lI d) (Id d) (be d) d.2.2.2.2.2.2.2.2.2.2.2.2.2.2.2.2.2.2.2.2.1) (fun x=>(x.1,(jR x.2 ()))) (fun d=>(d.1,(ko d)))):=fX f151 n0 1 (e5 iJ yGj yIh vBk pH) zF
def yZk:zE:=sp [sP 0 0,sO 7 1,sP 8 2,(40,.c (.dat true (.sl .i))),sI 41,sI 42] [oB qRx,oA .i,oB tz,oA qQ,.mat,oA .i,.mat]
def vFy:zE:=sp [sP 0 0,sO 7 1,sP 8 2] [oB qRx,oA .i,oB tz,oA qQ,.mat,oA .i,.mat]
def yS6:zE:=sp [sP 0 0,sI 6] [oB qRx]
def yHd (f:qXl)(d:yZk.den):=f (Fd d) (ce d) (ci d) (lI d.2.1) (Mj d) (ii d) (ge d) (If d) (rg d)
def qQw:zT:=⟨[yZk],[(.exit 0,vFy),(.ret,yS6)],qLr,fun k d=>yHd (vg k k) d,fun b x _ K=>match x with|.inl x=>K (.exit 0) (zL b vFy (((),(),(),()),((vR x.1 ()),x.2.1,(),Mj x,li x,ii x,Fr x,())))|.inr x=>K .ret (zL b yS6 (((),(x.1,()),()),((vR x.2 ()),())))⟩
def vH8:zU:=⟨[],[(6,qQw)],[],true⟩
theorem vR6:zS prog 1000 1 81 (wd f152 0) qQw:=lp (A:=vH8) qQw (fun d=>match d with|.inl d=>.inl ((lI d.2.1),Mj d,ii d,ge d,If d,rg d)|.inr d=>.inr (pi d,(lI d.2.1))) yHd vg HF (e5 IX iJ IY pH Az) zF
theorem vOy:gc (yB 152 [.ptr true Aw,.c (.p .i),.c (.p .i)] (.c .i) [lH] 0 (fun k d=>Rg k (lI d) (Id d) (be d)) (fun x=>(x.1,(jR x.2 ()))) (fun d=>(d.1,(ko d)))):=fX f152 vH8 1 (e5 IX iJ IY pH Az) (loops1 vR6)
theorem vW8:gc (yB 84 [.ptr true Aw,.agg vM] (.c .i) [lH] 0 (fun k d=>ID k (lI d) (IW d)) (fun x=>(x.1,(jR x.2 ()))) (fun d=>(d.1,(ko d)))):=fX f84 n0 1 (e6 vY9 vOv vM6 vQ0 aek vOy) zF
theorem qZp:gc (zI 32 [.agg NG,.agg Av,.agg C7] (.tup [(true,Au),(false,[.own yE]),(false,yF)]) (fun k d=>IF k (qZ d) (gM d) (qNt d)) (fun x=>(vP x.1 (x.2.1,x.2.2,()))) (fun d=>((qO d),ul d,co d))):=fA f32 n0 (e9 vUy acg yVc vYk aeg yEc Ax vC1 vW8) zF
theorem R7:gc (yB 33 [.chn [Np,nu],.c (.p (.dat false (.int .u8)))] (.c .i) [Nq,lf] 0 (fun k d=>ot k (zz d) (C6 d) (lm d)) (fun x=>(x.1,(),(jI x.2.1 (wY x.2.2 ())))) (fun d=>(d.1,(Nr d),(Ns d)))):=fX f33 n0 0 (e1 yPl) zF
theorem yLi:gc (zI 133 [.c .i] (.c .bool) (fun k d=>yBu k d.1) (fun x=>(x,())) (fun d=>d.1)):=fA f133 n0 (e1 iJ) zF
def yUi:zE:=sp [(0,.c (.dat false .i)),(1,.c (.lit (.fn 133 []))),sI 7,sI 8] []
def yK1 (f:yDm)(d:yUi.den):=f (wl d) (Rd d) (Fd d)
def yA8:zT:=⟨[yUi],[(.exit 0,yZp),(.ret,yQb)],(Unit⊕Int),fun k d=>yK1 (CK k k) d,fun b x _ K=>match x with|.inl x=>K (.exit 0) (zL b yZp ((),()))|.inr x=>K .ret (zL b yQb (((x,()),()),()))⟩
def yN8:zU:=⟨[],[(2,yA8)],[],false⟩
theorem vRf:md 19 (wd f194 0) yA8:=lp (A:=yN8) yA8 (fun d=>match d with|.inl d=>.inl ()|.inr d=>.inr (wl d)) yK1 CK HZ (e1 yLi) zF
theorem aep:gc (zI 194 [.c (.dat false .i),.c (.fn 133)] (.c .i) (fun k d=>qZ3 k d.1) (fun x=>(x,())) (fun d=>d.1)):=fA f194 yN8 (e1 yLi) (loops1 vRf)
theorem vDb:gc (zI 132 [.c (.dat false .i),.c (.fn 133)] (.c .bool) (fun k d=>MS k d.1) (fun x=>(x,())) (fun d=>d.1)):=fA f132 Pa (e1 aep) zF
theorem yFm:gc (zI 135 [.c .i] (.c .bool) (fun k d=>qPk k d.1) (fun x=>(x,())) (fun d=>d.1)):=fA f135 n0 e0 zF
def ySd:zE:=sp [(0,.c (.dat false .i)),(1,.c (.lit (.fn 135 []))),sI 7,sI 8] []
def vIv (f:yDm)(d:ySd.den):=f (wl d) (Rd d) (Fd d)
def yA6:zT:=⟨[ySd],[(.exit 0,yZp),(.ret,yQb)],(Unit⊕Int),fun k d=>vIv (CL k k) d,fun b x _ K=>match x with|.inl x=>K (.exit 0) (zL b yZp ((),()))|.inr x=>K .ret (zL b yQb (((x,()),()),()))⟩
def yY6:zU:=⟨[],[(2,yA6)],[],false⟩
theorem vTq:md 19 (wd f194 0) yA6:=lp (A:=yY6) yA6 (fun d=>match d with|.inl d=>.inl ()|.inr d=>.inr (wl d)) vIv CL H0 (e1 yFm) zF
theorem vTb:gc (zI 194 [.c (.dat false .i),.c (.fn 135)] (.c .i) (fun k d=>qZh k d.1) (fun x=>(x,())) (fun d=>d.1)):=fA f194 yY6 (e1 yFm) (loops1 vTq)
theorem ySk:gc (zI 132 [.c (.dat false .i),.c (.fn 135)] (.c .bool) (fun k d=>Rx k d.1) (fun x=>(x,())) (fun d=>d.1)):=fA f132 Pa (e1 vTb) zF
def vJz:zE:=sp [sP 2 0,sP 3 1,(28,.c (.dat false (.sl .i))),sI 29,sI 30] [oB iH,oB lK]
def vHg:zE:=sp [(4,.c .bool)] []
def vCz (f:qQg)(d:vJz.den):=f (Rd d) (Fd d) (ce d) (qZ d.2.1) (qO (Mj d))
def qN0:zT:=⟨[vJz],[(.exit 0,yZp),(.ret,vHg)],(Unit⊕Bool),fun k d=>vCz (zn k k) d,fun b x _ K=>match x with|.inl x=>K (.exit 0) (zL b yZp ((),()))|.inr x=>K .ret (zL b vHg (((x,()),()),()))⟩
def vFs:zU:=⟨[],[(6,qN0)],[],true⟩
theorem aet:md 66 (wd f76 0) qN0:=lp (A:=vFs) qN0 (fun d=>match d with|.inl d=>.inl ()|.inr d=>.inr (wl d)) vCz zn H2 (e3 vDb Az ySk) zF
theorem yZ4:gc (zI 76 [.agg ig,.agg nx] (.c .bool) (fun k d=>MU k (qZ d) (gM d)) (fun x=>(x,())) (fun d=>d.1)):=fA f76 vFs (e3 vDb Az ySk) (loops1 aet)
def yVp:zE:=sp [(0,.c (.dat false zG)),(1,.c (.lit (.fn 198 []))),sI 5] []
def vJ6 (f:yEi)(d:yVp.den):=f (wl d) (Rd d)
def qOl:zT:=⟨[yVp],[(.exit 0,yZp),(.ret,vHg)],(Unit⊕Bool),fun k d=>vJ6 (CH k k) d,fun b x _ K=>match x with|.inl x=>K (.exit 0) (zL b yZp ((),()))|.inr x=>K .ret (zL b vHg (((x,()),()),()))⟩
def yLt:zU:=⟨[],[(2,qOl)],[],true⟩
theorem vRr:md 25 (wd f197 0) qOl:=lp (A:=yLt) qOl (fun d=>match d with|.inl d=>.inl ()|.inr d=>.inr (wl d)) vJ6 CH Rv (e1 IV) zF
theorem yN7:gc (zI 197 [.c (.dat false zG),.c (.fn 198)] (.c .bool) (fun k d=>Ru k d.1) (fun x=>(x,())) (fun d=>d.1)):=fA f197 yLt (e1 IV) (loops1 vRr)
def yM3:zE:=sp [(0,.c (.dat false zG)),(5,.c (.dat false zG)),sI 6,sI 7] []
def vJ5:zE:=sp [(0,.c (.dat false zG))] []
def yM8 (f:qPd)(d:yM3.den):=f (wl d) (pi d) (Rd d) (Fd d)
def yDl:zT:=⟨[yM3],[(.exit 0,vJ5),(.ret,yT1)],qO6,fun k d=>yM8 (CG k k) d,fun b x _ K=>match x with|.inl x=>K (.exit 0) (zL b vJ5 (((x,()),()),()))|.inr x=>K .ret (zL b yT1 (((x,()),()),()))⟩
def yZr:zU:=⟨[],[(2,yDl)],[],false⟩
theorem aev:md 26 (wd f139 0) yDl:=lp (A:=yZr) yDl (fun d=>match d with|.inl d=>.inl (wl d)|.inr d=>.inr (wl d)) yM8 CG HW (e2 Ax yN7) zF
theorem aex:gc (zI 139 [.c (.dat false zG)] (.c .bool) (fun k d=>MO k d.1) (fun x=>(x,())) (fun d=>d.1)):=fA f139 yZr (e2 Ax yN7) (loops1 aev)
def yZh:zE:=sp [(0,.c (.dat false .i)),sI 3,(6,.c (.dat false .i)),sI 7,sI 8] []
def yVr:zE:=sp [(0,.c (.dat false .i))] []
def yGk (f:qRb)(d:yZh.den):=f (wl d) (pi d) (Rd d) (Fd d) (ce d)
def qPy:zT:=⟨[yZh],[(.exit 0,yVr),(.ret,yT1)],(AC⊕Bool),fun k d=>yGk (CI k k) d,fun b x _ K=>match x with|.inl x=>K (.exit 0) (zL b yVr (((x,()),()),()))|.inr x=>K .ret (zL b yT1 (((x,()),()),()))⟩
def yHk:zU:=⟨[],[(3,qPy)],[],true⟩
theorem aey:md 20 (wd f140 0) qPy:=lp (A:=yHk) qPy (fun d=>match d with|.inl d=>.inl (wl d)|.inr d=>.inr (wl d)) yGk CI HX e0 zF
theorem aeA:gc (zI 140 [.c (.dat false .i)] (.c .bool) (fun k d=>MP k d.1) (fun x=>(x,())) (fun d=>d.1)):=fA f140 yHk e0 (loops1 aey)
theorem vL5:gc (zI 138 [.c (.dat false .i),.c .i] (.c .bool) (fun k d=>Qx k d.1 d.2.1) (fun x=>(x,())) (fun d=>d.1)):=fA f138 n0 (e1 vB7) zF
theorem yQy:gc (zI 136 [.agg vM,.ptr nx] (.c .bool) (fun k d=>Rw k (vO d) (aeB d)) (fun x=>(x,())) (fun d=>d.1)):=fA f136 n0 (e3 qUo iJ vL5) zF
def yOn:zE:=sp [(0,.c (.dat false zG)),(1,.c (.lit (.fn 136 [1001000]))),sI 7,sI 8] [.robox lK]
def vFp (f:yD0)(d:yOn.den):=(tx (f (wl d) (Rd d) (Fd d)) d.2.1)
def qMp:zT:=⟨[yOn],[(.exit 0,yZp),(.ret,yQb)],(Unit⊕Int),fun k d=>vFp (CJ k k) d,fun b x _ K=>match x with|.inl x=>K (.exit 0) (zL b yZp ((),()))|.inr x=>K .ret (zL b yQb (((x,()),()),()))⟩
def vD5:zU:=⟨[],[(2,qMp)],[],false⟩
theorem aeC:md 19 (wd f159 0) qMp:=lp (A:=vD5) qMp (fun d=>match d with|.inl d=>.inl ()|.inr d=>.inr (wl d)) vFp CJ HY (e1 yQy) zF
theorem aeE:gc (zI 159 [.c (.dat false zG),.fn 136 [nx]] (.c .i) (fun k d=>(NF (qOx k) d)) (fun x=>(x,())) (fun d=>d.1)):=fA f159 vD5 (e1 yQy) (loops1 aeC)
theorem vM2:gc (zI 141 [.c (.dat false zG),.fn 136 [nx]] (.c .bool) (fun k d=>(NF (MR k) d)) (fun x=>(x,())) (fun d=>d.1)):=fA f141 Pa (e1 aeE) zF
theorem yW3:gc (zI 77 [.agg nx] (.c .bool) (fun k d=>MQ k (qO d)) (fun x=>(x,())) (fun d=>d.1)):=fA f77 n0 (e3 aex aeA vM2) zF
def yJx:zE:=⟨[sP 2 0,sP 3 1,sO 5 2,(44,.c (.dat false qQ)),sI 45,sI 46],[oB iH,oB lK,oA .i],[(5,none,.i,false)]⟩
def ySl:zE:=sp [sP 2 0,sP 3 1,sO 5 2] [oB iH,oB lK,oA .i]
def yOs (f:qR9)(d:yJx.den):=f (Fd d) (ce d) (ci d) (qZ d.2.1) (qO (Mj d)) (li d)
def qYu:zT:=⟨[yJx],[(.exit 0,ySl)],yAr,fun k d=>yOs (H4 k k) d,fun b x _ K=>K (.exit 0) (zL b ySl (((),(),(),()),((vK x.1 ()),(vP x.2.1 ()),x.2.2,())))⟩
def yYr:zU:=⟨[],[(5,qYu)],[],true⟩
theorem aeG:md 92 (wd f30 0) qYu:=lp (A:=yYr) qYu (fun d=>((qZ d.2.1),(qO (Mj d)),li d)) yOs H4 H5 (e6 iJ SI yZ4 yW3 SB SD) zF
theorem vDj:gc (zI 30 [.agg ig,.agg nx] (.c .bool) (fun k d=>H3 k (qZ d) (gM d)) (fun x=>(x,())) (fun d=>d.1)):=fA f30 yYr (e6 iJ SI yZ4 yW3 SB SD) (loops1 aeG)
def ySj:zE:=⟨[sP 1 0,sI 2,sP 3 3,(12,.c .bool),sP 13 4,sP 17 5,(72,.c (.dat true (.sl (.int .u8)))),sI 73,sI 74],[oB yO0,oA (.int .u8),oA (.int .u8),oB I3,oB SR,oB iI],[(17,some 1,.bool,true),(17,some 2,.bool,true),(17,some 3,.bool,true),(17,some 4,.bool,true),(17,some 5,.bool,true),(17,some 6,.bool,true),(17,some 7,.bool,true),(17,some 8,.bool,true)]⟩
def yMa:zE:=sp [sP 1 0,sI 2,sP 3 3,(12,.c .bool),sP 13 4,sP 17 5] [oB yO0,oA (.int .u8),oA (.int .u8),oB I3,oB SR,oB iI]
def yHe (f:qM9)(d:ySj.den):=f (pi d) (Fd d) (un d) (ap d) d.1.2.2.2.2.2.2.2.2.1.1 (kp d.2.1) (Mj d) (li d) (qZ (ii d)) (jM (ge d)) (qO (If d))
def yB5:zT:=⟨[ySj],[(.exit 0,yMa)],qXg,fun k d=>yHe (tq k k) d,fun b x _ K=>K (.exit 0) (zL b yMa (((),(x.1,()),(),(x.2.1,()),(),(),()),((Db (Mj x) ()),li x,ii x,(vK (ge x) ()),(jI (If x) ()),(vP x.2.2.2.2.2.2.2 ()),())))⟩
def vCj:zU:=⟨[],[(11,yB5)],[],true⟩
theorem aeH:zS prog 1000 2 112 (wd f11 0) yB5:=lp (A:=vCj) yB5 (fun d=>(pi d,Fd d,(kp d.2.1),Mj d,li d,(qZ (ii d)),(jM (ge d)),(qO (If d)))) yHe tq II (Sb yHi qPx yWk C5 yQ4 vCk vAr qZp R7 vDj) zF
def qVx:=BG 11 [.agg NG,.ptr true nu,.c (.p .i)] (.tup [(false,[.link 1]),(false,yF)]) [lf,[.link 2,.i,.fro wQ,.i,.i,.i,.i,.fro qQ,.fro (.sl .i),.fro .i,.fro (.sl .i),.fro .i,.fro (.sl .i),.fro zG,.fro .i,.i,.bool,.i,.bool],Sl] 2 (.tup [(false,[.nilp]),(false,yF)]) [lf] 0 (fun k d=>ja k (qZ d) (C6 d) (lm d)) (fun x=>((),x.1,(wY x.2.1 ((),(jR (Mj x) ((),(jI x.2.2.2 ()))))))) (fun x=>((),x.1,(wY x.2 ()))) (fun d=>(d.2.1,(SS d),(vVk d),(vI8 d))) (fun d=>(d.2.1,(SS d)))
theorem yOt:gc qVx:=fN f11 vCj 2 (Sb yHi qPx yWk C5 yQ4 vCk vAr qZp R7 vDj) (loops1 aeH)
theorem vBy:gc (zI 88 [.c .i,.c .i,.c .i] (.c .bool) (fun k d=>I4 k d.1 d.2.1 (Mj d)) (fun x=>(x,())) (fun d=>d.1)):=fA f88 n0 e0 zF
def vE7:zE:=sp [sP 1 0,sI 3] [oB iH]
def vFd:zE:=sp [sP 1 0] [oB iH]
def vAm (f:qSl)(d:vE7.den):=f (pi d) (qZ d.2.1)
def qQl:zT:=⟨[vE7],[(.exit 0,vFd),(.ret,yT1)],qWl,fun k d=>vAm (qXa k k) d,fun b x _ K=>match x with|.inl x=>K (.exit 0) (zL b vFd (((),()),((vK x ()),())))|.inr x=>K .ret (zL b yT1 (((x,()),()),()))⟩
def yXy:zU:=⟨[],[(4,qQl)],[],true⟩
theorem aeI:md 58 (wd f34 0) qQl:=lp (A:=yXy) qQl (fun d=>match d with|.inl d=>.inl (qZ d.2.1)|.inr d=>.inr (wl d)) vAm qXa yK6 (e1 vBy) zF
theorem yX6:gc (zI 34 [.agg ig] (.c .bool) (fun k d=>qYx k (qZ d)) (fun x=>(x,())) (fun d=>d.1)):=fA f34 yXy (e1 vBy) (loops1 aeI)
theorem vK7:gc (zI 162 [.ptr SU,.c .i] (.c (.own (.int .u8))) (fun k d=>qTk k (jC d) (Pi d)) (fun x=>(x,())) (fun d=>d.1)):=fA f162 n0 e0 zF
def yM9:zE:=⟨[(0,.c (.dat false (.int .u8))),sO 4 0],[oA (.sl (.int .u8))],[(4,none,(.sl (.int .u8)),false)]⟩
def yTb:zE:=sp [(0,.c (.dat false (.int .u8))),sO 4 0] [oA (.sl (.int .u8))]
def vIi (f:qN6)(d:yM9.den):=f (wl d) d.2.1
def qQy:zT:=⟨[yM9],[(.exit 0,yTb)],yC7,fun k d=>vIi (Mq k k) d,fun b x _ K=>K (.exit 0) (zL b yTb (((x.1,()),(),()),(x.2,())))⟩
def vFa:zU:=⟨[],[(2,qQy)],[],true⟩
theorem aeJ:md 44 (wd f161 0) qQy:=lp (A:=vFa) qQy (fun d=>(wl d,d.2.1)) vIi Mq Ra e0 zF
theorem aeK:gc (zI 161 [.c (.dat false (.int .u8))] (.tup [(false,[.own (.sl (.int .u8))]),(false,yF)]) (fun k d=>qRm k d.1) (fun x=>(x.1,x.2,())) (fun d=>(d.1,d.2.1))):=fA f161 vFa e0 (loops1 aeJ)
def yR5:zE:=sp [(0,.c (.dat false (.int .u8))),(3,.c (.int .u64)),sI 4] []
def vIx:zE:=sp [(3,.c (.int .u64))] []
def yPx (f:AC→Int→Int→Option Int)(d:yR5.den):=f (wl d) (pi d) (Rd d)
def qZg:zT:=⟨[yR5],[(.exit 0,vIx)],Int,fun k d=>yPx (KB k k) d,fun b x _ K=>K (.exit 0) (zL b vIx (((x,()),()),()))⟩
def yVn:zU:=⟨[],[(3,qZg)],[],true⟩
theorem aeL:md 19 (wd f176 0) qZg:=lp (A:=yVn) qZg (fun d=>(wl d)) yPx KB Px e0 zF
theorem yAq:gc (zI 176 [.c (.dat false (.int .u8))] (.c .i) (fun k d=>KA k d.1) (fun x=>(x,())) (fun d=>d.1)):=fA f176 yVn e0 (loops1 aeL)
def yKs:zE:=⟨[(0,.c (.dat false (.int .u8))),sO 4 0,sI 5],[oA .i],[(4,none,.i,false)]⟩
def yT2 (f:qR0)(d:yKs.den):=f (wl d) (Rd d) d.2.1
def qMb:zT:=⟨[yKs],[(.exit 0,vFf)],AC,fun k d=>yT2 (BL k k) d,fun b x _ K=>K (.exit 0) (zL b vFf (((),()),(x,())))⟩
def yRz:zU:=⟨[],[(5,qMb)],[],true⟩
theorem aeM:md 26 (wd f102 0) qMb:=lp (A:=yRz) qMb (fun d=>d.2.1) yT2 BL EO (e1 yAq) zF
theorem NH:gc (zI 102 [.c (.dat false (.int .u8))] (.tup [(false,[.own .i]),(false,yF)]) (fun k d=>xF k d.1) (fun x=>(x.1,x.2,())) (fun d=>(d.1,d.2.1))):=fA f102 yRz (e1 yAq) (loops1 aeM)
theorem vXm:gc (zI 89 [.ptr SU,.c .i] (.tup [(false,yF),(false,[.fro (.int .u8)]),(false,[.fro (.sl (.int .u8))]),(false,[.bool])]) (fun k d=>Mr k (jC d) (Pi d)) (fun x=>(jI x ())) (fun d=>(d.1,d.2.1,Mj d,li d))):=fA f89 n0 (e3 vK7 aeK NH) zF
theorem qMe:gc (zI 35 [.ptr SU] (.tup [(false,yF),(false,yF),(false,[.fro (.int .u8)]),(false,[.fro (.sl (.int .u8))]),(false,[.bool])]) (fun k d=>Mt k (jC d)) (fun x=>(vK x ())) (fun d=>(d.1,d.2.1,Mj d,li d,ii d))):=fA f35 n0 (e1 vXm) zF
def vE0:zE:=sp [sI 0,sI 1,sO 5 0,sI 6] [oA .i]
def yHa (f:qVd)(d:vE0.den):=f (wl d) (pi d) (Fd d) d.2.1
def qVm:zT:=⟨[vE0],[(.exit 0,yVy)],AC,fun k d=>yHa (SW k k) d,fun b x _ K=>K (.exit 0) (zL b yVy (((),()),(x,())))⟩
def yM1:zU:=⟨[],[(5,qVm)],[],false⟩
theorem aeN:md 25 (wd f94 0) qVm:=lp (A:=yM1) qVm (fun d=>d.2.1) yHa SW yGr e0 zF
theorem NI:gc (zI 94 [.c .i,.c .i] (.c (.own .i)) (fun k d=>qSn k d.1 d.2.1) (fun x=>(x,())) (fun d=>d.1)):=fA f94 yM1 e0 (loops1 aeN)
def yG5:zE:=⟨[sI 0,sI 1,sO 5 0,sI 6],[.mat],[(5,none,(.sl .i),true)]⟩
def yTi (f:qUx)(d:yG5.den):=f (wl d) (pi d) (Fd d) d.2.1
def qRn:zT:=⟨[yG5],[(.exit 0,yTe)],EQ,fun k d=>yTi (SX k k) d,fun b x _ K=>K (.exit 0) (zL b yTe (((),()),(x,())))⟩
def yK9:zU:=⟨[22,23],[(5,qRn)],[],false⟩
theorem aeP:md 25 (wd f93 0) qRn:=lp (A:=yK9) qRn (fun d=>d.2.1) yTi SX yR2 (e1 NI) zF
theorem qTa:gc (zI 93 [.c .i,.c .i] (.c (.mat)) (fun k d=>qVw k d.1 d.2.1) (fun x=>(x,())) (fun d=>d.1)):=fA f93 yK9 (e1 NI) (loops1 aeP)
def yN3:zE:=⟨[sP 1 0,sP 2 1,sI 3,sP 4 2,sI 5],[oB iH,oB jN,oB Sf,oA qQ,.mat,oA .i,.mat,oA .i],[(4,some 5,.i,false)]⟩
def yRj (f:qWr)(d:yN3.den):=f (Rd d) (ce d) (qZ d.2.1) (Do d,pm d,jp d) (pp d,In d,ip d) (ii d) (ge d) (If d) (rg d) (dl d)
def SY:zT:=⟨[yN3],[(.exit 0,yV2)],qY3,fun k d=>yRj (yEr k k) d,fun b x _ K=>K (.exit 0) (zL b yV2 (((),(),(x.1,()),(),()),((vK x.2.1 ()),(Do x,pm x,x.2.2.1.2.2,()),(pp x,In x,x.2.2.2.1.2.2,()),ii x,ge x,If x,rg x,x.2.2.2.2.2.2.2.2,())))⟩
def yIw:zE:=⟨[sP 1 0,sP 2 1,sI 3,sP 4 2,sI 6],[oB iH,oB jN,oB vG8,oA qQ,.mat,oA .i,.mat,oA .i,.mat],[(4,some 6,(.sl .i),true)]⟩
def yQs (f:qPa)(d:yIw.den):=f (Rd d) (ce d) (qZ d.2.1) (Do d,pm d,jp d) (pp d,In d,ip d) (ii d) (ge d) (If d) (rg d) (dl d) (Fn d)
def SZ:zT:=⟨[yIw],[(.exit 2,yXt)],qVr,fun k d=>yQs (yEx k k) d,fun b x _ K=>K (.exit 2) (zL b yXt (((),(),()),((x.1.1,x.1.2.1,x.1.2.2,()),(ms x,qr x,x.2.1.2.2,()),Mj x,li x,ii x,ge x,If x,x.2.2.2.2.2.2.2,())))⟩
def yBf:zU:=⟨[48,49],[(4,SY),(8,SZ)],[],true⟩
theorem vMz:md 52 (wd f38 0) SY:=lp (A:=yBf) SY (fun d=>(Rd d,(qZ d.2.1),(Do d,pm d,jp d),(pp d,In d,ip d),ii d,ge d,If d,rg d,dl d)) yRj yEr vJd (e2 qTa NI) zF
theorem vVm:md 52 (wd f38 1) SZ:=lp (A:=yBf) SZ (fun d=>((ms d,qr d,Or d),(Do d,pm d,jp d),li d,ii d,ge d,If d,rg d,dl d)) yQs yEx yIu (e2 qTa NI) zF
theorem vGj:gc (zI 38 [.agg ig] (.agg qYw) (fun k d=>C4 k (qZ d)) (fun x=>(vP x ())) (fun d=>(qO d))):=fA f38 yBf (e2 qTa NI) (mc (n:=2) (by kernel_rfl) fun i hi=>match i,hi with|0,_=>⟨SY,by kernel_rfl,vMz⟩|1,_=>⟨SZ,by kernel_rfl,vVm⟩|i+2,hi=>absurd hi (by omega))
def vIa:zE:=sp [(0,.c (.dat false .i)),sO 3 0,sI 4,sI 5] [oA (.int .u8)]
def yOq:zE:=sp [(0,.c (.dat false .i)),sO 3 0,sI 4] [oA (.int .u8)]
def yZj (f:qSa)(d:vIa.den):=f (wl d) (Rd d) (Fd d) d.2.1
def qL4:zT:=⟨[vIa],[(.exit 2,yOq)],qSc,fun k d=>yZj (Mi k k) d,fun b x _ K=>K (.exit 2) (zL b yOq (((x.1,()),(),(x.2.1,()),()),(x.2.2,())))⟩
def yJk (f:qR0)(d:yOq.den):=f (wl d) (Rd d) d.2.1
def yE1:zT:=⟨[yOq],[(.exit 0,yZ6)],AC,fun k d=>yJk (Cm k k) d,fun b x _ K=>K (.exit 0) (zL b yZ6 (((),()),(x,())))⟩
def qOg:zU:=⟨[],[(6,qL4),(3,yE1)],[],true⟩
theorem aeQ:md 30 (zQ (wd f45 0) 0) qL4:=lp (A:=qOg) qL4 (fun d=>(wl d,Rd d,d.2.1)) yZj Mi Q0 e0 zF
theorem vWu:md 30 (wd f45 0) yE1:=lp (A:=qOg) yE1 (fun d=>d.2.1) yJk Cm G6 e0 (loops1 aeQ)
theorem R8:gc (zI 45 [.c (.dat false .i)] (.c (.own (.int .u8))) (fun k d=>yl k d.1) (fun x=>(x,())) (fun d=>d.1)):=fA f45 qOg e0 (loops1 vWu)
theorem NJ:gc (zI 91 [.c (.dat false .i)] (.c (.own (.int .u8))) (fun k d=>ki k d.1) (fun x=>(x,())) (fun d=>d.1)):=fA f91 n0 (e1 R8) zF
def yR0:zE:=⟨[(0,.c (.dat false (.sl .i))),sO 3 0,sI 4],[oA (.int .u8)],[(3,none,(.int .u8),false)]⟩
def vAw (f:qSu)(d:yR0.den):=f (wl d) (Rd d) d.2.1
def qN5:zT:=⟨[yR0],[(.exit 0,yZ6)],AC,fun k d=>vAw (G7 k k) d,fun b x _ K=>K (.exit 0) (zL b yZ6 (((),()),(x,())))⟩
def yUz:zU:=⟨[],[(3,qN5)],[],true⟩
theorem aeS:md 19 (wd f92 0) qN5:=lp (A:=yUz) qN5 (fun d=>d.2.1) vAw G7 G8 (e1 NJ) zF
theorem yCu:gc (zI 92 [.c (.dat false (.sl .i))] (.c (.own (.int .u8))) (fun k d=>pB k d.1) (fun x=>(x,())) (fun d=>d.1)):=fA f92 yUz (e1 NJ) (loops1 aeS)
def yPo:zE:=sp [sP 1 0,sP 4 1,sO 5 2,sI 6] [oB lK,oB jP,oA (.int .u8)]
def yS7:zE:=sp [sP 1 0,sP 4 1,sO 5 2] [oB lK,oB jP,oA (.int .u8)]
def yHm (f:qN9)(d:yPo.den):=f (Fd d) (qO d.2.1) (jM (Mj d)) (li d)
def S0:zT:=⟨[yPo],[(.exit 0,yS7)],qPw,fun k d=>yHm (uU k k) d,fun b x _ K=>K (.exit 0) (zL b yS7 (((),(),(),()),((vP x.1 ()),(jI x.2.1 ()),x.2.2,())))⟩
def yNk:zE:=sp [sP 1 0,sO 5 1,sI 7] [oB lK,oA (.int .u8)]
def yUf:zE:=sp [sP 1 0,sO 5 1] [oB lK,oA (.int .u8)]
def vFc (f:qNm)(d:yNk.den):=f (Rd d) (qO d.2.1) (Mj d)
def S1:zT:=⟨[yNk],[(.exit 2,yUf)],qMv,fun k d=>vFc (uV k k) d,fun b x _ K=>K (.exit 2) (zL b yUf (((),(),()),((vP x.1 ()),x.2,())))⟩
def qLm:zU:=⟨[],[(7,S0),(16,S1)],[],true⟩
theorem vZt:md 127 (wd f37 0) S0:=lp (A:=qLm) S0 (fun d=>((qO d.2.1),(jM (Mj d)),li d)) yHm uU G9 (e2 NJ yCu) zF
theorem aeT:md 127 (wd f37 1) S1:=lp (A:=qLm) S1 (fun d=>((qO d.2.1),Mj d)) vFc uV Ha (e2 NJ yCu) zF
theorem C8:gc (zI 37 [.agg nx] (.c (.own (.int .u8))) (fun k d=>oq k (qO d)) (fun x=>(x,())) (fun d=>d.1)):=fA f37 qLm (e2 NJ yCu) (mc (n:=2) (by kernel_rfl) fun i hi=>match i,hi with|0,_=>⟨S0,by kernel_rfl,vZt⟩|1,_=>⟨S1,by kernel_rfl,aeT⟩|i+2,hi=>absurd hi (by omega))
theorem vBm:gc (zI 163 [.c (.dat false (.int .u8))] (.tup [(false,[.own (.int .u8)]),(false,[.bool])]) (fun k d=>Mk k d.1) (fun x=>(x.1,x.2,())) (fun d=>(d.1,d.2.1))):=fA f163 n0 e0 zF
theorem aeX:gc (zI 164 [.ptr SU] (.c .i) (fun k d=>qZ5 k (jC d)) (fun x=>(x,())) (fun d=>d.1)):=fA f164 n0 e0 zF
theorem vOe:gc (yB 165 [.ptr true rj,.c (.p .i)] (.c .i) [nv] 0 (fun k d=>qOq k (jC d) (Pi d)) (fun x=>(x.1,(wY x.2 ()))) (fun d=>(d.1,(pE d)))):=fX f165 n0 1 (e1 F8q) zF
theorem yS2:gc (yB 90 [.ptr true rj,.c (.p .i),.c (.p .i),.c (.p (.dat false (.int .u8)))] (.c .i) [nv] 0 (fun k d=>Hd k (jC d) (Pi d) (ul d) (co d)) (fun x=>(x.1,(wY x.2 ()))) (fun d=>(d.1,(pE d)))):=fX f90 n0 1 (e6 R8 vBm aeX vOe F9q qTt) zF
theorem yR7:gc (BG 36 [.ptr true rj,.c (.p (.dat false (.int .u8)))] (.tup [(false,[.link 1]),(false,[.fro (.int .u8)]),(false,[.fro (.sl (.int .u8))]),(false,yF)]) [nv,Sl] 1 (.tup [(false,[.nilp]),(false,[.own (.int .u8)]),(false,[.own (.sl (.int .u8))]),(false,yF)]) [nv] 0 (fun k d=>qWj k (jC d) (Pi d)) (fun x=>((),x.1,x.2.1,Mj x,(wY (li x) ((),(jI x.2.2.2.2 ()))))) (fun x=>((),x.1,x.2.1,Mj x,(wY x.2.2.2 ()))) (fun d=>(d.2.1,Mj d,li d,(Sm d),(yFr d))) (fun d=>(d.2.1,Mj d,li d,(Sm d)))):=fN f36 n0 1 (e2 qMe yS2) zF
theorem aeZ:gc (zI 166 [.c (.dat true (.int .u8))] (.tup [(false,[.own .i]),(false,[.fro (.int .u8)]),(false,[.bool])]) (fun k d=>Q5 k d.1) (fun x=>(x.1,x.2.1,x.2.2,())) (fun d=>(d.1,d.2.1,Mj d))):=fA f166 n0 (e2 yAq NH) zF
theorem I5:gc (yB 97 [.ptr true IS] (.c (.own .i)) [[.fro (.int .u8),.bool]] 0 (fun k d=>yt k (d.1,d.2.1)) (fun x=>(x.1,x.2.1,x.2.2,())) (fun d=>(d.1,(d.2.1,Mj d)))):=fX f97 n0 1 (e1 aeZ) zF
theorem qQt:gc (yB 95 [.ptr true IS,.c (.p .i)] (.c (.own .i)) [[.fro (.int .u8),.bool]] 0 (fun k d=>uY k (d.1,d.2.1) (Mj d)) (fun x=>(x.1,x.2.1,x.2.2,())) (fun d=>(d.1,(d.2.1,Mj d)))):=fX f95 n0 1 (e1 I5) zF
def yYf:zE:=⟨[sP 0 0,sI 1,sO 5 1,sI 6],[oB pF,oA (.sl .i)],[(5,none,(.sl .i),false)]⟩
def yG6 (f:qZ6)(d:yYf.den):=f (pi d) (Fd d) (ms d,qr d) (Mj d)
def qNh:zT:=⟨[yYf],[(.exit 0,yQq)],qT4,fun k d=>yG6 (Hr k k) d,fun b x _ K=>K (.exit 0) (zL b yQq (((),(),()),((x.1.1,x.1.2,()),x.2,())))⟩
def vG4:zU:=⟨[],[(3,qNh)],[],true⟩
theorem vRd:zS prog 1000 1 24 (wd f96 0) qNh:=lp (A:=vG4) qNh (fun d=>((ms d,qr d),Mj d)) yG6 Hr Hs (e1 I5) zF
theorem qZ1:gc (yB 96 [.ptr true IS,.c (.p .i)] (.c (.own (.sl .i))) [[.fro (.int .u8),.bool]] 0 (fun k d=>Hn k (d.1,d.2.1) (Mj d)) (fun x=>(x.1,x.2.1,x.2.2,())) (fun d=>(d.1,(d.2.1,Mj d)))):=fX f96 vG4 1 (e1 I5) (loops1 vRd)
def yXh (f:yAp)(d:yHt.den):=f (wl d) (ci d) (ms d,qr d,Or d) (Do d,pm d) (li d) (d.2.2.2.2.1.1,wr d,d.2.2.2.2.1.2.2.1) (ge d)
def S2:zT:=⟨[yHt],[(.exit 0,yYc)],yEh,fun k d=>yXh (Ct k k) d,fun b x _ K=>K (.exit 0) (zL b yYc (((x.1,()),(),(),(),(),()),((ms x,qr x,x.2.1.2.2,()),(Do x,x.2.2.1.2,()),li x,(x.2.2.2.2.1.1,wr x,x.2.2.2.2.1.2.2,()),Fr x,())))⟩
def vEc:zE:=⟨[(0,.c (.dat true (.int .u8))),sP 2 0,sP 4 1,sO 5 2,sP 6 3,sI 9],[oB jN,oB pF,oA .i,oB [.i,.lit (.osl 1001004 none),.lit (.osl 1001005 none),.lit (.osl 1001006 none),.lit (.osl 1001007 none),.lit (.osl 1001008 none),.lit (.osl 1001009 none),.lit (.osl 1001010 none),.lit .nsl,.i,.bool],oA qQ,oA (.sl .i),oA .i,oA (.sl .i),oA .i,oA (.sl .i),oA zG],[(6,some 7,zG,false)]⟩
def yPp (f:yE8)(d:vEc.den):=f (wl d) (ci d) (ms d,qr d,Or d) (Do d,pm d) (li d) (d.2.2.2.2.1.1,wr d,d.2.2.2.2.1.2.2.1) (ge d) (If d) (rg d) (dl d) (Fn d) (Pi d) (ul d)
def S3:zT:=⟨[vEc],[(.exit 2,vHv)],yEv,fun k d=>yPp (Cv k k) d,fun b x _ K=>K (.exit 2) (zL b vHv (((x.1,()),(),(),(),()),((ms x,qr x,x.2.1.2.2,()),(Do x,x.2.2.1.2,()),(pp x,In x,x.2.2.2.1.2.2,()),ii x,ge x,If x,rg x,dl x,Fn x,x.2.2.2.2.2.2.2.2.2.2,())))⟩
def qU5:zU:=⟨[],[(5,S2),(15,S3)],[],true⟩
theorem ae1:md 154 (wd f39 0) S2:=lp (A:=qU5) S2 (fun d=>(wl d,(ms d,qr d,Or d),(Do d,pm d),li d,(d.2.2.2.2.1.1,wr d,d.2.2.2.2.1.2.2.1),ge d)) yXh Ct Hu (e4 qQt qZ1 I5 C8) zF
theorem vKf:md 154 (wd f39 1) S3:=lp (A:=qU5) S3 (fun d=>(wl d,(ms d,qr d,Or d),(Do d,pm d),(pp d,In d,ip d),ii d,ge d,If d,rg d,dl d,Fn d,Pi d)) yPp Cv Hw (e4 qQt qZ1 I5 C8) zF
theorem yXa:gc (zI 39 [.c (.dat true (.int .u8))] (.tup [(true,[.i,.own qQ,.own (.sl .i),.own .i,.own (.sl .i),.own .i,.own (.sl .i),.own zG,.own .i,.i,.bool]),(false,[.bool])]) (fun k d=>Hz k d.1) (fun x=>(vP x.1 (x.2,()))) (fun d=>((qO d),ul d))):=fA f39 qU5 (e4 qQt qZ1 I5 C8) (mc (n:=2) (by kernel_rfl) fun i hi=>match i,hi with|0,_=>⟨S2,by kernel_rfl,ae1⟩|1,_=>⟨S3,by kernel_rfl,vKf⟩|i+2,hi=>absurd hi (by omega))
theorem NK:gc (zI 46 [.c .i] (.c .i) (fun k d=>BM k d.1) (fun x=>(x,())) (fun d=>d.1)):=fA f46 n0 e0 zF
def yQ8:zE:=sp [sP 2 0,sP 4 1,sO 5 2,sI 7] [oB vY,oB vY,oA .i]
def yFn:zE:=sp [sP 2 0,sP 4 1] [oB vY,oB vY]
def yY4 (f:yDx)(d:yQ8.den):=f (Fd d) (vO d.2.1) (vO (Mj d)) (li d)
def qVu:zT:=⟨[yQ8],[(.exit 0,yFn)],yAg,fun k d=>yY4 (Pz k k) d,fun b x _ K=>K (.exit 0) (zL b yFn (((),(),()),((gh x.1 ()),(gh x.2 ()),())))⟩
def vC6:zU:=⟨[],[(8,qVu)],[],true⟩
theorem ae3:md 48 (wd f53 0) qVu:=lp (A:=vC6) qVu (fun d=>((vO d.2.1),(vO (Mj d)))) yY4 Pz vDy (e2 NH NK) zF
theorem yYg:gc (zI 53 [.c (.dat false (.int .u8))] (.tup [(true,pG),(false,yF)]) (fun k d=>EP k d.1) (fun x=>(gh x.1 (x.2,()))) (fun d=>((vO d),rg d))):=fA f53 vC6 (e2 NH NK) (loops1 ae3)
theorem yZo:gc (zI 41 [.c (.dat false (.int .u8))] (.tup [(true,yDs),(false,yF)]) (fun k d=>RY k d.1) (fun x=>(Db x.1 (x.2,()))) (fun d=>((kp d),dl d))):=fA f41 n0 (e2 NH yYg) zF
theorem ae5:gc (zI 177 [.c .i] (.c .bool) (fun k d=>RN k d.1) (fun x=>(x,())) (fun d=>d.1)):=fA f177 n0 e0 zF
def vJo:zE:=sp [sP 1 0,sI 3,sI 4] [oB vY]
def yHu (f:qRa)(d:vJo.den):=f (pi d) (Rd d) (vO d.2.1)
def qSy:zT:=⟨[vJo],[(.exit 0,yT3),(.ret,yT1)],(Int⊕Bool),fun k d=>yHu (zr k k) d,fun b x _ K=>match x with|.inl x=>K (.exit 0) (zL b yT3 (((x,()),()),()))|.inr x=>K .ret (zL b yT1 (((x,()),()),()))⟩
def yGv:zU:=⟨[],[(3,qSy)],[],true⟩
theorem ae6:md 21 (wd f44 0) qSy:=lp (A:=yGv) qSy (fun d=>match d with|.inl d=>.inl (wl d)|.inr d=>.inr (wl d)) yHu zr yDw (e1 NK) zF
theorem vCx:gc (zI 44 [.agg vM] (.c .bool) (fun k d=>tm k (vO d)) (fun x=>(x,())) (fun d=>d.1)):=fA f44 yGv (e1 NK) (loops1 ae6)
theorem vOl:gc (zI 178 [.c .i] (.c .bool) (fun k d=>RO k d.1) (fun x=>(x,())) (fun d=>d.1)):=fA f178 n0 e0 zF
theorem ae9:gc (zI 103 [.agg ig,.agg C7] (.c .bool) (fun k d=>CX k (qZ d) (vTz d)) (fun x=>(x,())) (fun d=>d.1)):=fA f103 n0 (e3 ae5 vCx vOl) zF
def vG3:zE:=⟨[(0,.c (.dat false zG)),sI 1,sO 5 0,sI 6],[oA zG],[(5,none,zG,false)]⟩
def yQc (f:qOo)(d:vG3.den):=f (wl d) (pi d) (Fd d) d.2.1
def qX1:zT:=⟨[vG3],[(.exit 0,yOm)],qZc,fun k d=>yQc (Ls k k) d,fun b x _ K=>K (.exit 0) (zL b yOm (((),()),(x,())))⟩
def yZ3:zU:=⟨[],[(3,qX1)],[],false⟩
theorem afa:md 28 (wd f104 0) qX1:=lp (A:=yZ3) qX1 (fun d=>d.2.1) yQc Ls FW e0 zF
def qVp:=zI 104 [.c (.dat false zG),.c .i] (.c (.own zG)) (fun k d=>uI k d.1 d.2.1) (fun x=>(x,())) (fun d=>d.1)
theorem AF:gc qVp:=fA f104 yZ3 e0 (loops1 afa)
def yJv:zE:=sp [(1,.c (.dat false .i)),sP 4 0,sP 5 1,sI 6] [oB vY,oB vY]
def yJm:zE:=sp [sP 4 0,sP 5 1] [oB vY,oB vY]
def yPg (f:qNk)(d:yJv.den):=(mA (mA (f (wl d) (Fd d)) d.2.1) (Mj d))
def qWb:zT:=⟨[yJv],[(.exit 0,yJm)],yDh,fun k d=>yPg (S4 k k) d,fun b x _ K=>K (.exit 0) (zL b yJm (((),(),()),((kk x ()),(yRa x ()),())))⟩
def vCp:zU:=⟨[],[(3,qWb)],[],false⟩
theorem vLn:md 27 (wd f60 0) qWb:=lp (A:=vCp) qWb (fun d=>(kk d.2.1 (vO (Mj d)))) yPg S4 yWi e0 zF
theorem tu:gc (zI 60 [.c .i,.c (.dat false .i)] (.agg pG) (fun k d=>eZ k d.1 d.2.1) (fun x=>(gh x ())) (fun d=>(vO d))):=fA f60 vCp e0 (loops1 vLn)
theorem S5:gc (zI 179 [.agg ig,.c .i] (.c .bool) (fun k d=>RM k (qZ d) (ge d)) (fun x=>(x,())) (fun d=>d.1)):=fA f179 n0 e0 zF
theorem S6:gc (zI 180 [.agg vM,.c .i] (.c .bool) (fun k d=>(mz (yD7 k) d)) (fun x=>(x,())) (fun d=>d.1)):=fA f180 Pa e0 zF
def vA7:zE:=sp [(0,.c (.dat false zG)),sI 1,sI 5] []
def yRf (f:yAt)(d:vA7.den):=f (wl d) (pi d) (Rd d)
def yCq:zT:=⟨[vA7],[(.exit 0,yZp),(.ret,yQb)],(Unit⊕Int),fun k d=>yRf (F3 k k) d,fun b x _ K=>match x with|.inl x=>K (.exit 0) (zL b yZp ((),()))|.inr x=>K .ret (zL b yQb (((x,()),()),()))⟩
def vAl:zU:=⟨[],[(2,yCq)],[],false⟩
theorem afb:md 20 (wd f108 0) yCq:=lp (A:=vAl) yCq (fun d=>match d with|.inl d=>.inl ()|.inr d=>.inr (wl d)) yRf F3 F4 e0 zF
theorem I6:gc (zI 108 [.c (.dat false zG),.c .i] (.c .i) (fun k d=>mq k d.1 d.2.1) (fun x=>(x,())) (fun d=>d.1)):=fA f108 vAl e0 (loops1 afb)
theorem mB:gc (zI 181 [.c (.dat true zG),.c .i] (.tup [(false,[.fro zG]),(true,pG),(false,yF)]) (fun k d=>ou k d.1 d.2.1) (fun x=>(Sx x ())) (fun d=>(Sy d))):=fA f181 Pa (e1 I6) zF
theorem S7:gc (zI 182 [.agg ig,.c .i] (.c .bool) (fun k d=>Nf k (qZ d) (ge d)) (fun x=>(x,())) (fun d=>d.1)):=fA f182 n0 e0 zF
theorem yV8:gc (zI 295 [.agg vM,.c .i] (.c .bool) (fun k d=>(mz (YY k) d)) (fun x=>(x,())) (fun d=>d.1)):=fA f295 Pa e0 zF
def vAf (f:qOo)(d:vG3.den):=f (wl d) (pi d) (Fd d) d.2.1
def qL5:zT:=⟨[vG3],[(.exit 0,yOm)],qZc,fun k d=>vAf (Lr k k) d,fun b x _ K=>K (.exit 0) (zL b yOm (((),()),(x,())))⟩
def yLk:zU:=⟨[],[(3,qL5)],[],false⟩
theorem afe:md 27 (wd f270 0) qL5:=lp (A:=yLk) qL5 (fun d=>d.2.1) vAf Lr FV (e1 yV8) zF
def yBh:=zI 270 [.c (.dat false zG),.c .i] (.c (.own zG)) (fun k d=>FU k d.1 d.2.1) (fun x=>(x,())) (fun d=>d.1)
theorem De:gc yBh:=fA f270 yLk (e1 yV8) (loops1 afe)
def yJ4:zE:=sp [sO 5 0,sO 6 1,sI 7,sO 8 2,(9,.c .bool),sI 10] [oA zG,oA zG,oA zG]
def vIw:zE:=sp [sO 5 0,sO 6 1,sI 7,sO 8 2,(9,.c .bool)] [oA zG,oA zG,oA zG]
def yRn (f:qT3)(d:yJ4.den):=f (Rd d) (ce d) (ci d) d.2.1 (Mj d) (li d)
def qPi:zT:=⟨[yJ4],[(.exit 2,vIw)],qOp,fun k d=>yRn (FX k k) d,fun b x _ K=>K (.exit 2) (zL b vIw (((),(),(x.1,()),(),(x.2.1,()),()),(Mj x,li x,x.2.2.2.2,())))⟩
def yW9:zE:=⟨[sO 5 0,sO 6 1,sI 7],[oA zG,oA zG],[(6,none,zG,false)]⟩
def yYi:zE:=sp [sO 6 0] [oA zG]
def vHf (f:qX9)(d:yW9.den):=f (Rd d) d.2.1 (Mj d)
def yAl:zT:=⟨[yW9],[(.exit 0,yYi)],qZc,fun k d=>vHf (Lu k k) d,fun b x _ K=>K (.exit 0) (zL b yYi (((),()),(x,())))⟩
def vKi:Env:=⟨prog,fun t=>[141].any (Nat.beq t),fj [yBh,qVp]⟩
theorem qOn:jJ vKi:=Kt (l:=[yBh,qVp]) (eqT:=fun t=>[141].any (Nat.beq t)) (OE (fun t h=>O6 (p:=fun t=>prog.keyTypeAt 8 t&& !prog.eqGuardType prog.depth t) (l:=[141]) (List.forall_mem_cons.2 ⟨by kernel_rfl,List.forall_mem_nil _⟩) t h)) gO ⟨De,AF,trivial⟩
def qMh:zU:=⟨[],[(9,qPi),(4,yAl)],[],false⟩
theorem vQ1:md 61 (zQ (wd f308 0) 0) qPi:=lp (A:=qMh) qPi (fun d=>(Rd d,ce d,d.2.1,Mj d,li d)) yRn FX FY qOn zF
theorem vW1:md 61 (wd f308 0) yAl:=lp (A:=qMh) yAl (fun d=>d.2.1) vHf Lu FZ qOn (loops1 vQ1)
theorem NL:gc (zI 308 [.c (.dat false zG),.c .i] (.c (.own zG)) (fun k d=>Lt k d.1 d.2.1) (fun x=>(x,())) (fun d=>d.1)):=fA f308 qMh qOn (loops1 vW1)
theorem S8:gc (zI 173 [.agg jZ,.agg vM] (.c .bool) (fun k d=>(tx (PV k) d)) (fun x=>(x,())) (fun d=>d.1)):=fA f173 Pa e0 zF
def yJu:zE:=sp [(1,.c (.dat false zG)),sP 2 0,sI 5] [oB jP]
def yFt:zE:=sp [(1,.c (.dat false zG))] []
def yH3 (f:qLj)(d:yJu.den):=(vF (f (wl d) (Rd d)) d.2.1)
def qQn:zT:=⟨[yJu],[(.exit 0,yFt),(.ret,vHg)],qO6,fun k d=>yH3 (K6 k k) d,fun b x _ K=>match x with|.inl x=>K (.exit 0) (zL b yFt (((x,()),()),()))|.inr x=>K .ret (zL b vHg (((x,()),()),()))⟩
def yN4:zU:=⟨[],[(2,qQn)],[],false⟩
theorem afg:md 22 (wd f296 0) qQn:=lp (A:=yN4) qQn (fun d=>match d with|.inl d=>.inl (wl d)|.inr d=>.inr (wl d)) yH3 K6 Fo (e1 S8) zF
theorem S9:gc (zI 296 [.agg jZ,.c (.dat false zG)] (.c .bool) (fun k d=>(lJ (K5 k) d)) (fun x=>(x,())) (fun d=>d.1)):=fA f296 yN4 (e1 S8) (loops1 afg)
def vFl:zE:=⟨[(0,.c (.dat false (.sl .i))),sO 3 0,sI 4],[.mat],[(3,none,(.sl .i),true)]⟩
def yJ8:zE:=sp [sO 3 0] [.mat]
def yHn (f:qW0)(d:vFl.den):=f (wl d) (Rd d) d.2.1
def qTn:zT:=⟨[vFl],[(.exit 0,yJ8)],EQ,fun k d=>yHn (KT k k) d,fun b x _ K=>K (.exit 0) (zL b yJ8 (((),()),(x,())))⟩
def vJ2:zU:=⟨[18,19],[(3,qTn)],[],false⟩
theorem afi:md 21 (wd f265 0) qTn:=lp (A:=vJ2) qTn (fun d=>d.2.1) yHn KT Ff e0 zF
theorem afj:gc (zI 265 [.c (.dat false (.sl .i))] (.c (.mat)) (fun k d=>KU k d.1) (fun x=>(x,())) (fun d=>d.1)):=fA f265 vJ2 e0 (loops1 afi)
theorem AG:gc (zI 232 [.agg jZ] (.agg [.own qQ,.mat,.own .i,.mat]) (fun k d=>(vF (pn k) d)) (fun x=>(jI x ())) (fun d=>(jM d))):=fA f232 Pa (e1 afj) zF
def yFo:zE:=sp [(0,.c (.dat false zG)),sI 1,sI 6,sI 7,sI 8] []
def vGl:zE:=sp [sI 6,sI 7] []
def yRq (f:yC0)(d:yFo.den):=f (wl d) (pi d) (Rd d) (Fd d) (ce d)
def qWq:zT:=⟨[yFo],[(.exit 0,vGl)],vX,fun k d=>yRq (K9 k k) d,fun b x _ K=>K (.exit 0) (zL b vGl (((x.1,()),(x.2,()),()),()))⟩
def vEd:zU:=⟨[],[(3,qWq)],[],false⟩
theorem afk:md 46 (wd f311 0) qWq:=lp (A:=vEd) qWq (fun d=>(wl d,pi d)) yRq K9 Fu e0 zF
theorem yE6:gc (zI 311 [.c (.dat false zG),.c .i] (.tup [(false,yF),(false,yF)]) (fun k d=>K8 k d.1 d.2.1) (fun x=>(x.1,x.2,())) (fun d=>(d.1,d.2.1))):=fA f311 vEd e0 (loops1 afk)
theorem qPz:gc (zI 298 [.c (.dat false zG),.c .i] (.c .i) (fun k d=>P3 k d.1 d.2.1) (fun x=>(x,())) (fun d=>d.1)):=fA f298 Pa (e1 yE6) zF
theorem NM:gc (zI 297 [.agg oC,.c .i] (.c .i) (fun k d=>(vF (La k) d)) (fun x=>(x,())) (fun d=>d.1)):=fA f297 Pa e0 zF
def vIq:zE:=sp [(0,.c (.dat false zG)),sI 1,sI 2,sI 7,sI 8] []
def vF4:zE:=sp [sI 7] []
def yF0 (f:qXc)(d:vIq.den):=f (wl d) (pi d) (Rd d) (Fd d) (ce d)
def qQv:zT:=⟨[vIq],[(.exit 0,vF4)],Int,fun k d=>yF0 (K7 k k) d,fun b x _ K=>K (.exit 0) (zL b vF4 (((x,()),()),()))⟩
def yP9:zU:=⟨[],[(3,qQv)],[],false⟩
theorem afl:md 39 (wd f312 0) qQv:=lp (A:=yP9) qQv (fun d=>(wl d)) yF0 K7 Ft e0 zF
theorem qPs:gc (zI 312 [.c (.dat false zG),.c .i,.c .i] (.c .i) (fun k d=>xO k d.1 d.2.1 (Mj d)) (fun x=>(x,())) (fun d=>d.1)):=fA f312 yP9 e0 (loops1 afl)
theorem yDb:gc (zI 299 [.c (.dat false zG),.c .i,.c .i] (.c .i) (fun k d=>P1 k d.1 d.2.1 (Mj d)) (fun x=>(x,())) (fun d=>d.1)):=fA f299 Pa (e1 qPs) zF
def vFq:zE:=sp [(0,.c (.dat false (.sl .i))),sI 1,sI 5] []
def ySz (f:qW5)(d:vFq.den):=f (wl d) (pi d) (Rd d)
def qYc:zT:=⟨[vFq],[(.exit 0,yZp),(.ret,vHg)],(Unit⊕Bool),fun k d=>ySz (KL k k) d,fun b x _ K=>match x with|.inl x=>K (.exit 0) (zL b yZp ((),()))|.inr x=>K .ret (zL b vHg (((x,()),()),()))⟩
def yL3:zU:=⟨[],[(4,qYc)],[],false⟩
theorem afn:md 22 (wd f167 0) qYc:=lp (A:=yL3) qYc (fun d=>match d with|.inl d=>.inl ()|.inr d=>.inr (wl d)) ySz KL EY e0 zF
theorem yBb:gc (zI 167 [.c (.dat false (.sl .i)),.c .i] (.c .bool) (fun k d=>KK k d.1 d.2.1) (fun x=>(x,())) (fun d=>d.1)):=fA f167 yL3 e0 (loops1 afn)
theorem Ta:gc (zI 168 [.agg oC] (.c .bool) (fun k d=>KI k d.1 d.2.1 (Mj d)) (fun x=>(x,())) (fun d=>d.1)):=fA f168 Pa e0 zF
theorem qLt:gc (zI 169 [.c .i] (.c .bool) (fun k d=>KJ k d.1) (fun x=>(x,())) (fun d=>d.1)):=fA f169 Pa e0 zF
def vHo:zE:=sp [sP 1 0,sI 3,sI 4,sI 5] [oB jP]
def yMi:zE:=sp [sP 1 0,sI 3,sI 4] [oB jP]
def vA5 (f:qRu)(d:vHo.den):=(vF (f (pi d) (Rd d) (Fd d)) d.2.1)
def yCx:zT:=⟨[vHo],[(.exit 2,yMi),(.ret,yT1)],qLw,fun k d=>vA5 (EZ k k) d,fun b x _ K=>match x with|.inl x=>K (.exit 2) (zL b yMi (((),(x.1,()),(x.2.1,()),()),((Cx x ()),())))|.inr x=>K .ret (zL b yT1 (((x,()),()),()))⟩
def yNi (f:qT0)(d:yMi.den):=(vF (f (pi d) (Rd d)) d.2.1)
def yDr:zT:=⟨[yMi],[(.exit 0,yZp),(.ret,yT1)],(Unit⊕Bool),fun k d=>yNi (E1 k k) d,fun b x _ K=>match x with|.inl x=>K (.exit 0) (zL b yZp ((),()))|.inr x=>K .ret (zL b yT1 (((x,()),()),()))⟩
def qQi:zU:=⟨[],[(10,yCx),(5,yDr)],[],false⟩
theorem vSh:md 114 (zQ (wd f98 0) 0) yCx:=lp (A:=qQi) yCx (fun d=>match d with|.inl d=>.inl (pi d,Rd d,(jM d.2.1))|.inr d=>.inr (wl d)) vA5 EZ E0 (e3 yBb Ta qLt) zF
theorem afp:md 114 (wd f98 0) yDr:=lp (A:=qQi) yDr (fun d=>match d with|.inl d=>.inl ()|.inr d=>.inr (wl d)) yNi E1 E2 (e3 yBb Ta qLt) (loops1 vSh)
theorem NN:gc (zI 98 [.agg jZ] (.c .bool) (fun k d=>(vF (E3 k) d)) (fun x=>(x,())) (fun d=>d.1)):=fA f98 qQi (e3 yBb Ta qLt) (loops1 afp)
def vCh:zE:=sp [(1,.c (.dat false zG)),sP 2 0,sP 4 1,sP 6 2,sI 7,sI 8] [oB wC,oB oD,oB tz,oA qQ,.mat,oA .i,.mat]
def yP4:zE:=sp [(1,.c (.dat false zG)),sP 2 0,sP 4 1,sP 6 2,sI 7] [oB wC,oB oD,oB tz,oA qQ,.mat,oA .i,.mat]
def yM4 (f:qWw)(d:vCh.den):=(vF (f (wl d) (ce d) (ci d)) d.2.1) (ii d) (ge d) (If d) (rg d)
def qT1:zT:=⟨[vCh],[(.exit 2,yP4)],qXp,fun k d=>yM4 (Fv k k) d,fun b x _ K=>K (.exit 2) (zL b yP4 (((x.1,()),(),(),(),(x.2.1,()),()),((Sr x ()),(),(),If x,rg x,dl x,x.2.2.2.2.2.2.2.2.2,())))⟩
def vEf:zE:=sp [sP 2 0,sP 4 1,sP 6 2] [oB wC,oB oD,oB tz,oA qQ,.mat,oA .i,.mat]
def yGm (f:qM1)(d:yP4.den):=(vF (f (wl d) (ce d)) d.2.1) (ii d) (ge d) (If d) (rg d)
def qNr:zT:=⟨[yP4],[(.exit 0,vEf)],qVj,fun k d=>yGm (Fx k k) d,fun b x _ K=>K (.exit 0) (zL b vEf (((),(),(),()),((vV x ()),(),(),ii x,ge x,If x,x.2.2.2.2.2.2.2,())))⟩
def qYt:zU:=⟨[],[(9,qT1),(5,qNr)],[],false⟩
theorem afr:md 84 (zQ (wd f271 0) 0) qT1:=lp (A:=qYt) qT1 (fun d=>(wl d,ce d,(vV d.2.1 (ii d,ge d,If d,rg d)))) yM4 Fv Fw (e6 S9 AG qPz NM yDb NN) zF
theorem vL3:md 84 (wd f271 0) qNr:=lp (A:=qYt) qNr (fun d=>(vV d.2.1 (ii d,ge d,If d,rg d))) yGm Fx Fy (e6 S9 AG qPz NM yDb NN) (loops1 afr)
theorem qPc:gc (zI 271 [.agg lg,.c (.dat false zG)] (.tup [(true,ny),(false,yF)]) (fun k d=>(lJ (BV k) d)) (fun x=>(vK x ())) (fun d=>(qZ d))):=fA f271 qYt (e6 S9 AG qPz NM yDb NN) (loops1 vL3)
def vEl:zE:=sp [sI 1,sP 2 0,sI 5,sI 6] [oB jP]
def yFd (f:qR1)(d:vEl.den):=(vF (f (wl d) (Rd d) (Fd d)) d.2.1)
def qSw:zT:=⟨[vEl],[(.exit 0,yOb)],Int,fun k d=>yFd (Fz k k) d,fun b x _ K=>K (.exit 0) (zL b yOb (((x,()),()),()))⟩
def yYw:zU:=⟨[],[(3,qSw)],[],false⟩
theorem vZk:md 28 (wd f321 0) qSw:=lp (A:=yYw) qSw (fun d=>(wl d)) yFd Fz FA e0 zF
theorem vCr:gc (zI 321 [.agg jZ,.c .i] (.c .i) (fun k d=>(lJ (P6 k) d)) (fun x=>(x,())) (fun d=>d.1)):=fA f321 yYw e0 (loops1 vZk)
def yU5:zE:=sp [(1,.c (.dat false zG)),sI 2,sP 3 0,sI 7,sI 8,sI 9,sI 10,sI 11] [oB jP]
def yY0:zE:=sp [sI 2,sP 3 0,sI 7,sI 8,sI 9,sI 10] [oB jP]
def vIy (f:qTf)(d:yU5.den):=(vF (f (wl d) (pi d) (Fd d) (ce d) (ci d) (un d) (ap d)) d.2.1)
def yAc:zT:=⟨[yU5],[(.exit 0,yY0),(.ret,yV6)],qXt,fun k d=>vIy (sN k k) d,fun b x _ K=>match x with|.inl x=>K (.exit 0) (zL b yY0 (((x.1,()),(),(x.2.1,()),(Mj x,()),(li x,()),(ii x,()),()),((vT9 x ()),())))|.inr x=>K .ret (zL b yV6 (((x,()),()),()))⟩
def yUr:zU:=⟨[],[(7,yAc)],[],false⟩
theorem afu:md 130 (wd f310 0) yAc:=lp (A:=yUr) yAc (fun d=>match d with|.inl d=>.inl (wl d,Rd d,Fd d,ce d,ci d,(jM d.2.1))|.inr d=>.inr (wl d)) vIy sN FC (e4 yE6 vCr qPs NM) zF
theorem vFo:gc (zI 310 [.agg jZ,.c (.dat false zG),.c .i] (.c .bool) (fun k d=>(kq (P9 k) d)) (fun x=>(x,())) (fun d=>d.1)):=fA f310 yUr (e4 yE6 vCr qPs NM) (loops1 afu)
def vIg:zE:=⟨[(1,.c (.dat false zG)),sP 2 0,sO 5 1,sI 6],[oB jP,oA .i],[(5,none,.i,false)]⟩
def yKe (f:qXr)(d:vIg.den):=(vF (f (wl d) (Fd d)) d.2.1) (Mj d)
def qRy:zT:=⟨[vIg],[(.exit 0,yVy)],AC,fun k d=>yKe (uG k k) d,fun b x _ K=>K (.exit 0) (zL b yVy (((),()),(x,())))⟩
def yW6:zU:=⟨[],[(3,qRy)],[],false⟩
theorem vUv:md 23 (wd f294 0) qRy:=lp (A:=yW6) qRy (fun d=>d.2.1) yKe uG sQ (e1 vFo) zF
theorem NO:gc (zI 294 [.agg jZ,.c (.dat false zG)] (.c (.own .i)) (fun k d=>(lJ (uF k) d)) (fun x=>(x,())) (fun d=>d.1)):=fA f294 yW6 (e1 vFo) (loops1 vUv)
theorem vKc:gc (zI 309 [.agg jZ,.c (.dat false zG)] (.c .bool) (fun k d=>(lJ (Ld k) d)) (fun x=>(x,())) (fun d=>d.1)):=fA f309 Pa (e2 S9 NO) zF
theorem vx:gc (zI 292 [.agg lg,.c (.dat false zG)] (.tup [(true,ny),(false,[.bool])]) (fun k d=>(lJ (vr k) d)) (fun x=>(vK x ())) (fun d=>(qZ d))):=fA f292 Pa (e2 qPc vKc) zF
def yXe:zE:=sp [sP 3 0,sP 6 1,sO 8 2,sI 9] [oB wC,oB vY,oA zG]
def yPu:zE:=sp [sP 6 0] [oB vY]
def vDr:zE:=sp [sP 6 0,(7,.c .bool)] [oB vY]
def vIf (f:qTd)(d:yXe.den):=(mA (vF (f (Fd d)) d.2.1) (Mj d)) (li d)
def qUn:zT:=⟨[yXe],[(.exit 0,yPu),(.ret,vDr)],qLy,fun k d=>vIf (M4 k k) d,fun b x _ K=>match x with|.inl x=>K (.exit 0) (zL b yPu (((),()),((gh x ()),())))|.inr x=>K .ret (zL b vDr (((),(x.1,()),()),((yKg x ()),())))⟩
def vJ8:zU:=⟨[],[(3,qUn)],[],false⟩
theorem vZb:md 37 (wd f291 0) qUn:=lp (A:=vJ8) qUn (fun d=>match d with|.inl d=>.inl (vO d.2.1)|.inr d=>.inr (pi d,(vO d.2.1))) vIf M4 Ii (e2 NL vx) zF
theorem vI7:gc (zI 291 [.agg lg,.c (.dat true zG),.c .i] (.tup [(true,pG),(false,[.bool])]) (fun k d=>(kq (RF k) d)) (fun x=>(Db x ())) (fun d=>(kp d))):=fA f291 vJ8 (e2 NL vx) (loops1 vZb)
def vA3:zE:=⟨[(1,.c (.dat true zG)),sI 2,sP 3 0,sP 6 1,sO 9 2],[oB wC,oB oD,oA zG],[(9,none,zG,false)]⟩
def yPv (f:qU8)(d:vA3.den):=(vF (f (wl d) (pi d)) d.2.1) (li d)
def qVb:zT:=⟨[vA3],[(.ret,yXx)],yDo,fun k d=>yPv (M5 k k) d,fun b x _ K=>K .ret (zL b yXx (((),(x.1,()),(),()),((iK x ()),Fr x,())))⟩
def yPf:zU:=⟨[],[(2,qVb)],[],false⟩
theorem afw:md 43 (wd f266 0) qVb:=lp (A:=yPf) qVb (fun d=>(pi d,(vV d.2.1 (Mj d)))) yPv M5 Ij (e3 vI7 vx mB) zF
theorem ySy:gc (zI 266 [.agg lg,.c (.dat true zG),.c .i] (.tup [(true,ny),(false,[.fro zG]),(false,[.own zG])]) (fun k d=>(kq (RG k) d)) (fun x=>(oE x ())) (fun d=>(nz d))):=fA f266 yPf (e3 vI7 vx mB) (loops1 afw)
def yS3:zE:=sp [sP 3 0,sP 6 1,sP 7 2,sO 9 3,sI 10,sI 11] [oB wC,oB vY,oB vY,oA zG]
def yHh:zE:=sp [sP 3 0,sP 6 1,sP 7 2,sO 9 3,sI 10] [oB wC,oB vY,oB vY,oA zG]
def vI2:zE:=sp [sP 6 0,sP 7 1,(8,.c .bool)] [oB vY,oB vY]
def ySc (f:yEw)(d:yS3.den):=(mA (mA (vF (f (ce d) (ci d)) d.2.1) (Mj d)) (li d)) (ii d)
def qRd:zT:=⟨[yS3],[(.exit 2,yHh),(.ret,vI2)],qRr,fun k d=>ySc (M7 k k) d,fun b x _ K=>match x with|.inl x=>K (.exit 2) (zL b yHh (((),(),(),(),(x.1,()),()),((iK x ()),(afx x ()),(afy x ()),x.2.2.2.2.2.2.2.2.2.2.2.2.2.2.2.2.2.2.2,())))|.inr x=>K .ret (zL b vI2 (((),(),(x.1,()),()),((qY9 x ()),(vAe x ()),())))⟩
def yN6:zE:=sp [sP 6 0,sP 7 1] [oB vY,oB vY]
def yL9 (f:qY4)(d:yHh.den):=(mA (mA (vF (f (ce d)) d.2.1) (Mj d)) (li d)) (ii d)
def qUp:zT:=⟨[yHh],[(.exit 0,yN6),(.ret,vI2)],qNo,fun k d=>yL9 (M8 k k) d,fun b x _ K=>match x with|.inl x=>K (.exit 0) (zL b yN6 (((),(),()),((kk x ()),(yRa x ()),())))|.inr x=>K .ret (zL b vI2 (((),(),(x.1,()),()),((qY9 x ()),(vAe x ()),())))⟩
def qMo:zU:=⟨[],[(6,qRd),(3,qUp)],[],false⟩
theorem vXl:md 71 (zQ (wd f293 0) 0) qRd:=lp (A:=qMo) qRd (fun d=>match d with|.inl d=>.inl (ce d,(vV d.2.1 (kk (Mj d) (kk (li d) (ii d)))))|.inr d=>.inr (Rd d,(kk d.2.1 (vO (Mj d))))) ySc M7 Ik (e2 NL vx) zF
theorem vPw:md 71 (wd f293 0) qUp:=lp (A:=qMo) qUp (fun d=>match d with|.inl d=>.inl (kk d.2.1 (vO (Mj d)))|.inr d=>.inr (Rd d,(kk d.2.1 (vO (Mj d))))) yL9 M8 Il (e2 NL vx) (loops1 vXl)
theorem vBp:gc (zI 293 [.agg lg,.c (.dat true zG),.c .i] (.tup [(true,pG),(true,pG),(false,[.bool])]) (fun k d=>(kq (RH k) d)) (fun x=>(vBr x ())) (fun d=>(yY7 d))):=fA f293 qMo (e2 NL vx) (loops1 vPw)
def yHc (f:qU8)(d:vA3.den):=(vF (f (wl d) (pi d)) d.2.1) (li d)
def qWh:zT:=⟨[vA3],[(.ret,yXx)],yDo,fun k d=>yHc (M9 k k) d,fun b x _ K=>K .ret (zL b yXx (((),(x.1,()),(),()),((iK x ()),Fr x,())))⟩
def yF7:zU:=⟨[],[(2,qWh)],[],false⟩
theorem vTn:md 55 (wd f267 0) qWh:=lp (A:=yF7) qWh (fun d=>(pi d,(vV d.2.1 (Mj d)))) yHc M9 Im (e3 vBp vx mB) zF
theorem vCs:gc (zI 267 [.agg lg,.c (.dat true zG),.c .i] (.tup [(true,ny),(false,[.fro zG]),(false,[.own zG])]) (fun k d=>(kq (RI k) d)) (fun x=>(oE x ())) (fun d=>(nz d))):=fA f267 yF7 (e3 vBp vx mB) (loops1 vTn)
def vDz (f:qU8)(d:vA3.den):=(vF (f (wl d) (pi d)) d.2.1) (li d)
def qW8:zT:=⟨[vA3],[(.ret,yXx)],yDo,fun k d=>vDz (Nc k k) d,fun b x _ K=>K .ret (zL b yXx (((),(x.1,()),(),()),((iK x ()),Fr x,())))⟩
def vJt:zU:=⟨[],[(2,qW8)],[],false⟩
theorem vS1:md 45 (wd f235 0) qW8:=lp (A:=vJt) qW8 (fun d=>(pi d,(vV d.2.1 (Mj d)))) vDz Nc Ix (e2 ySy vCs) zF
theorem vK0:gc (zI 235 [.agg lg,.c (.dat true zG),.c .i] (.tup [(true,ny),(false,[.fro zG]),(false,[.own zG])]) (fun k d=>(kq (Nd k) d)) (fun x=>(oE x ())) (fun d=>(nz d))):=fA f235 vJt (e2 ySy vCs) (loops1 vS1)
def yWn:zE:=⟨[(0,.c (.dat false zG)),(1,.c (.dat false .i)),sO 5 0,sI 6],[oA zG],[(5,none,zG,false)]⟩
def vBj (f:qYz)(d:yWn.den):=f (wl d) (pi d) (Fd d) d.2.1
def qS6:zT:=⟨[yWn],[(.exit 0,yOm)],qZc,fun k d=>vBj (Ip k k) d,fun b x _ K=>K (.exit 0) (zL b yOm (((),()),(x,())))⟩
def vGa:zU:=⟨[],[(3,qS6)],[],false⟩
theorem vPo:md 60 (wd f269 0) qS6:=lp (A:=vGa) qS6 (fun d=>d.2.1) vBj Ip Iq (e1 AF) zF
theorem I7:gc (zI 269 [.c (.dat false zG),.c (.dat false .i)] (.c (.own zG)) (fun k d=>Io k d.1 d.2.1) (fun x=>(x,())) (fun d=>d.1)):=fA f269 vGa (e1 AF) (loops1 vPo)
def yI9:zE:=⟨[sP 3 0,sO 8 1,sO 9 2,sI 10],[oB jP,oA zG,oA .i],[(9,none,.i,false)]⟩
def yYd:zE:=sp [sP 3 0,sO 8 1,sO 9 2] [oB jP,oA zG,oA .i]
def yTg (f:yBc)(d:yI9.den):=(vF (f (Fd d)) d.2.1) (Mj d) (li d)
def Tb:zT:=⟨[yI9],[(.exit 0,yYd)],qRs,fun k d=>yTg (CU k k) d,fun b x _ K=>K (.exit 0) (zL b yYd (((),(),(),()),((vV x ()),ii x,Fr x,())))⟩
def yMj:zE:=sp [sP 3 0,sO 8 1,sO 9 2,sI 11,sO 12 3,sI 13] [oB jP,oA zG,oA .i,oA .i]
def vF6:zE:=sp [sP 3 0,sO 8 1,sO 9 2,sI 11] [oB jP,oA zG,oA .i]
def yLo (f:yD4)(d:yMj.den):=(vF (f (Fd d) (ci d)) d.2.1) (Mj d) (li d) (ii d)
def qQ3:zT:=⟨[yMj],[(.exit 4,vF6)],qLn,fun k d=>yLo (Is k k) d,fun b x _ K=>K (.exit 4) (zL b vF6 (((),(),(),(x.1,()),()),((iK x ()),ge x,x.2.2.2.2.2.2,())))⟩
def yIb (f:qX3)(d:vF6.den):=(vF (f (Fd d)) d.2.1) (Mj d) (li d)
def Tc:zT:=⟨[vF6],[(.ret,vHa)],(Int×AC),fun k d=>yIb (Na k k) d,fun b x _ K=>K .ret (zL b vHa (((),(x.1,()),()),(x.2,())))⟩
def Td:zU:=⟨[],[(4,Tb),(13,qQ3),(9,Tc)],[],false⟩
theorem afC:md 58 (wd f268 0) Tb:=lp (A:=Td) Tb (fun d=>(vV d.2.1 (Mj d,li d))) yTg CU Ir (e4 De AF I7 NO) zF
theorem vS3:md 58 (zQ (wd f268 1) 0) qQ3:=lp (A:=Td) qQ3 (fun d=>(Fd d,(vV d.2.1 (Mj d,li d)))) yLo Is Iu (e4 De AF I7 NO) zF
theorem vZp:md 58 (wd f268 1) Tc:=lp (A:=Td) Tc (fun d=>(pi d,d.2.1)) yIb Na Iv (e4 De AF I7 NO) (loops1 vS3)
theorem yLz:gc (zI 268 [.agg jZ,.c (.dat false zG),.c .i] (.tup [(false,[.own .i]),(false,yF)]) (fun k d=>(kq (RJ k) d)) (fun x=>(x.1,x.2,())) (fun d=>(d.1,d.2.1))):=fA f268 Td (e4 De AF I7 NO) (mc (n:=2) (by kernel_rfl) fun i hi=>match i,hi with|0,_=>⟨Tb,by kernel_rfl,afC⟩|1,_=>⟨Tc,by kernel_rfl,vZp⟩|i+2,hi=>absurd hi (by omega))
def yJi:zE:=sp [(1,.c (.dat true zG)),sP 6 0,sO 11 1,sP 12 2,sI 14] [oB oD,oA zG,oB wC]
def yRh:zE:=sp [(1,.c (.dat true zG)),sP 6 0,sO 11 1,sP 12 2] [oB oD,oA zG,oB wC]
def yX4 (f:yBi)(d:yJi.den):=(vF (f (wl d) (ce d) (Mj d)) (li d))
def yAj:zT:=⟨[yJi],[(.exit 0,yRh)],qP5,fun k d=>yX4 (CV k k) d,fun b x _ K=>K (.exit 0) (zL b yRh (((x.1,()),(),(),(),()),((),x.2.1,(Cx x ()),())))⟩
def vCe:zU:=⟨[],[(7,yAj)],[],false⟩
theorem afD:md 57 (wd f236 0) yAj:=lp (A:=vCe) yAj (fun d=>(wl d,Mj d,(jM (li d)))) yX4 CV Iw (e5 yLz De I7 qPc mB) zF
theorem afF:gc (zI 236 [.agg lg,.c (.dat true zG),.c .i] (.tup [(true,ny),(false,[.fro zG]),(false,[.own zG])]) (fun k d=>(kq (Nb k) d)) (fun x=>(oE x ())) (fun d=>(nz d))):=fA f236 vCe (e5 yLz De I7 qPc mB) (loops1 afD)
theorem afH:gc (zI 189 [.agg lg,.c (.dat true zG),.c .i,.c .bool] (.tup [(true,ny),(false,[.fro zG]),(false,[.own zG])]) (fun k d=>(mA (RK k) d)) (fun x=>(oE x ())) (fun d=>(nz d))):=fA f189 Pa (e2 vK0 afF) zF
def vGc:zE:=⟨[(0,.c (.dat false zG)),sO 3 0,sI 4],[oA yE],[(3,none,yE,false)]⟩
def vGp (f:qP9)(d:vGc.den):=f (wl d) (Rd d) d.2.1
def yCy:zT:=⟨[vGc],[(.exit 0,yGs)],qUl,fun k d=>vGp (L7 k k) d,fun b x _ K=>K (.exit 0) (zL b yGs (((),()),(x,())))⟩
def yW4:zU:=⟨[],[(3,yCy)],[],false⟩
theorem vO5:md 39 (wd f190 0) yCy:=lp (A:=yW4) yCy (fun d=>d.2.1) vGp L7 GR (e1 tu) zF
theorem afJ:gc (zI 190 [.c (.dat false zG)] (.c (.own yE)) (fun k d=>QQ k d.1) (fun x=>(x,())) (fun d=>d.1)):=fA f190 yW4 (e1 tu) (loops1 vO5)
theorem NP:gc (zI 107 [.agg Av,.c .bool] (.tup [(true,Au),(false,[.own yE])]) (fun k d=>(NF (ow k) d)) (fun x=>(IZ x ())) (fun d=>(I1 d))):=fA f107 Pa (e2 afH afJ) zF
def yXo:zE:=⟨[sP 3 0,sP 4 1,sO 6 2,(7,.c (.dat true zG)),sI 8],[oB iI,oB jN,oA yE],[(6,none,yE,false)]⟩
def vCn:zE:=sp [sP 3 0,sP 4 1,sO 6 2] [oB iI,oB jN,oA yE]
def vHj (f:qXe)(d:yXo.den):=f (Fd d) (ce d) (qO d.2.1) (Do d,pm d,jp d) (li d)
def Te:zT:=⟨[yXo],[(.exit 0,vCn)],qU7,fun k d=>vHj (zo k k) d,fun b x _ K=>K (.exit 0) (zL b vCn (((),(),(),()),((vP x.1 ()),(ms x,qr x,x.2.1.2.2,()),x.2.2,())))⟩
def yL7:zE:=sp [sP 3 0,sP 4 1,sO 6 2,sI 9] [oB iI,oB jN,oA yE]
def vJ0 (f:qY5)(d:yL7.den):=f (Fd d) (qO d.2.1) (Do d,pm d,jp d) (li d)
def Tf:zT:=⟨[yL7],[(.exit 2,vCn)],qU7,fun k d=>vJ0 (zp k k) d,fun b x _ K=>K (.exit 2) (zL b vCn (((),(),(),()),((vP x.1 ()),(ms x,qr x,x.2.1.2.2,()),x.2.2,())))⟩
def yNg:zE:=⟨[sP 2 0,sP 3 1,sP 4 2,sO 6 3,(7,.c (.dat true zG)),sI 10],[oB I3,oB iI,oB jN,oA yE],[(6,none,yE,false)]⟩
def vJ7:zE:=sp [sP 2 0,sP 3 1,sP 4 2,sO 6 3] [oB I3,oB iI,oB jN,oA yE]
def yJw (f:yE7)(d:yNg.den):=f (ce d) (ci d) (qZ d.2.1) (qO (Mj d)) (pp d,In d,ip d) (ii d)
def Tg:zT:=⟨[yNg],[(.exit 4,vJ7)],qXf,fun k d=>yJw (vt k k) d,fun b x _ K=>K (.exit 4) (zL b vJ7 (((),(),(),(),()),((vK x.1 ()),(vP x.2.1 ()),(Do x,pm x,x.2.2.1.2.2,()),x.2.2.2,())))⟩
def Th:zU:=⟨[],[(8,Te),(12,Tf),(18,Tg)],[],true⟩
theorem vTj:md 129 (wd f105 0) Te:=lp (A:=Th) Te (fun d=>((qO d.2.1),(Do d,pm d,jp d),li d)) vHj zo Iy (e6 S5 tu S6 mB S7 NP) zF
theorem vV7:md 129 (wd f105 1) Tf:=lp (A:=Th) Tf (fun d=>((qO d.2.1),(Do d,pm d,jp d),li d)) vJ0 zp Iz (e6 S5 tu S6 mB S7 NP) zF
theorem vXe:md 129 (wd f105 2) Tg:=lp (A:=Th) Tg (fun d=>((qZ d.2.1),(qO (Mj d)),(pp d,In d,ip d),ii d)) yJw vt IA (e6 S5 tu S6 mB S7 NP) zF
theorem afK:gc (zI 105 [.agg NG,.agg Av] (.tup [(true,Au),(false,[.own yE])]) (fun k d=>IB k (qZ d) (gM d)) (fun x=>(vP x.1 (x.2,()))) (fun d=>((qO d),ul d))):=fA f105 Th (e6 S5 tu S6 mB S7 NP) (mc (n:=3) (by kernel_rfl) fun i hi=>match i,hi with|0,_=>⟨Te,by kernel_rfl,vTj⟩|1,_=>⟨Tf,by kernel_rfl,vV7⟩|2,_=>⟨Tg,by kernel_rfl,vXe⟩|i+3,hi=>absurd hi (by omega))
theorem qYk:gc (zI 223 [.ptr vDs,.c .i] (.c .i) (fun k d=>vn k (SK d) (be d)) (fun x=>(x,())) (fun d=>d.1)):=fA f223 n0 e0 zF
theorem yFk:gc (zI 230 [.agg ig,.c .i,.c .i] (.c .i) (fun k d=>Ic k (qZ d) (ge d) (If d)) (fun x=>(x,())) (fun d=>d.1)):=fA f230 n0 e0 zF
theorem afM:gc (zI 224 [.agg ig,.c .i,.agg vM] (.c .i) (fun k d=>CP k (qZ d) (ge d) (yDq d)) (fun x=>(x,())) (fun d=>d.1)):=fA f224 n0 (e1 yFk) zF
def vCt:zE:=sp [(0,.c (.dat false .i)),sI 1,sI 5] []
def yTv (f:qOd)(d:vCt.den):=f (wl d) (pi d) (Rd d)
def qY2:zT:=⟨[vCt],[(.exit 0,yZp),(.ret,vHg)],(Unit⊕Bool),fun k d=>yTv (th k k) d,fun b x _ K=>match x with|.inl x=>K (.exit 0) (zL b yZp ((),()))|.inr x=>K .ret (zL b vHg (((x,()),()),()))⟩
def yVw:zU:=⟨[],[(2,qY2)],[],true⟩
theorem afN:md 18 (wd f174 0) qY2:=lp (A:=yVw) qY2 (fun d=>match d with|.inl d=>.inl ()|.inr d=>.inr (wl d)) yTv th tj e0 zF
theorem Ti:gc (zI 174 [.c (.dat false .i),.c .i] (.c .bool) (fun k d=>CC k d.1 d.2.1) (fun x=>(x,())) (fun d=>d.1)):=fA f174 yVw e0 (loops1 afN)
def yWa:zE:=sp [(0,.c (.dat true .i)),sI 1,sI 6] []
def vDa (f:qX6)(d:yWa.den):=f (wl d) (pi d) (Rd d)
def qZd:zT:=⟨[yWa],[(.exit 0,yWa)],(AC×Int×Int),fun k d=>vDa (M3 k k) d,fun b x _ K=>K (.exit 0) (zL b yWa (((x.1,()),(x.2.1,()),(x.2.2,()),()),()))⟩
def yVs:zU:=⟨[],[(6,qZd)],[],true⟩
theorem afO:md 41 (wd f225 0) qZd:=lp (A:=yVs) qZd (fun d=>(wl d,pi d,Rd d)) vDa M3 Ia (e1 Ti) zF
theorem vRu:gc (zI 225 [.c (.dat true .i),.c .i] (.tup [(false,[.fro .i]),(false,yF)]) (fun k d=>CO k d.1 d.2.1) (fun x=>(x.1,x.2,())) (fun d=>(d.1,d.2.1))):=fA f225 yVs (e1 Ti) (loops1 afO)
theorem I8:gc (zI 222 [.agg vM,.agg vM] (.c .bool) (fun k d=>(IU (HI k) d)) (fun x=>(x,())) (fun d=>d.1)):=fA f222 Pa e0 zF
def vGr:zE:=sp [(0,.c (.dat false zG)),sP 3 0,sI 5] [oB vY]
def yKz (f:qO1)(d:vGr.den):=(mA (f (wl d) (Rd d)) d.2.1)
def qZl:zT:=⟨[vGr],[(.exit 0,yOb)],Int,fun k d=>yKz (H7 k k) d,fun b x _ K=>K (.exit 0) (zL b yOb (((x,()),()),()))⟩
def yZ1:zU:=⟨[],[(2,qZl)],[],false⟩
theorem afQ:md 21 (wd f264 0) qZl:=lp (A:=yZ1) qZl (fun d=>(wl d)) yKz H7 H8 (e1 I8) zF
theorem qNj:gc (zI 264 [.c (.dat false zG),.agg vM] (.c .i) (fun k d=>(mz (H6 k) d)) (fun x=>(x,())) (fun d=>d.1)):=fA f264 yZ1 (e1 I8) (loops1 afQ)
theorem NQ:gc (zI 263 [.c (.dat false zG),.c .i,.agg vM] (.c (.own zG)) (fun k d=>(SG (CM k) d)) (fun x=>(x,())) (fun d=>d.1)):=fA f263 Pa e0 zF
theorem afS:gc (zI 226 [.c (.dat true zG),.agg vM] (.tup [(false,[.fro zG]),(false,yF)]) (fun k d=>(mz (CN k) d)) (fun x=>(x.1,x.2,())) (fun d=>(d.1,d.2.1))):=fA f226 Pa (e3 I6 qNj NQ) zF
theorem vN1:gc (yB 183 [.ptr true Df,.agg Ny] (.c .i) [Dg] 0 (fun k d=>RA k (yH d (Id d)) (afU d)) (fun x=>(x.1,(AE x.2 ()))) (fun d=>(d.1,(Dh d)))):=fX f183 n0 1 (e4 qYk afM vRu afS) zF
theorem afV:gc (zI 227 [.ptr vDs,.c .i] (.tup [(true,pG),(false,[.bool])]) (fun k d=>yTz k (SK d) (be d)) (fun x=>(gh x.1 (x.2,()))) (fun d=>((vO d),rg d))):=fA f227 n0 (e1 I6) zF
def yW8:zE:=sp [(6,.c (.dat true zG)),sP 7 0,sI 9] [oB vY]
def vHx (f:qUh)(d:yW8.den):=f (wl d) (Rd d) (vO d.2.1)
def qRz:zT:=⟨[yW8],[(.exit 0,yW8)],yBj,fun k d=>vHx (MZ k k) d,fun b x _ K=>K (.exit 0) (zL b yW8 (((x.1,()),(),(x.2.1,()),()),((gh x.2.2 ()),())))⟩
def yVo:zU:=⟨[],[(5,qRz)],[],true⟩
theorem afW:md 40 (wd f228 0) qRz:=lp (A:=yVo) qRz (fun d=>(wl d,Rd d,(vO d.2.1))) vHx MZ H9 (e3 mB I8 NQ) zF
theorem afX:gc (zI 228 [.c (.dat true zG),.c .i] (.tup [(false,[.fro zG]),(false,yF)]) (fun k d=>MX k d.1 d.2.1) (fun x=>(x.1,x.2,())) (fun d=>(d.1,d.2.1))):=fA f228 yVo (e3 mB I8 NQ) (loops1 afW)
theorem afY:gc (zI 229 [.c (.dat true zG),.c .i] (.tup [(false,[.fro zG]),(false,yF)]) (fun k d=>MW k d.1 d.2.1) (fun x=>(x.1,x.2,())) (fun d=>(d.1,d.2.1))):=fA f229 n0 (e3 mB qNj NQ) zF
theorem vOh:gc (zI 231 [.c (.dat true zG),.c .i,.c .i] (.tup [(false,[.fro zG]),(false,yF)]) (fun k d=>MV k d.1 d.2.1 (Mj d)) (fun x=>(x.1,x.2,())) (fun d=>(d.1,d.2.1))):=fA f231 n0 (e3 mB qNj NQ) zF
theorem vOw:gc (yB 184 [.ptr true Df,.c (.p .i),.agg Ny] (.c .i) [Dg] 0 (fun k d=>CR k (yH d (Id d)) (be d) (yHz d)) (fun x=>(x.1,(AE x.2 ()))) (fun d=>(d.1,(Dh d)))):=fX f184 n0 1 (e7 afV mB tu afX afY yFk vOh) zF
theorem af0:gc (yB 185 [.ptr true Df,.c (.p .i),.agg Ny] (.c .i) [Dg] 0 (fun k d=>CT k (yH d (Id d)) (be d) (yHz d)) (fun x=>(x.1,(AE x.2 ()))) (fun d=>(d.1,(Dh d)))):=fX f185 n0 1 (e2 AG qYk) zF
theorem qM6:gc (zI 233 [.c (.dat false .i),.c .i,.c .i] (.c (.own .i)) (fun k d=>vp k d.1 d.2.1 (Mj d)) (fun x=>(x,())) (fun d=>d.1)):=fA f233 n0 e0 zF
theorem qZq:gc (zI 289 [.c .i] (.c (.own .i)) (fun k d=>Rl k d.1) (fun x=>(x,())) (fun d=>d.1)):=fA f289 n0 e0 zF
def yGh:zE:=sp [sO 0 0,sI 3] [oA .i]
def yR6:zE:=sp [sO 0 0] [oA .i]
def yO2 (f:Int→AC→Option AC)(d:yGh.den):=f (pi d) d.2.1
def qMl:zT:=⟨[yGh],[(.exit 0,yR6)],AC,fun k d=>yO2 (qXh k k) d,fun b x _ K=>K (.exit 0) (zL b yR6 (((),()),(x,())))⟩
def yUe:zU:=⟨[],[(2,qMl)],[],true⟩
theorem af3:md 35 (wd f290 0) qMl:=lp (A:=yUe) qMl (fun d=>d.2.1) yO2 qXh vIo e0 zF
theorem NR:gc (yB 290 [.c (.own .i)] (.c (.own .i)) [] 0 (fun k d=>Hk k d.1) (fun x=>(x,())) (fun d=>d.1)):=fX f290 yUe 0 e0 (loops1 af3)
def yG8:zE:=sp [sI 1,sO 5 0,sO 6 1,sI 7,sI 8] [oA .i,oA .i]
def yU7:zE:=sp [sI 1,sO 5 0,sO 6 1,sI 7] [oA .i,oA .i]
def yLd (f:qSd)(d:yG8.den):=f (wl d) (Fd d) (ce d) d.2.1 (Mj d)
def qT7:zT:=⟨[yG8],[(.exit 2,yU7)],qS7,fun k d=>yLd (qVs k k) d,fun b x _ K=>K (.exit 2) (zL b yU7 (((x.1,()),(),(),(x.2.1,()),()),(Mj x,x.2.2.2,())))⟩
def yJ0 (f:qUv)(d:yU7.den):=f (wl d) (Fd d) d.2.1 (Mj d)
def qYr:zT:=⟨[yU7],[(.exit 0,vAn)],AC,fun k d=>yJ0 (Rj k k) d,fun b x _ K=>K (.exit 0) (zL b vAn (((),()),(x,())))⟩
def qUu:zU:=⟨[],[(7,qT7),(4,qYr)],[],true⟩
theorem vQg:md 47 (zQ (wd f260 0) 0) qT7:=lp (A:=qUu) qT7 (fun d=>(wl d,Fd d,d.2.1,Mj d)) yLd qVs yPe (e2 qZq NR) zF
theorem af5:md 47 (wd f260 0) qYr:=lp (A:=qUu) qYr (fun d=>d.2.1) yJ0 Rj yL0 (e2 qZq NR) (loops1 vQg)
theorem vXc:gc (zI 260 [.c .i,.c .i] (.c (.own .i)) (fun k d=>Rk k d.1 d.2.1) (fun x=>(x,())) (fun d=>d.1)):=fA f260 qUu (e2 qZq NR) (loops1 af5)
def yIk:zE:=sp [sO 0 0,sI 1,sI 5] [oA .i]
def vH0 (f:Int→Int→AC→Option AC)(d:yIk.den):=f (pi d) (Rd d) d.2.1
def qYn:zT:=⟨[yIk],[(.exit 0,yR6)],AC,fun k d=>vH0 (Q8 k k) d,fun b x _ K=>K (.exit 0) (zL b yR6 (((),()),(x,())))⟩
def vA6:zU:=⟨[],[(2,qYn)],[],true⟩
theorem af6:md 23 (wd f261 0) qYn:=lp (A:=vA6) qYn (fun d=>d.2.1) vH0 Q8 vIr (e1 NR) zF
theorem af7:gc (yB 261 [.c (.own .i),.c (.p .i)] (.c (.own .i)) [] 0 (fun k d=>Q7 k d.1 d.2.1) (fun x=>(x,())) (fun d=>d.1)):=fX f261 vA6 0 (e1 NR) (loops1 af6)
def vI9:zE:=sp [sO 0 0,sI 1,sI 6,sI 7] [oA .i]
def yZ2 (f:qVd)(d:vI9.den):=f (pi d) (Rd d) (Fd d) d.2.1
def Tj:zT:=⟨[vI9],[(.exit 0,yR6)],AC,fun k d=>yZ2 (Mo k k) d,fun b x _ K=>K (.exit 0) (zL b yR6 (((),()),(x,())))⟩
def yJy:zE:=sp [sO 0 0,sI 9] [oA .i]
def vIb:zE:=sp [sI 4,(5,.c .bool)] []
def yTn (f:qVl)(d:yJy.den):=f (pi d) d.2.1
def Tl:zT:=⟨[yJy],[(.exit 2,yR6),(.ret,vIb)],(AC⊕fa),fun k d=>yTn (HG k k) d,fun b x _ K=>match x with|.inl x=>K (.exit 2) (zL b yR6 (((),()),(x,())))|.inr x=>K .ret (zL b vIb (((x.1,()),(x.2,()),()),()))⟩
def qUe:zU:=⟨[],[(3,Tj),(9,Tl)],[],true⟩
theorem vVc:md 66 (wd f262 0) Tj:=lp (A:=qUe) Tj (fun d=>d.2.1) yZ2 Mo vB0 e0 zF
theorem vVx:md 66 (wd f262 1) Tl:=lp (A:=qUe) Tl (fun d=>match d with|.inl d=>.inl d.2.1|.inr d=>.inr (wl d,pi d)) yTn HG vA0 e0 zF
theorem af8:gc (yB 262 [.c (.own .i),.c (.p .i)] (.tup [(false,yF),(false,[.bool])]) [] 0 (fun k d=>Ri k d.1 d.2.1) (fun x=>(x.1,x.2,())) (fun d=>(d.1,d.2.1))):=fX f262 qUe 0 e0 (mc (n:=2) (by kernel_rfl) fun i hi=>match i,hi with|0,_=>⟨Tj,by kernel_rfl,vVc⟩|1,_=>⟨Tl,by kernel_rfl,vVx⟩|i+2,hi=>absurd hi (by omega))
theorem vGh:gc (zI 220 [.c .i,.c .i,.c .i] (.tup [(false,yF),(false,[.bool])]) (fun k d=>Rq k d.1 d.2.1 (Mj d)) (fun x=>(x.1,x.2,())) (fun d=>(d.1,d.2.1))):=fA f220 n0 (e3 vXc af7 af8) zF
theorem qS0:gc (zI 221 [.c .i,.c .i] (.tup [(false,yF),(false,[.bool])]) (fun k d=>HJ k d.1 d.2.1) (fun x=>(x.1,x.2,())) (fun d=>(d.1,d.2.1))):=fA f221 n0 e0 zF
def yFz:zE:=sp [(0,.c (.dat false wQ)),(1,.c (.dat false .i)),(2,.c (.dat false .i)),sI 8,sI 9] []
def vHz:zE:=sp [sI 8] []
def yKn (f:qQ2)(d:yFz.den):=f (wl d) (pi d) (Rd d) (Fd d) (ce d)
def qV5:zT:=⟨[yFz],[(.exit 0,vHz),(.ret,yRt)],(Int⊕fa),fun k d=>yKn (MD k k) d,fun b x _ K=>match x with|.inl x=>K (.exit 0) (zL b vHz (((x,()),()),()))|.inr x=>K .ret (zL b yRt (((x.1,()),(x.2,()),()),()))⟩
def vGu:zU:=⟨[],[(5,qV5)],[],true⟩
theorem af9:md 63 (wd f170 0) qV5:=lp (A:=vGu) qV5 (fun d=>match d with|.inl d=>.inl (wl d)|.inr d=>.inr (wl d,pi d)) yKn MD HK (e2 vGh qS0) zF
theorem Dl:gc (zI 170 [.c (.dat false wQ),.c (.dat false .i),.c (.dat false .i)] (.tup [(false,yF),(false,[.bool])]) (fun k d=>zc k d.1 d.2.1 (Mj d)) (fun x=>(x.1,x.2,())) (fun d=>(d.1,d.2.1))):=fA f170 vGu (e2 vGh qS0) (loops1 af9)
theorem agb:gc (yB 186 [.ptr true Df,.c (.p .i),.c (.p .i)] (.c .i) [Dg] 0 (fun k d=>RB k (yH d (Id d)) (be d) d.2.2.2.2.2.2.2.2.2.2.2.2.2.2.2.2.2.2.2.2.1) (fun x=>(x.1,(AE x.2 ()))) (fun d=>(d.1,(Dh d)))):=fX f186 n0 1 (e3 qM6 Dl AG) zF
theorem vT8:gc (zI 234 [.agg oC,.c .i] (.tup [(true,[.i,.i,.i]),(false,yF)]) (fun k d=>Ie k (d.1,d.2.1,Mj d) (li d)) (fun x=>(x.1.1,x.1.2.1,x.1.2.2,x.2,())) (fun d=>((d.1,d.2.1,Mj d),li d))):=fA f234 n0 (e2 qS0 Ta) zF
theorem agd:gc (yB 187 [.ptr true Df,.c (.p .bool),.c (.p .i),.c (.p .i)] (.c .i) [Dg] 0 (fun k d=>Ig k (yH d (Id d)) (be d) d.2.2.2.2.2.2.2.2.2.2.2.2.2.2.2.2.2.2.2.2.1 d.2.2.2.2.2.2.2.2.2.2.2.2.2.2.2.2.2.2.2.2.2.1) (fun x=>(x.1,(AE x.2 ()))) (fun d=>(d.1,(Dh d)))):=fX f187 n0 1 (e3 qYk AG vT8) zF
def yQf:zE:=sp [sP 0 0,sO 7 1,sP 8 2,sI 9] [oB qWt,oA .i,oB tz,oA qQ,.mat,oA .i,.mat]
def vGv:zE:=sp [sP 0 0,sO 7 1,sP 8 2] [oB qWt,oA .i,oB tz,oA qQ,.mat,oA .i,.mat]
def yGy:zE:=sp [sP 0 0,sI 6] [oB qWt]
def vD1 (f:yBp)(d:yQf.den):=f (Fd d) (jQ d.2.1) (Mj d) (ii d) (ge d) (If d) (rg d)
def qN4:zT:=⟨[yQf],[(.exit 0,vGv),(.ret,yGy)],qNb,fun k d=>vD1 (vq k k) d,fun b x _ K=>match x with|.inl x=>K (.exit 0) (zL b vGv (((),(),(),()),((jR x.1 ()),x.2.1,(),Mj x,li x,ii x,Fr x,())))|.inr x=>K .ret (zL b yGy (((),(x.1,()),()),((jR x.2 ()),())))⟩
def yGp:zU:=⟨[],[(6,qN4)],[],true⟩
theorem age:zS prog 1000 1 93 (wd f188 0) qN4:=lp (A:=yGp) qN4 (fun d=>match d with|.inl d=>.inl ((jQ d.2.1),Mj d,ii d,ge d,If d,rg d)|.inr d=>.inr (pi d,(jQ d.2.1))) vD1 vq Ih (e3 qM6 AG Dl) zF
theorem vQy:gc (yB 188 [.ptr true Df,.c (.p .i),.c (.p .i)] (.c .i) [Dg] 0 (fun k d=>RD k (yH d (Id d)) (be d) d.2.2.2.2.2.2.2.2.2.2.2.2.2.2.2.2.2.2.2.2.1) (fun x=>(x.1,(AE x.2 ()))) (fun d=>(d.1,(Dh d)))):=fX f188 yGp 1 (e3 qM6 AG Dl) (loops1 age)
theorem agh:gc (yB 106 [.ptr true Df,.agg vM] (.c .i) [Dg] 0 (fun k d=>zt k (yH d (Id d)) (vLt d)) (fun x=>(x.1,(AE x.2 ()))) (fun d=>(d.1,(Dh d)))):=fX f106 n0 1 (e6 vN1 vOw af0 agb agd vQy) zF
theorem qLz:gc (zI 42 [.agg NG,.agg Av,.agg C7] (.tup [(true,Au),(false,[.own yE]),(false,yF)]) (fun k d=>IE k (qZ d) (gM d) (qNt d)) (fun x=>(vP x.1 (x.2.1,x.2.2,()))) (fun d=>((qO d),ul d,co d))):=fA f42 n0 (e7 ae9 AF tu afK agh NP I6) zF
theorem R9:gc (yB 43 [.chn [Np,rj],.c (.p (.dat false (.int .u8)))] (.c .i) [Nq,nv] 0 (fun k d=>pC k (zz d) (C6 d) (lm d)) (fun x=>(x.1,(),(jI x.2.1 (wY x.2.2 ())))) (fun d=>(d.1,(Nr d),(Ns d)))):=fX f43 n0 0 (e1 yS2) zF
def yV7:zE:=sp [sP 2 0,sP 3 1,sI 5] [oB iH,oB lK]
def yS0:zE:=sp [sP 2 0,sP 3 1] [oB iH,oB lK]
def yKm (f:qOt)(d:yV7.den):=f (Rd d) (qZ d.2.1) (qO (Mj d))
def Tm:zT:=⟨[yV7],[(.exit 0,yS0),(.ret,vHg)],yD2,fun k d=>yKm (zj k k) d,fun b x _ K=>match x with|.inl x=>K (.exit 0) (zL b yS0 (((),(),()),((vK x.1 ()),(vP x.2 ()),())))|.inr x=>K .ret (zL b vHg (((x,()),()),()))⟩
def yG0:zE:=sp [sP 2 0,sP 3 1,sI 6,sI 7] [oB iH,oB lK]
def vBw:zE:=sp [sP 2 0,sP 3 1,sI 6] [oB iH,oB lK]
def yFj (f:qM7)(d:yG0.den):=f (Rd d) (Fd d) (qZ d.2.1) (qO (Mj d))
def qXd:zT:=⟨[yG0],[(.exit 4,vBw),(.ret,vHg)],qMx,fun k d=>yFj (CD k k) d,fun b x _ K=>match x with|.inl x=>K (.exit 4) (zL b vBw (((),(),(x.1,()),()),((vK x.2.1 ()),(vP x.2.2 ()),())))|.inr x=>K .ret (zL b vHg (((x,()),()),()))⟩
def vA2 (f:yA2)(d:vBw.den):=f (Rd d) (qZ d.2.1) (qO (Mj d))
def Tn:zT:=⟨[vBw],[(.exit 2,yZp),(.ret,vHg)],(Unit⊕Bool),fun k d=>vA2 (zk k k) d,fun b x _ K=>match x with|.inl x=>K (.exit 2) (zL b yZp ((),()))|.inr x=>K .ret (zL b vHg (((x,()),()),()))⟩
def To:zU:=⟨[],[(4,Tm),(14,qXd),(9,Tn)],[],true⟩
theorem vUd:md 122 (wd f99 0) Tm:=lp (A:=To) Tm (fun d=>match d with|.inl d=>.inl ((qZ d.2.1),(qO (Mj d)))|.inr d=>.inr (wl d)) yKm zj HQ (e1 Dl) zF
theorem vNn:md 122 (zQ (wd f99 1) 0) qXd:=lp (A:=To) qXd (fun d=>match d with|.inl d=>.inl (Rd d,(qZ d.2.1),(qO (Mj d)))|.inr d=>.inr (wl d)) yFj CD HR (e1 Dl) zF
theorem vZo:md 122 (wd f99 1) Tn:=lp (A:=To) Tn (fun d=>match d with|.inl d=>.inl ()|.inr d=>.inr (wl d)) vA2 zk HS (e1 Dl) (loops1 vNn)
theorem yP8:gc (zI 99 [.agg ig,.agg nx] (.c .bool) (fun k d=>MJ k (qZ d) (gM d)) (fun x=>(x,())) (fun d=>d.1)):=fA f99 To (e1 Dl) (mc (n:=2) (by kernel_rfl) fun i hi=>match i,hi with|0,_=>⟨Tm,by kernel_rfl,vUd⟩|1,_=>⟨Tn,by kernel_rfl,vZo⟩|i+2,hi=>absurd hi (by omega))
def yKq:zE:=sp [(0,.c (.dat false zG)),sI 3] []
def yQe (f:qXk)(d:yKq.den):=f (wl d) (pi d)
def yCn:zT:=⟨[yKq],[(.exit 0,vJ5),(.ret,yT1)],qO6,fun k d=>yQe (zd k k) d,fun b x _ K=>match x with|.inl x=>K (.exit 0) (zL b vJ5 (((x,()),()),()))|.inr x=>K .ret (zL b yT1 (((x,()),()),()))⟩
def yJo:zU:=⟨[],[(2,yCn)],[],false⟩
theorem agk:md 39 (wd f171 0) yCn:=lp (A:=yJo) yCn (fun d=>match d with|.inl d=>.inl (wl d)|.inr d=>.inr (wl d)) yQe zd HN (e2 I6 I8) zF
theorem yOj:gc (zI 171 [.c (.dat false zG)] (.c .bool) (fun k d=>MG k d.1) (fun x=>(x,())) (fun d=>d.1)):=fA f171 yJo (e2 I6 I8) (loops1 agk)
def yHr:zE:=sp [(0,.c (.dat false .i)),sI 3] []
def yJs (f:qXj)(d:yHr.den):=f (wl d) (pi d)
def qS8:zT:=⟨[yHr],[(.exit 0,yVr),(.ret,yT1)],(AC⊕Bool),fun k d=>yJs (CB k k) d,fun b x _ K=>match x with|.inl x=>K (.exit 0) (zL b yVr (((x,()),()),()))|.inr x=>K .ret (zL b yT1 (((x,()),()),()))⟩
def yUs:zU:=⟨[],[(2,qS8)],[],true⟩
theorem agl:md 34 (wd f172 0) qS8:=lp (A:=yUs) qS8 (fun d=>match d with|.inl d=>.inl (wl d)|.inr d=>.inr (wl d)) yJs CB HO e0 zF
theorem yNx:gc (zI 172 [.c (.dat false .i)] (.c .bool) (fun k d=>MH k d.1) (fun x=>(x,())) (fun d=>d.1)):=fA f172 yUs e0 (loops1 agl)
def vI4:zE:=sp [sP 1 0,sI 3] [oB lK]
def vI6 (f:yCo)(d:vI4.den):=f (pi d) (qO d.2.1)
def yCt:zT:=⟨[vI4],[(.exit 0,yZp),(.ret,yT1)],(Unit⊕Bool),fun k d=>vI6 (zg k k) d,fun b x _ K=>match x with|.inl x=>K (.exit 0) (zL b yZp ((),()))|.inr x=>K .ret (zL b yT1 (((x,()),()),()))⟩
def vD3:zU:=⟨[],[(4,yCt)],[],true⟩
theorem agm:md 57 (wd f100 0) yCt:=lp (A:=vD3) yCt (fun d=>match d with|.inl d=>.inl ()|.inr d=>.inr (wl d)) vI6 zg HP (e4 yOj yNx S8 Ti) zF
theorem ySt:gc (zI 100 [.agg nx] (.c .bool) (fun k d=>MI k (qO d)) (fun x=>(x,())) (fun d=>d.1)):=fA f100 vD3 (e4 yOj yNx S8 Ti) (loops1 agm)
theorem yVm:gc (zI 175 [.agg [.i,.i],.c .i] (.agg [.i,.i]) (fun k d=>Rr k d.1 d.2.1 (Mj d)) (fun x=>(x.1,x.2,())) (fun d=>(d.1,d.2.1))):=fA f175 Pa e0 zF
def vD0:zE:=sp [(0,.c (.dat false .i)),sP 4 0,sI 5] [oB [.i,.i]]
def yNs:zE:=sp [sP 4 0] [oB [.i,.i]]
def yWt (f:yBl)(d:vD0.den):=f (wl d) (Rd d) (ms d) (qr d)
def qUk:zT:=⟨[vD0],[(.exit 0,yNs)],vX,fun k d=>yWt (MF k k) d,fun b x _ K=>K (.exit 0) (zL b yNs (((),()),((x.1,x.2,()),())))⟩
def vGw:zU:=⟨[],[(3,qUk)],[],false⟩
theorem ago:md 32 (wd f101 0) qUk:=lp (A:=vGw) qUk (fun d=>(ms d,qr d)) yWt MF HM (e1 yVm) zF
theorem yPn:gc (zI 101 [.c (.dat false .i)] (.tup [(false,yF),(false,[.bool])]) (fun k d=>ME k d.1) (fun x=>(x.1,x.2,())) (fun d=>(d.1,d.2.1))):=fA f101 vGw (e1 yVm) (loops1 ago)
def yGt:zE:=⟨[sP 2 0,sP 3 1,sO 5 2,sI 6],[oB iH,oB lK,oA .i],[(5,none,.i,false)]⟩
def vHk (f:qMa)(d:yGt.den):=f (Fd d) (qZ d.2.1) (qO (Mj d)) (li d)
def qVc:zT:=⟨[yGt],[(.exit 0,ySl)],yAr,fun k d=>vHk (CE k k) d,fun b x _ K=>K (.exit 0) (zL b ySl (((),(),(),()),((vK x.1 ()),(vP x.2.1 ()),x.2.2,())))⟩
def yMg:zU:=⟨[],[(5,qVc)],[],true⟩
theorem vSg:md 102 (wd f40 0) qVc:=lp (A:=yMg) qVc (fun d=>((qZ d.2.1),(qO (Mj d)),li d)) vHk CE HV (e4 NN yP8 ySt yPn) zF
theorem yQd:gc (zI 40 [.agg ig,.agg nx] (.c .bool) (fun k d=>HU k (qZ d) (gM d)) (fun x=>(x,())) (fun d=>d.1)):=fA f40 yMg (e4 NN yP8 ySt yPn) (loops1 vSg)
def vDt:zE:=⟨[sP 1 0,sI 2,sP 3 3,(12,.c .bool),sP 13 4,(15,.c (.dat true (.sl (.int .u8)))),sP 17 5,sI 19],[oB vHl,oA (.int .u8),oA (.int .u8),oB I3,oB SR,oB iI],[(17,some 1,.bool,true),(17,some 2,.bool,true),(17,some 3,.bool,true),(17,some 4,.bool,true),(17,some 5,.bool,true),(17,some 6,.bool,true),(17,some 7,.bool,true),(17,some 8,.bool,true)]⟩
def yU3:zE:=sp [sP 1 0,sI 2,sP 3 3,(12,.c .bool),sP 13 4,sP 17 5] [oB vHl,oA (.int .u8),oA (.int .u8),oB I3,oB SR,oB iI]
def yIq (f:yAd)(d:vDt.den):=f (pi d) (Fd d) (ci d) (ap d) (kp d.2.1) (Mj d) (li d) (qZ (ii d)) (jM (ge d)) (qO (If d))
def qPb:zT:=⟨[vDt],[(.exit 0,yU3)],qPn,fun k d=>yIq (tt k k) d,fun b x _ K=>K (.exit 0) (zL b yU3 (((),(x.1,()),(),(x.2.1,()),(),(),()),((Db (Mj x) ()),li x,ii x,(vK (ge x) ()),(jI (If x) ()),(vP x.2.2.2.2.2.2.2 ()),())))⟩
def vFi:zU:=⟨[],[(11,qPb)],[],true⟩
theorem agq:zS prog 1000 2 108 (wd f12 0) qPb:=lp (A:=vFi) qPb (fun d=>(pi d,Fd d,(kp d.2.1),Mj d,li d,(qZ (ii d)),(jM (ge d)),(qO (If d)))) yIq tt IJ (Sb yX6 qMe vGj C8 yR7 yXa yZo qLz R9 yQd) zF
def qWc:=BG 12 [.agg NG,.ptr true rj,.c (.p .i)] (.tup [(false,[.link 1]),(false,yF)]) [nv,[.i,.fro wQ,.i,.i,.i,.link 2,.i,.fro qQ,.fro (.sl .i),.fro .i,.fro (.sl .i),.fro .i,.fro (.sl .i),.fro zG,.fro .i,.i,.bool,.i,.bool],Sl] 2 (.tup [(false,[.nilp]),(false,yF)]) [nv] 0 (fun k d=>Nl k (qZ d) (C6 d) (lm d)) (fun x=>((),x.1,(wY x.2.1 (gg (Mj x) ((),(yAo (Mj x) ((),(jI x.2.2.2 ())))))))) (fun x=>((),x.1,(wY x.2 ()))) (fun d=>(d.2.1,(SS d),(qSm d (vZn d)),(vI8 d))) (fun d=>(d.2.1,(SS d)))
theorem abK:gc qWc:=fN f12 vFi 2 (Sb yX6 qMe vGj C8 yR7 yXa yZo qLz R9 yQd) (loops1 agq)
def qQ8:=BG 13 [.agg vM] (.c (.nil)) [] 0 (.c (.own (.int .u8))) [] 0 (fun k d=>tn k (vO d)) (fun x=>((),())) (fun x=>(x,())) (fun d=>()) (fun d=>d.1)
theorem qR6:gc qQ8:=fN f13 ⟨[1],[],[],true⟩ 0 (e3 vCx NK R8) zF
theorem yZe:gc (yB 47 [.chn [R5,IM,nu]] (.c .bool) [R6,IN,lf] 0 (fun k d=>rf k (ko d) (IP d) (IQ d)) (fun x=>(x.1,(),(jR x.2.1 ((),(jI (Mj x) (wY x.2.2.2 ())))))) (fun d=>(d.1,(qMt d),(Nn d),(No d)))):=fX f47 n0 0 e0 zF
theorem yX9:gc (zI 49 [.c .i,.c .i] (.c (.own yE)) (fun k d=>NS k d.1 d.2.1) (fun x=>(x,())) (fun d=>d.1)):=fA f49 n0 e0 zF
theorem vYb:gc (zI 111 [.agg vM] (.c (.own (.int .u8))) (fun k d=>qSp k (vO d)) (fun x=>(x,())) (fun d=>d.1)):=fA f111 ⟨[1],[],[],true⟩ (e3 yGw Sq Si) zF
theorem abx:gc (zI 51 [.agg C7] (.c (.own (.int .u8))) (fun k d=>RW k (kp d)) (fun x=>(x,())) (fun d=>d.1)):=fA f51 n0 (e2 vYb Si) zF
theorem abv:gc (yB 110 [.chn [Np,nu],.c (.p (.dat false (.int .u8)))] (.c .i) [Nq,lf] 0 (fun k d=>yq k (zz d) (C6 d) (lm d)) (fun x=>(x.1,(),(jI x.2.1 (wY x.2.2 ())))) (fun d=>(d.1,(Nr d),(Ns d)))):=fX f110 n0 0 (e3 vAt F6q F7q) zF
end
end Go.Ab.Gi
