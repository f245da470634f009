/- part 101 -/
import Derived.Test.YtmbkgcillafidaaGreatGiXS
import Derived.Test.YtmbkgcillafidaaGreatGiAbE
import Derived.Test.YtmbkgcillafidaaGreatProg
set_option linter.unusedVariables false
set_option maxRecDepth 100000
set_option maxHeartbeats 4000000
namespace Go.Ab.Gi
open Go.RowKit Go.Lib Go.Proofs Go.Proofs.Tryz
noncomputable section
abbrev jP (f l)(r:Go.Ab.RC)(s):=zH f l (.c r) s (fun x=>(x,())) (fun d=>d.1)
abbrev mD {A B C:Type}(f:Nat→A→C)(k:Nat)(d:A×B):=f k d.1
abbrev wG {A B C E F:Type}(f:Nat→A→B→C→E)(k:Nat)(d:A×B×C×F):=f k d.1 d.2.1 d.2.2.1
abbrev MC (f l)(p q:Go.Ab.RC)(s):=zH f l (.tup [(false,[p]),(false,[q])]) s (fun x=>(x.1,x.2,())) (fun d=>(d.1,d.2.1))
abbrev P9 {A B C E:Type}(f:Nat→A→B→C)(k:Nat)(d:A×B×E):=f k d.1 d.2.1
abbrev aea (n:Nat)(v o:zE)(X:Type){Y:Type}(c:Y→v.den→Option X)(f:Nat→Nat→Y)(g:X→o.den):zU:=⟨[v],[(.exit n,o)],X,fun k d=>c (f k k) d,fun b x _ K=>K (.exit n) (zM b o (g x))⟩
abbrev aga (n:Nat)(s:zU):zV:=⟨[],[(n,s)],[],true⟩
abbrev aha (n:Nat)(v o p:zE)(X Z:Type){Y:Type}(c:Y→v.den→Option (X⊕Z))(f:Nat→Nat→Y)(g:X→o.den)(h:Z→p.den):zU:=⟨[v],[(.exit n,o),(.ret,p)],(X⊕Z),fun k d=>c (f k k) d,fun b x _ K=>match x with|.inl x=>K (.exit n) (zM b o (g x))|.inr x=>K .ret (zM b p (h x))⟩
abbrev aia (n:Nat)(s:zU):zV:=⟨[],[(n,s)],[],false⟩
def wd {A B C D E F G:Type}(d:(F×E×D×(A×B)×C)×G):=d.1.2.2.2.1.1
def Fd {A B C D E F G H I J K L M N O P Q R S T:Type}(d:T×S×R×Q×P×O×N×M×L×K×J×I×H×G×F×E×D×C×A×B):=d.2.2.2.2.2.2.2.2.2.2.2.2.2.2.2.2.2.2.1
def Id {A B C D E F:Type}(d:(E×D×(A×B)×C)×F):=d.1.2.2.1.1
def Rd {A B C D E F G H I J K L M N O P Q R S T U:Type}(d:U×T×S×R×Q×P×O×N×M×L×K×J×I×H×G×F×E×D×C×A×B):=d.2.2.2.2.2.2.2.2.2.2.2.2.2.2.2.2.2.2.2.1
def be {A B C D E F G:Type}(d:G×F×E×D×C×A×B):=d.2.2.2.2.2.1
def ce {A B C D E F G H:Type}(d:H×G×F×E×D×C×A×B):=d.2.2.2.2.2.2.1
def ge {A B C D E F G H:Type}(d:(G×F×E×D×(A×B)×C)×H):=d.1.2.2.2.2.1.1
def If {A B C D E F G H I:Type}(d:I×H×G×F×E×D×C×A×B):=d.2.2.2.2.2.2.2.1
def rg {A B C D E F:Type}(d:F×E×D×C×A×B):=d.2.2.2.2.1
def Ng {A B C D E:Type}(d:E×D×C×A×B):=d.2.2.2.1
def Nh {A B C D E F G H I:Type}(d:(H×G×F×E×D×(A×B)×C)×I):=d.1.2.2.2.2.2.1.1
def ci {A B C D E F G H I J K L:Type}(d:L×K×J×I×H×G×F×E×D×C×A×B):=d.2.2.2.2.2.2.2.2.2.2.1
def ii {A B C D E F G H I J:Type}(d:J×I×H×G×F×E×D×C×A×B):=d.2.2.2.2.2.2.2.2.1
def li {A B C D:Type}(d:D×C×A×B):=d.2.2.1
def pi {A B C D E:Type}(d:(D×(A×B)×C)×E):=d.1.2.1.1
def Pi {A B C D E F G H I J K L M:Type}(d:M×L×K×J×I×H×G×F×E×D×C×A×B):=d.2.2.2.2.2.2.2.2.2.2.2.1
def kj {A B C D:Type}(d:((A×B)×C)×D):=d.1.1.1
def dl {A B C D E F G H I J K:Type}(d:(J×I×H×G×F×E×D×(A×B)×C)×K):=d.1.2.2.2.2.2.2.2.1.1
def ul {A B C D E F G H I J:Type}(d:(I×H×G×F×E×D×(A×B)×C)×J):=d.1.2.2.2.2.2.2.1.1
def wl {A B C D E F G H I J K:Type}(d:K×J×I×H×G×F×E×D×C×A×B):=d.2.2.2.2.2.2.2.2.2.1
def lm {A B C D E F G H I J K L M N O P Q:Type}(d:Q×P×O×N×M×L×K×J×I×H×G×F×E×D×C×A×B):=d.2.2.2.2.2.2.2.2.2.2.2.2.2.2.2.1
def pm {A B C D E F:Type}(d:F×E×(C×A×B)×D):=d.2.2.1.2.1
def un {A B C D E F G:Type}(d:G×F×E×(C×A×B)×D):=d.2.2.2.1.2.1
def Fn {A B C D E F G H I J K L M N:Type}(d:N×M×L×K×J×I×H×G×F×E×D×C×A×B):=d.2.2.2.2.2.2.2.2.2.2.2.2.1
def In {A B C D E:Type}(d:E×D×(A×B)×C):=d.2.2.1.1
def co {A B C D E F G H:Type}(d:H×G×F×(D×C×A×B)×E):=d.2.2.2.1.2.2.1
def Do {A B C D E F G:Type}(d:G×F×(D×C×A×B)×E):=d.2.2.1.2.2.1
def ap {A B C D E F:Type}(d:F×E×D×(A×B)×C):=d.2.2.2.1.1
def ip {A B C D E:Type}(d:E×(C×A×B)×D):=d.2.1.2.1
def jp {A B C D E F G H:Type}(d:H×G×F×E×(C×A×B)×D):=d.2.2.2.2.1.2.1
def pp {A B C D E F:Type}(d:F×E×D×C×B×A):=d.2.2.2.2.2
def qr {A B C D E F:Type}(d:F×(D×C×A×B)×E):=d.2.1.2.2.1
def wr {A B C D:Type}(d:D×(A×B)×C):=d.2.1.1
abbrev ja:zV:=⟨[],[],[],false⟩
abbrev Pa:=zC prog
abbrev gc (l):=jH ⟨prog,fun _=>false,eP l⟩
abbrev lc:=zT prog 1000 0
abbrev md (f i):=zR (zS f) i
theorem gh:prog.follows .mixedOrders=true:=by kernel_rfl
abbrev n0:zV:=⟨[],[],[],true⟩
theorem e0:gc []:=oh (l:=[]) gh trivial
theorem e1 {a0}(h0:Pa a0):gc [a0]:=oh (l:=[a0]) gh ⟨h0,trivial⟩
theorem e2 {a0 a1}(h0:Pa a0)(h1:Pa a1):gc [a0,a1]:=oh (l:=[a0,a1]) gh ⟨h0,h1,trivial⟩
theorem e3 {a0 a1 a2}(h0:Pa a0)(h1:Pa a1)(h2:Pa a2):gc [a0,a1,a2]:=oh (l:=[a0,a1,a2]) gh ⟨h0,h1,h2,trivial⟩
theorem e4 {a0 a1 a2 a3}(h0:Pa a0)(h1:Pa a1)(h2:Pa a2)(h3:Pa a3):gc [a0,a1,a2,a3]:=oh (l:=[a0,a1,a2,a3]) gh ⟨h0,h1,h2,h3,trivial⟩
theorem e5 {a0 a1 a2 a3 a4}(h0:Pa a0)(h1:Pa a1)(h2:Pa a2)(h3:Pa a3)(h4:Pa a4):gc [a0,a1,a2,a3,a4]:=oh (l:=[a0,a1,a2,a3,a4]) gh ⟨h0,h1,h2,h3,h4,trivial⟩
theorem e6 {a0 a1 a2 a3 a4 a5}(h0:Pa a0)(h1:Pa a1)(h2:Pa a2)(h3:Pa a3)(h4:Pa a4)(h5:Pa a5):gc [a0,a1,a2,a3,a4,a5]:=oh (l:=[a0,a1,a2,a3,a4,a5]) gh ⟨h0,h1,h2,h3,h4,h5,trivial⟩
theorem e7 {a0 a1 a2 a3 a4 a5 a6}(h0:Pa a0)(h1:Pa a1)(h2:Pa a2)(h3:Pa a3)(h4:Pa a4)(h5:Pa a5)(h6:Pa a6):gc [a0,a1,a2,a3,a4,a5,a6]:=oh (l:=[a0,a1,a2,a3,a4,a5,a6]) gh ⟨h0,h1,h2,h3,h4,h5,h6,trivial⟩
theorem e8 {a0 a1 a2 a3 a4 a5 a6 a7}(h0:Pa a0)(h1:Pa a1)(h2:Pa a2)(h3:Pa a3)(h4:Pa a4)(h5:Pa a5)(h6:Pa a6)(h7:Pa a7):gc [a0,a1,a2,a3,a4,a5,a6,a7]:=oh (l:=[a0,a1,a2,a3,a4,a5,a6,a7]) gh ⟨h0,h1,h2,h3,h4,h5,h6,h7,trivial⟩
theorem e9 {a0 a1 a2 a3 a4 a5 a6 a7 a8}(h0:Pa a0)(h1:Pa a1)(h2:Pa a2)(h3:Pa a3)(h4:Pa a4)(h5:Pa a5)(h6:Pa a6)(h7:Pa a7)(h8:Pa a8):gc [a0,a1,a2,a3,a4,a5,a6,a7,a8]:=oh (l:=[a0,a1,a2,a3,a4,a5,a6,a7,a8]) gh ⟨h0,h1,h2,h3,h4,h5,h6,h7,h8,trivial⟩
theorem I6 {a0 a1 a2 a3 a4 a5 a6 a7 a8 a9}(h0:Pa a0)(h1:Pa a1)(h2:Pa a2)(h3:Pa a3)(h4:Pa a4)(h5:Pa a5)(h6:Pa a6)(h7:Pa a7)(h8:Pa a8)(h9:Pa a9):gc [a0,a1,a2,a3,a4,a5,a6,a7,a8,a9]:=oh (l:=[a0,a1,a2,a3,a4,a5,a6,a7,a8,a9]) gh ⟨h0,h1,h2,h3,h4,h5,h6,h7,h8,h9,trivial⟩
theorem e13 {a0 a1 a2 a3 a4 a5 a6 a7 a8 a9 KH KI a12}(h0:Pa a0)(h1:Pa a1)(h2:Pa a2)(h3:Pa a3)(h4:Pa a4)(h5:Pa a5)(h6:Pa a6)(h7:Pa a7)(h8:Pa a8)(h9:Pa a9)(Zh:Pa KH)(Zi:Pa KI)(Lc:Pa a12):gc [a0,a1,a2,a3,a4,a5,a6,a7,a8,a9,KH,KI,a12]:=oh (l:=[a0,a1,a2,a3,a4,a5,a6,a7,a8,a9,KH,KI,a12]) gh ⟨h0,h1,h2,h3,h4,h5,h6,h7,h8,h9,Zh,Zi,Lc,trivial⟩
def yQq:zE:=sp [(0,.c (.dat false tF)),sI 3,sI 4] []
def vFe:zE:=sp [(0,.c (.dat false tF)),sI 3] []
def vAm (f:qUb)(d:yQq.den):=f (kj d) (pi d) (Id d)
def yFv:=aea 0 yQq vFe yF1 vAm I1 fun x=>(((x.1,()),(x.2,()),()),())
def A0q:=aga 3 yFv
theorem vPx:lc 30 (md f4 0) yFv:=lp (A:=A0q) yFv (fun d=>(kj d,pi d)) vAm I1 I2 e0 zF
def R0q:=(jP 4 [.c (.dat false tF)] .bool (mD SI))
theorem F0q:Pa R0q:=fA f4 A0q e0 (loops1 vPx)
def R1q:=(zH 5 [.c .i] (.agg [.i,.own wK,.i,.i,.i]) (mD Dq) (fun x=>(vI x ())) (fun d=>(yC d)))
theorem F1q:Pa R1q:=fA f5 n0 e0 zF
theorem F2q:Pa (uG 12 [.c (.p .i)] (.c (.link 0)) [jh] 1 (.c (.nilp)) [] 0 (mD qZb) (fun x=>((),(wL x ()))) (fun x=>((),())) (fun d=>(pJ d)) (fun d=>())):=fN f12 n0 0 e0 zF
theorem F3q:Pa (jP 67 [.c .i,.c .i,.c .i] .bool (wG tG)):=fA f67 n0 e0 zF
theorem F4q:Pa (jP 66 [.agg [.i,.i]] .bool (fun k d=>vKf k (d.1,d.2.1))):=fA f66 n0 (e1 F3q) zF
def yY1:zE:=sp [(0,.c (.dat false wK)),(1,.c (.lit (.fn 66 []))),sI 7,sI 8] []
def yNc:zE:=sp [] []
def yJg:zE:=sp [sI 4] []
def vBn (f:qYt)(d:yY1.den):=f (kj d) (Id d) (wd d)
def yBu:=aha 0 yY1 yNc yJg Unit Int vBn qSg (fun x=>((),())) fun x=>(((x,()),()),())
def A5q:=aga 2 yBu
theorem vOr:lc 19 (md f118 0) yBu:=lp (A:=A5q) yBu (fun d=>match d with|.inl d=>.inl ()|.inr d=>.inr (kj d)) vBn qSg vFi (e1 F4q) zF
theorem F5q:Pa (jP 118 [.c (.dat false wK),.c (.fn 66)] .i (mD yTd)):=fA f118 A5q (e1 F4q) (loops1 vOr)
theorem F6q:Pa (jP 68 [.c (.dat false wK),.c (.fn 66)] .bool (mD vCb)):=fA f68 n0 (e1 F5q) zF
theorem S1:Pa (jP 33 [.agg ie] .bool (fun k d=>IT k (yC d))):=fA f33 n0 (e2 F3q F6q) zF
theorem F8q:Pa (jP 200 [.c .i] .bool (mD S2)):=fA f200 n0 e0 zF
theorem F9q:Pa (xO 201 false (.int .u8) (.own (.int .u8)) De):=fC f201 n0 e0 zF
theorem vUq:Pa (jP 120 [.ptr N4,.c .i] (.own (.int .u8)) (fun k d=>qXx k (wB d) (ci d))):=fA f120 n0 (e2 F8q F9q) zF
def yYy:zE:=⟨[(0,.c (.dat false (.int .u8))),sO 2 0],[oA (.sl (.int .u8))],[(2,none,(.sl (.int .u8)),false)]⟩
def yRf:zE:=sp [(0,.c (.dat false (.int .u8))),sO 2 0] [oA (.sl (.int .u8))]
def yTr (f:qM0)(d:yYy.den):=f (kj d) d.2.1
def qN3:=aea 0 yYy yRf qUj yTr Nw fun x=>(((x.1,()),(),()),(x.2,()))
def yLa:=aga 1 qN3
theorem vP1:lc 43 (md f119 0) qN3:=lp (A:=yLa) qN3 (fun d=>(kj d,d.2.1)) yTr Nw Sv e0 zF
theorem yXk:Pa (MC 119 [.c (.dat false (.int .u8))] (.own (.sl (.int .u8))) .i (mD Sy)):=fA f119 yLa e0 (loops1 vP1)
def vG3:zE:=sp [(0,.c (.dat false (.int .u8))),sO 4 0,(5,.c (.int .u64)),(16,.c (.dat false (.int .u8))),sI 17,sI 18] [oA .i]
def yOo:zE:=sp [(0,.c (.dat false (.int .u8))),sO 4 0,(5,.c (.int .u64))] [oA .i]
def yLu (f:yFp)(d:vG3.den):=f (kj d) (Id d) (wd d) (ge d) (Nh d) d.2.1
def yGu:=aea 2 vG3 yOo yBh yLu EX fun x=>(((x.1,()),(),(x.2.1,()),()),(x.2.2,()))
def yU1:zE:=⟨[(0,.c (.dat false (.int .u8))),sO 4 0],[oA .i],[(4,none,.i,false)]⟩
def yZx:zE:=sp [sO 4 0] [oA .i]
def yKw (f:AC→AC→Option AC)(d:yU1.den):=f (kj d) d.2.1
def qVw:=aea 0 yU1 yZx AC yKw EY fun x=>(((),()),(x,()))
def yBs:zV:=⟨[],[(7,yGu),(4,qVw)],[],true⟩
theorem vP8:lc 36 (zR (md f47 0) 0) yGu:=lp (A:=yBs) yGu (fun d=>(kj d,Id d,d.2.1)) yLu EX P6 e0 zF
theorem vOu:lc 36 (md f47 0) qVw:=lp (A:=yBs) qVw (fun d=>d.2.1) yKw EY EZ e0 (loops1 vP8)
theorem N5:Pa (MC 47 [.c (.dat false (.int .u8))] (.own .i) .i (mD qn)):=fA f47 yBs e0 (loops1 vOu)
theorem adj:Pa (zH 69 [.ptr N4,.c .i] (.tup [(false,yH),(false,[.fro (.int .u8)]),(false,AP)]) (fun k d=>ID k (wB d) (ci d)) (fun x=>(x.1,x.2.1,x.2.2,())) (fun d=>(d.1,d.2.1,li d))):=fA f69 n0 (e3 vUq yXk N5) zF
theorem yE5:Pa (zH 34 [.ptr N4] (.tup [(false,yH),(false,yH),(false,[.fro (.int .u8)]),(false,AP),(false,[.bool])]) (fun k d=>Nz k (wB d)) (fun x=>(vI x ())) (fun d=>(d.1,d.2.1,li d,Ng d,rg d))):=fA f34 ⟨[],[],[(2,3)],true⟩ (e1 adj) (BM (n:=1) (by kernel_rfl) fun i hi=>match i,hi with|0,_=>.inr ⟨by kernel_rfl,zF⟩|i+1,hi=>absurd hi (by omega))
theorem S3:Pa (jP 127 [.c .i] .bool (mD Lv)):=fA f127 ja e0 zF
def vC4:zE:=sp [sI 1,sO 5 0,sI 13,sI 14] [oA .i]
def yOx:zE:=sp [sO 5 0] [oA .i]
def vEe (f:qNi)(d:vC4.den):=f (kj d) (Id d) (wd d) d.2.1
def yC7:=aea 0 vC4 yOx AC vEe Lw fun x=>(((),()),(x,()))
def yZ6:=aia 5 yC7
theorem adk:lc 23 (md f74 0) yC7:=lp (A:=yZ6) yC7 (fun d=>d.2.1) vEe Lw FP (e1 S3) zF
theorem Dx:Pa (jP 74 [.c .i,.c .i] (.own .i) (P9 Cc)):=fA f74 yZ6 (e1 S3) (loops1 adk)
def vKc:zE:=sp [sI 0,sI 1,sO 5 0,sI 13,sI 14] [.mat]
def yXt:zE:=sp [sO 5 0] [.mat]
def vIy (f:qTp)(d:vKc.den):=f (kj d) (pi d) (wd d) (ge d) d.2.1
def yGz:=aea 0 vKc yXt EQ vIy Lx fun x=>(((),()),(x,()))
def vKi:zV:=⟨[11],[(5,yGz)],[],false⟩
theorem vTm:lc 25 (md f73 0) yGz:=lp (A:=vKi) yGz (fun d=>d.2.1) vIy Lx FR (e2 S3 Dx) zF
theorem N6:Pa (jP 73 [.c .i,.c .i] (.mat) (P9 FQ)):=fA f73 vKi (e2 S3 Dx) (loops1 vTm)
def yVh:zE:=⟨[sP 1 0,sP 2 1,sI 3,sP 4 2,(20,.c (.dat false wK)),sI 21,sI 22],[oB iL,oB jT,oB S4,oA qT,.mat,oA .i,.mat,oA .i],[(4,some 5,.i,false)]⟩
def vBm:zE:=sp [sP 1 0,sP 2 1,sI 3,sP 4 2] [oB iL,oB jT,oB S4,oA qT,.mat,oA .i,.mat,oA .i]
def yKg (f:yGt)(d:yVh.den):=f (Id d) (ge d) (Nh d) (ul d) (yC d.2.1) (In d,pm d,Do d) (ap d,un d,co d) (rg d) (be d) (ce d) (If d) (ii d)
def S5:=aea 0 yVh vBm qSz yKg yG1 fun x=>(((),(),(x.1,()),(),()),((vI x.2.1 ()),(In x,pm x,x.2.2.1.2.2,()),(ap x,un x,x.2.2.2.1.2.2,()),rg x,be x,ce x,If x,x.2.2.2.2.2.2.2.2,()))
def vDk:zE:=⟨[sP 1 0,sP 2 1,sP 4 2,sI 34,sI 35],[oB iL,oB jT,oB ySw,oA qT,.mat,oA .i,.mat,oA .i,.mat],[(4,some 6,(.sl .i),true)]⟩
def vKx:zE:=sp [sP 2 0,sP 4 1] [oB jT,oB yV8,oA qT,.mat,oA .i,.mat,oA .i,.mat]
def vF0 (f:qTk)(d:vDk.den):=f (wd d) (ge d) (yC d.2.1) (In d,pm d,Do d) (ap d,un d,co d) (rg d) (be d) (ce d) (If d) (ii d) (wl d)
def S6:=aea 2 vDk vKx qQa vF0 qNx fun x=>(((),(),()),((x.1.1,x.1.2.1,x.1.2.2,()),(wr x,ip x,x.2.1.2.2,()),li x,Ng x,rg x,be x,ce x,x.2.2.2.2.2.2.2,()))
def yBv:zV:=⟨[43,44],[(4,S5),(9,S6)],[],true⟩
theorem adl:lc 48 (md f37 0) S5:=lp (A:=yBv) S5 (fun d=>(Id d,(yC d.2.1),(In d,pm d,Do d),(ap d,un d,co d),rg d,be d,ce d,If d,ii d)) yKg yG1 yUh (e2 N6 Dx) zF
theorem vVq:lc 48 (md f37 1) S6:=lp (A:=yBv) S6 (fun d=>((wr d,ip d,qr d),(In d,pm d,Do d),Ng d,rg d,be d,ce d,If d,ii d)) vF0 qNx vL0 (e2 N6 Dx) zF
theorem S7:Pa (zH 37 [.agg ie] (.agg qZh) (fun k d=>rz k (yC d)) (fun x=>(vD x ())) (fun d=>(qO d))):=fA f37 yBv (e2 N6 Dx) (mq (n:=2) (by kernel_rfl) fun i hi=>match i,hi with|0,_=>⟨S5,by kernel_rfl,adl⟩|1,_=>⟨S6,by kernel_rfl,vVq⟩|i+2,hi=>absurd hi (by omega))
theorem qV7:Pa (jP 71 [.c .bool] .i (mD Qg)):=fA f71 n0 e0 zF
def yVy:zE:=sp [sO 3 0,sI 5,sI 6,(11,.c (.dat false .i)),sI 12,sI 13] [oA (.int .u8)]
def yNg:zE:=sp [sO 3 0,(11,.c (.dat false .i)),sI 12,sI 13] [oA (.int .u8)]
def yS5 (f:qV9)(d:yVy.den):=f (pi d) (Id d) (wd d) (ge d) (Nh d) d.2.1
def qYg:=aea 2 yVy yNg qZy yS5 xV fun x=>(((),(x.1,()),(x.2.1,()),(li x,()),()),(x.2.2.2,()))
def vEd:zE:=sp [sO 3 0] [oA (.int .u8)]
def vHi (f:qOa)(d:yNg.den):=f (pi d) (Id d) (wd d) d.2.1
def qSs:=aea 0 yNg vEd AC vHi B5 fun x=>(((),()),(x,()))
def qQ1:zV:=⟨[],[(6,qYg),(3,qSs)],[],true⟩
theorem ado:lc 31 (zR (md f94 0) 0) qYg:=lp (A:=qQ1) qYg (fun d=>(pi d,Id d,wd d,d.2.1)) yS5 xV Qc e0 zF
theorem adp:lc 31 (md f94 0) qSs:=lp (A:=qQ1) qSs (fun d=>d.2.1) vHi B5 E2 e0 (loops1 ado)
theorem S8:Pa (jP 94 [.c (.dat false .i)] (.own (.int .u8)) (mD xW)):=fA f94 qQ1 e0 (loops1 adp)
theorem vE5:Pa (jP 126 [.c (.dat false .i)] (.own (.int .u8)) (mD Qd)):=fA f126 n0 (e1 S8) zF
def yI7:zE:=⟨[sO 3 0,(6,.c (.dat false (.sl .i))),sI 7,sI 8],[oA (.int .u8)],[(3,none,(.int .u8),false)]⟩
def vJg (f:qNu)(d:yI7.den):=f (pi d) (Id d) (wd d) d.2.1
def qRy:=aea 0 yI7 vEd AC vJg E4 fun x=>(((),()),(x,()))
def yUk:=aga 3 qRy
theorem adr:lc 18 (md f72 0) qRy:=lp (A:=yUk) qRy (fun d=>d.2.1) vJg E4 E5 (e1 vE5) zF
theorem yFs:Pa (jP 72 [.c (.dat false (.sl .i))] (.own (.int .u8)) (mD KW)):=fA f72 yUk (e1 vE5) (loops1 adr)
def yW0:zE:=sp [sP 1 0,sP 3 1,sO 4 2,(39,.c (.dat true qT)),sI 40,sI 41] [oB gO,oB wI,oA (.sl .i)]
def yJu:zE:=sp [sP 1 0,sP 3 1,sO 4 2] [oB gO,oB wI,oA (.sl .i)]
def vDs (f:yEb)(d:yW0.den):=f (wd d) (ge d) (Nh d) (qO d.2.1) (vH (li d)) (Ng d)
def S9:=aea 0 yW0 yJu qY8 vDs B6 fun x=>(((),(),(),()),((vD x.1 ()),(vZ x.2.1 ()),x.2.2,()))
def vLc:zE:=sp [sP 1 0,sO 4 1,(79,.c (.dat true zG)),sI 80,sI 81] [oB gO,oA (.sl .i)]
def vLl:zE:=sp [sP 1 0,sO 4 1] [oB gO,oA (.sl .i)]
def vIi (f:yFk)(d:vLc.den):=f (Id d) (wd d) (ge d) (qO d.2.1) (li d)
def Ta:=aea 2 vLc vLl qUo vIi B7 fun x=>(((),(),()),((vD x.1 ()),x.2,()))
def qNf:zV:=⟨[],[(4,S9),(14,Ta)],[],true⟩
theorem vXr:lc 110 (md f36 0) S9:=lp (A:=qNf) S9 (fun d=>((qO d.2.1),(vH (li d)),Ng d)) vDs B6 E6 (e2 qV7 yFs) zF
theorem vWx:lc 110 (md f36 1) Ta:=lp (A:=qNf) Ta (fun d=>((qO d.2.1),li d)) vIi B7 E7 (e2 qV7 yFs) zF
theorem wo:Pa (jP 36 [.agg AI] (.own (.int .u8)) (fun k d=>kl k (qO d))):=fA f36 qNf (e2 qV7 yFs) (mq (n:=2) (by kernel_rfl) fun i hi=>match i,hi with|0,_=>⟨S9,by kernel_rfl,vXr⟩|1,_=>⟨Ta,by kernel_rfl,vWx⟩|i+2,hi=>absurd hi (by omega))
theorem vE7:Pa (MC 121 [.c (.dat false (.int .u8))] (.own (.int .u8)) .bool (mD KT)):=fA f121 n0 e0 zF
theorem adu:Pa (jP 122 [.ptr N4] .i (fun k d=>RE k (wB d))):=fA f122 n0 e0 zF
theorem qTx:Pa (jP 202 [.ptr N4] .bool (fun k d=>rC k (wB d))):=fA f202 n0 e0 zF
theorem qRv:Pa (yF 203 [.ptr true lR] (.c .bool) [jh] 0 (fun k d=>fJ k (wB d)) (fun x=>(x.1,(wL x.2 ()))) (fun d=>(d.1,(pJ d)))):=fX f203 ⟨[],[],[(6,3)],true⟩ 1 e0 (BM (n:=1) (by kernel_rfl) fun i hi=>match i,hi with|0,_=>.inr ⟨by kernel_rfl,zF⟩|i+1,hi=>absurd hi (by omega))
theorem adv:Pa (yF 123 [.ptr true lR,.c (.p .i)] (.c .i) [jh] 0 (fun k d=>Hm k (wB d) (ci d)) (fun x=>(x.1,(wL x.2 ()))) (fun d=>(d.1,(pJ d)))):=fX f123 n0 1 (e3 qTx F8q qRv) zF
theorem vEr:Pa (yF 124 [.ptr true lR,.c (.p .i),.c (.p (.dat false (.int .u8)))] (.c .i) [jh] 0 (fun k d=>vk k (wB d) (ci d) (Pi d)) (fun x=>(x.1,(wL x.2 ()))) (fun d=>(d.1,(pJ d)))):=fX f124 n0 1 (e3 qTx F8q qRv) zF
theorem yHo:Pa (yF 125 [.ptr true lR] (.c .i) [jh] 0 (fun k d=>tp k (wB d)) (fun x=>(x.1,(wL x.2 ()))) (fun d=>(d.1,(pJ d)))):=fX f125 ⟨[],[],[(4,3)],true⟩ 1 (e2 qTx qRv) (BM (n:=1) (by kernel_rfl) fun i hi=>match i,hi with|0,_=>.inr ⟨by kernel_rfl,zF⟩|i+1,hi=>absurd hi (by omega))
theorem yYm:Pa (yF 70 [.ptr true lR,.c (.p .i),.c (.p .i),.c (.p (.dat false (.int .u8)))] (.c .i) [jh] 0 (fun k d=>za k (wB d) (ci d) (Pi d) (Fn d)) (fun x=>(x.1,(wL x.2 ()))) (fun d=>(d.1,(pJ d)))):=fX f70 n0 1 (e6 S8 vE7 adu adv vEr yHo) zF
theorem yK9:Pa (uG 35 [.ptr true lR,.c (.p (.dat false (.int .u8)))] (.tup [(false,[.link 1]),(false,[.fro (.int .u8)]),(false,AP),(false,yH)]) [jh,SS] 1 (.tup [(false,[.nilp]),(false,[.own (.int .u8)]),(false,[.own (.sl (.int .u8))]),(false,yH)]) [jh] 0 (fun k d=>qW9 k (wB d) (ci d)) (fun x=>((),x.1,x.2.1,li x,(wL (Ng x) ((),(vZ x.2.2.2.2 ()))))) (fun x=>((),x.1,x.2.1,li x,(wL x.2.2.2 ()))) (fun d=>(d.2.1,li d,Ng d,(Tb d),(yP0 d))) (fun d=>(d.2.1,li d,Ng d,(Tb d)))):=fN f35 n0 1 (e2 yE5 yYm) zF
theorem vN7:Pa (zH 128 [.c (.dat true (.int .u8))] (.tup [(false,[.own .i]),(false,[.fro (.int .u8)]),(false,[.bool])]) (mD Sq) (fun x=>(x.1,x.2.1,x.2.2,())) (fun d=>(d.1,d.2.1,li d))):=fA f128 n0 (e1 N5) zF
theorem Jc:Pa (yF 77 [.ptr true Jb] (.c (.own .i)) [[.fro (.int .u8),.bool]] 0 (fun k d=>Ay k (d.1,d.2.1)) (fun x=>(x.1,x.2.1,x.2.2,())) (fun d=>(d.1,(d.2.1,li d)))):=fX f77 n0 1 (e1 vN7) zF
theorem qSo:Pa (yF 75 [.ptr true Jb,.c (.p .i)] (.c (.own .i)) [[.fro (.int .u8),.bool]] 0 (fun k d=>wc k (d.1,d.2.1) (li d)) (fun x=>(x.1,x.2.1,x.2.2,())) (fun d=>(d.1,(d.2.1,li d)))):=fX f75 n0 1 (e1 Jc) zF
def yQv:zE:=⟨[sP 0 0,sI 1,sO 5 1],[oB pK,oA (.sl .i)],[(5,none,(.sl .i),false)]⟩
def vKo:zE:=sp [sP 0 0,sO 5 1] [oB pK,oA (.sl .i)]
def vG1 (f:yD5)(d:yQv.den):=f (pi d) (wr d,ip d) (li d)
def qNs:=aea 0 yQv vKo yAw vG1 IG fun x=>(((),(),()),((x.1.1,x.1.2,()),x.2,()))
def vA9:=aga 2 qNs
theorem vP9:zT prog 1000 1 23 (md f76 0) qNs:=lp (A:=vA9) qNs (fun d=>((wr d,ip d),li d)) vG1 IG IH (e1 Jc) zF
theorem yAl:Pa (yF 76 [.ptr true Jb,.c (.p .i)] (.c (.own (.sl .i))) [[.fro (.int .u8),.bool]] 0 (fun k d=>IE k (d.1,d.2.1) (li d)) (fun x=>(x.1,x.2.1,x.2.2,())) (fun d=>(d.1,(d.2.1,li d)))):=fX f76 vA9 1 (e1 Jc) (loops1 vP9)
theorem qVt:Pa (jP 78 [.c (.dat false (.int .u8)),.c (.dat false (.int .u8))] .bool (P9 yX8)):=fA f78 n0 e0 zF
def vKa:zE:=⟨[(0,.c (.dat true (.int .u8))),sP 2 0,sP 4 1,sO 5 2,sP 6 3,sI 7],[oB jT,oB pK,oA .i,oB Tc,oA qT],[(6,some 1,qT,false)]⟩
def vA3:zE:=sp [(0,.c (.dat true (.int .u8))),sP 2 0,sP 4 1,sO 5 2,sP 6 3] [oB jT,oB pK,oA .i,oB Tc,oA qT]
def vHh (f:yGf)(d:vKa.den):=f (kj d) (Nh d) (wr d,ip d,qr d) (In d,pm d) (Ng d) (d.2.2.2.2.1.1,jp d,d.2.2.2.2.1.2.2.1) (be d)
def Td:=aea 0 vKa vA3 yAg vHh Df fun x=>(((x.1,()),(),(),(),(),()),((wr x,ip x,x.2.1.2.2,()),(In x,x.2.2.1.2,()),Ng x,(x.2.2.2.2.1.1,jp x,x.2.2.2.2.1.2.2,()),pp x,()))
def yZl:zE:=⟨[(0,.c (.dat true (.int .u8))),sP 2 0,sP 4 1,sP 6 2,sI 9],[oB jT,oB pK,oB qVl,oA qT,oA (.sl .i),oA .i,oA (.sl .i),oA .i,oA (.sl .i),oA zG],[(6,some 7,zG,false)]⟩
def yO8:zE:=sp [(0,.c (.dat true (.int .u8))),sP 2 0,sP 4 1,sP 6 2] [oB jT,oB pK,oB qVl,oA qT,oA (.sl .i),oA .i,oA (.sl .i),oA .i,oA (.sl .i),oA zG]
def vM0 (f:qRu)(d:yZl.den):=f (kj d) (ge d) (wr d,ip d,qr d) (In d,pm d) (ap d,un d,co d) (rg d) (be d) (ce d) (If d) (ii d) (wl d) (ci d)
def Te:=aea 2 yZl yO8 yDc vM0 Dh fun x=>(((x.1,()),(),(),(),()),((wr x,ip x,x.2.1.2.2,()),(In x,x.2.2.1.2,()),(ap x,un x,x.2.2.2.1.2.2,()),rg x,be x,ce x,If x,ii x,wl x,x.2.2.2.2.2.2.2.2.2.2,()))
def yBk:zV:=⟨[],[(5,Td),(15,Te)],[],true⟩
theorem vN8:lc 146 (md f38 0) Td:=lp (A:=yBk) Td (fun d=>(kj d,(wr d,ip d,qr d),(In d,pm d),Ng d,(d.2.2.2.2.1.1,jp d,d.2.2.2.2.1.2.2.1),be d)) vHh Df IK (e5 qSo yAl Jc wo qVt) zF
theorem adA:lc 146 (md f38 1) Te:=lp (A:=yBk) Te (fun d=>(kj d,(wr d,ip d,qr d),(In d,pm d),(ap d,un d,co d),rg d,be d,ce d,If d,ii d,wl d,ci d)) vM0 Dh IM (e5 qSo yAl Jc wo qVt) zF
theorem Tf:Pa (zH 38 [.c (.dat true (.int .u8))] (.tup [(true,AK),(false,[.bool])]) (mD Dm) (fun x=>(vD x.1 (x.2,()))) (fun d=>((qO d),Pi d))):=fA f38 yBk (e5 qSo yAl Jc wo qVt) (mq (n:=2) (by kernel_rfl) fun i hi=>match i,hi with|0,_=>⟨Td,by kernel_rfl,vN8⟩|1,_=>⟨Te,by kernel_rfl,adA⟩|i+2,hi=>absurd hi (by omega))
theorem Tg:Pa (jP 48 [.c .i] .i (mD uJ)):=fA f48 n0 e0 zF
theorem N7:Pa (zH 15 [.c (.dat false (.int .u8))] (.tup [(true,pL),(false,yH)]) (mD qo) (fun x=>(gi x.1 (x.2,()))) (fun d=>((vV d),If d))):=fA f15 n0 (e2 N5 Tg) zF
theorem Th:Pa (zH 40 [.c (.dat false (.int .u8))] (.tup [(true,qR3),(false,yH)]) (mD ND) (fun x=>(wm x.1 (x.2,()))) (fun d=>((ig d),ii d))):=fA f40 n0 (e2 N5 N7) zF
theorem adG:Pa (jP 148 [.c .i] .bool (mD RA)):=fA f148 n0 e0 zF
theorem adH:Pa (jP 149 [.c .i] .bool (mD Mz)):=fA f149 n0 e0 zF
def yLl:zE:=sp [(13,.c (.dat true .i)),sI 14,sI 15] []
def yLj:zE:=sp [(2,.c .bool)] []
def vCc (f:yCz)(d:yLl.den):=f (kj d) (pi d) (Id d)
def qSf:=aha 0 yLl yNc yLj Unit Bool vCc mH (fun x=>((),())) fun x=>(((x,()),()),())
def vA5:=aga 5 qSf
theorem adI:lc 22 (md f150 0) qSf:=lp (A:=vA5) qSf (fun d=>match d with|.inl d=>.inl ()|.inr d=>.inr (kj d)) vCc mH lM (e1 Tg) zF
theorem vI3:Pa (jP 150 [.agg vN] .bool (fun k d=>lN k (vV d))):=fA f150 vA5 (e1 Tg) (loops1 adI)
theorem adL:Pa (jP 85 [.agg ie,.agg nI,.agg AJ] .i (fun k d=>yy k (yC d) (iJ d) (yG7 d))):=fA f85 n0 (e3 adG adH vI3) zF
theorem vK6:Pa (jP 212 [.agg vN,.ptr [.i]] .bool (fun k d=>(mL (qW0 k) d))):=fA f212 ja e0 zF
def ySk:zE:=⟨[(1,.c (.lit (.fn 212 [1001000]))),sO 5 1,(8,.c (.dat false zG)),sI 9,sI 10],[.robox [.i],oA zG],[(5,none,zG,false)]⟩
def yZa:zE:=sp [sO 5 0] [oA zG]
def yR8 (f:yGa)(d:ySk.den):=f (Id d) (wd d) (ge d) (wr d) (li d)
def qSq:=aea 0 ySk yZa qVz yR8 Mm fun x=>(((),()),(x,()))
def vG4:=aia 3 qSq
theorem vVy:lc 23 (md f211 0) qSq:=lp (A:=vG4) qSq (fun d=>d.2.1) yR8 Mm GS (e1 vK6) zF
theorem adN:Pa (jP 211 [.c (.dat false zG),.fn 212 [[.i]]] (.own zG) (P9 yEh)):=fA f211 vG4 (e1 vK6) (loops1 vVy)
theorem N8:Pa (jP 151 [.c (.dat false zG),.c .i] (.own zG) (P9 Mk)):=fA f151 ja (e1 adN) zF
theorem adO:Pa (yF 87 [.ptr true [.p .i,.p (.nil),.p .i,.p .i,.p .i,.p .i,.p (.nil),.p (.nil),.p (.nil),.p (.nil),.p (.nil),.p (.nil),.p (.nil),.p (.nil),.p .i,.p .bool,.p .i,.p (.nil)],.c (.p .i),.c (.p (.dat false .i))] (.tup []) [[.i,.own wK,.i,.i,.i,.i,.own qT,.mat,.own .i,.mat,.own .i,.mat,.own zG,.own .i,.i,.bool,.i,.own qK]] 0 (fun k d=>vAd k (d.1,(Ti d (d.2.2.2.2.2.2.2.2.2.2.2.2.2.2.1,lm d,d.2.2.2.2.2.2.2.2.2.2.2.2.2.2.2.2.1))) (Fd d) (Rd d)) (fun x=>(jK x ())) (fun d=>(jW d))):=fX f87 n0 1 e0 zF
theorem vUs:Pa (jP 86 [.agg nI,.c .i] (.own qK) (fun k d=>Sg k (qO d) (Pi d))):=fA f86 n0 (e2 N8 adO) zF
theorem yUd:Pa (yF 87 [.ptr true AQ,.c (.p .i),.c (.p (.dat false .i))] (.tup []) [lS] 0 (fun k d=>Sh k (lT d) (Fd d) (Rd d)) (fun x=>(jK x ())) (fun d=>(jW d))):=fX f87 n0 1 e0 zF
theorem iM:Pa (jP 79 [.c .i,.c .i,.c .i] .bool (wG vK)):=fA f79 n0 e0 zF
theorem vYi:Pa (jP 288 [.agg ie,.c .i] .bool (fun k d=>Mw k (yC d) (be d))):=fA f288 n0 e0 zF
theorem vQn:Pa (jP 257 [.agg ie,.c .i,.agg vN] .bool (fun k d=>Rw k (yC d) (be d) (qX6 d))):=fA f257 n0 (e1 vYi) zF
theorem qX2:Pa (jP 218 [.agg ie,.c .i,.c .i] .i (fun k d=>Cz k (yC d) (be d) (ce d))):=fA f218 n0 e0 zF
theorem vFs:Pa (jP 213 [.agg ie,.c .i,.agg vN] .i (fun k d=>Hc k (yC d) (be d) (qX6 d))):=fA f213 n0 (e2 vQn qX2) zF
theorem vQt:Pa (jP 286 [.c .i] .bool (mD Q6)):=fA f286 n0 e0 zF
theorem yKl:Pa (jP 253 [.c .i,.c .i] .bool (P9 Q5)):=fA f253 n0 (e1 vQt) zF
theorem yWw:Pa (jP 254 [.c .i] .bool (mD Q8)):=fA f254 n0 e0 zF
def yIs:zE:=sp [(0,.c (.dat false .i)),sI 1,sI 6,sI 7,sI 8] []
def vDo:zE:=sp [(0,.c (.dat false .i)),sI 1,sI 6,sI 7] []
def yP1 (f:qQp)(d:yIs.den):=f (kj d) (pi d) (Id d) (wd d) (ge d)
def qZk:=aea 0 yIs vDo yDq yP1 L4 fun x=>(((x.1,()),(x.2.1,()),(li x,()),(x.2.2.2,()),()),())
def vHt:=aga 3 qZk
theorem adX:lc 54 (md f208 0) qZk:=lp (A:=vHt) qZk (fun d=>(kj d,pi d,Id d,wd d)) yP1 L4 Q7 (e2 yKl yWw) zF
theorem yS1:Pa (MC 208 [.c (.dat false .i),.c .i] .i .bool (P9 Gt)):=fA f208 vHt (e2 yKl yWw) (loops1 adX)
theorem N9:Pa (xO 259 false .i (.own .i) qs):=fC f259 ja e0 zF
theorem ad0 (A X:Option Addr)(n c vc:Nat)(w w':World)(rv:Value)(hr:(Builtin.append_ #[32,32] 32 #[.slice A n c,.slice X 1 vc]).run prog w=.ok rv w'):
    Calls prog 258 #[.slice A n c,.int .i64 n,.slice X 1 vc] w fun e pq=>e=.returned rv∧pq=w':=by
  have t0:prog.underlying 32=some (.slice 2):=by kernel_rfl
  have t3:prog.underlying 3=some (.int .i64):=by kernel_rfl
  have z0:∀w,(Go.sizeOf 2).run prog w=.ok 1 w:=fun w=>by kernel_rfl
  have u0:=run_underlying t0;have u3:=run_underlying t3
  go_enter Proofs.Tryz.func258,Proofs.Tryz.ntmps258
  go_wp2_with (at_builtin;refine Lib.wpList_append_run _ rfl _ _ _ _ rfl _ _ rfl rfl _ _ hr ?_)
  all_goals (go_ret;exact⟨rfl,rfl⟩)
theorem vY4:PW prog 258 32 3 1 where
  ends:=ad0
  grow B off n c i X vo vc N G w w1 w2 w3 hi hnc aZ ME hG hz hA hB:=by
    simp only[Nat.mul_one] at hA hB;have t0:prog.underlying 32=some (.slice 2):=by kernel_rfl
    have t3:prog.underlying 3=some (.int .i64):=by kernel_rfl
    have z0:∀w,(Go.sizeOf 2).run prog w=.ok 1 w:=fun w=>by kernel_rfl
    have u0:=run_underlying t0;have u3:=run_underlying t3;have mixed:prog.follows .mixedOrders=true:=gh;have hz2:¬((i:Int)=(n:Int)):=by omega
    have sJ:IntKind.i64.wrap ((i:Int)+1)=(i:Int)+1:=by rw[IntKind.wrap_i64];omega
    have kb:(0:Int)≤(i:Int)+1:=by omega
    have gC:i≤n:=by omega
    have gY:((i:Int)+1).toNat=i+1:=by omega
    have hci:¬(c=i):=by omega
    have hz3:(c:Int)<(n:Int)+1:=by omega
    have hb3:(i:Int)≤(n:Int):=by omega
    have hGi:¬(G=i):=by omega
    have ad1:¬(G=i+1):=by omega
    go_enter Proofs.Tryz.func258,Proofs.Tryz.ntmps258
    go_wp2_with (first
      |(at_builtin;refine Lib.wpList_append_run _ rfl _ _ _ _ rfl _ _ rfl rfl _ _ hz ?_)
      |(at_builtin;refine P1 _ rfl _ _ 32 32 rfl _ _ rfl rfl (hA _) ?_))
    go_region_law_o (refine P2 rfl _ _ 32 32 rfl (.slice (some ⟨N,(i+1),none⟩) (n+1-(i+1)) (G-(i+1))) (.slice (some ⟨B,off+i,none⟩) (n-i) (c-i)) (by simp[Act.eval,Act.put]) (by simp[Act.eval,Act.put]) (hB (G-(i+1)) (c-i)) ?_)
    go_wp2
    go_ret
    exact⟨rfl,rfl⟩
  shift B off n c i X vo vc w w1 w2 hi aZ ME sD hA hB:=by
    simp only[Nat.mul_one] at hA hB;have t0:prog.underlying 32=some (.slice 2):=by kernel_rfl
    have t3:prog.underlying 3=some (.int .i64):=by kernel_rfl
    have z0:∀w,(Go.sizeOf 2).run prog w=.ok 1 w:=fun w=>by kernel_rfl
    have u0:=run_underlying t0;have u3:=run_underlying t3;have mixed:prog.follows .mixedOrders=true:=gh;have hz2:¬((i:Int)=(n:Int)):=by omega
    have sJ:IntKind.i64.wrap ((i:Int)+1)=(i:Int)+1:=by rw[IntKind.wrap_i64];omega
    have kb:(0:Int)≤(i:Int)+1:=by omega
    have gC:i≤n:=by omega
    have gY:((i:Int)+1).toNat=i+1:=by omega
    have hci:¬(c=i):=by omega
    have vy:=fun lb cb=>yVm (P:=prog) (fo:=289) (tb:=4) (e:=2) (size:=1) Proofs.Tryz.func289 (by kernel_rfl) (by kernel_rfl) (by kernel_rfl) (by kernel_rfl) t0 z0 sD vo (off+(i+1)) vc lb cb
    have hb2:¬(c=i+1):=by omega
    have hb3:(i:Int)≤(n:Int)+1:=by omega
    go_enter Proofs.Tryz.func258,Proofs.Tryz.ntmps258
    go_wp2_with (simp only[vy])
    go_region_law_o (refine P2 rfl _ _ 32 32 rfl (.slice (some ⟨B,off+(i+1),none⟩) (n-i) (c-(i+1))) (.slice (some ⟨B,off+i,none⟩) (n+1-i) (c-i)) (by simp[Act.eval,Act.put]) (by simp[Act.eval,Act.put]) (hA _ _) ?_)
    go_wp2_with (at_builtin;refine P1 _ rfl _ _ 32 32 rfl _ _ rfl rfl (hB _) ?_)
    go_ret
    exact⟨rfl,rfl⟩
def ad2:Nat×nZ:=(258,YC .i 8)
theorem ad3:Pa ad2:=yRv (e:=2) (fn:=f258) vY4
theorem yX0:Pa (MC 214 [.c (.dat true .i),.c .i] (.fro .i) .i (P9 Gu)):=fA f214 n0 (e3 yS1 N9 ad3) zF
theorem yTj:Pa (jP 165 [.agg vN,.ptr [.i]] .bool (fun k d=>(mL (yGp k) d))):=fA f165 ja e0 zF
def vB1:zE:=sp [(0,.c (.dat false zG)),(1,.c (.lit (.fn 165 [1001000]))),sI 7,sI 8] [.robox [.i]]
def vAv (f:yBx)(d:vB1.den):=f (kj d) (Id d) (wd d) (wr d)
def qO8:=aha 0 vB1 yNc yJg Unit Int vAv Gh (fun x=>((),())) fun x=>(((x,()),()),())
def yXl:=aia 2 qO8
theorem ad5:lc 19 (md f164 0) qO8:=lp (A:=yXl) qO8 (fun d=>match d with|.inl d=>.inl ()|.inr d=>.inr (kj d)) vAv Gh Gj (e1 yTj) zF
theorem ad7:Pa (jP 164 [.c (.dat false zG),.fn 165 [[.i]]] .i (P9 qQ0)):=fA f164 yXl (e1 yTj) (loops1 ad5)
theorem AR:Pa (jP 91 [.c (.dat false zG),.c .i] .i (P9 py)):=fA f91 ja (e1 ad7) zF
theorem vXy:Pa (jP 287 [.c .i] .bool (mD Q3)):=fA f287 ja e0 zF
theorem aeb:Pa (jP 256 [.c .i,.c .i] .i (P9 LS)):=fA f256 ja (e1 vXy) zF
def yT7:zE:=sp [sI 3,(6,.c (.dat false .i)),sI 7,sI 8] []
def vBb:zE:=sp [sI 3] []
def yM7:zE:=sp [sI 2] []
def yNz (f:qOw)(d:yT7.den):=f (kj d) (pi d) (Id d) (wd d)
def yGk:=aha 0 yT7 vBb yM7 Int Int yNz LR (fun x=>(((x,()),()),())) fun x=>(((x,()),()),())
def vLd:=aia 3 yGk
theorem aec:lc 18 (md f255 0) yGk:=lp (A:=vLd) yGk (fun d=>match d with|.inl d=>.inl (kj d)|.inr d=>.inr (kj d)) yNz LR vEw e0 zF
theorem aed:Pa (jP 255 [.c (.dat false .i)] .i (mD Q2)):=fA f255 vLd e0 (loops1 aec)
theorem Je:Pa (jP 210 [.agg vN,.agg vN] .i (fun k d=>(Jd (Gk k) d))):=fA f210 ja (e2 aeb aed) zF
theorem Tj:Pa (xO 261 false zG (.own zG) yg):=fC f261 ja e0 zF
theorem aeg (A X:Option Addr)(n c vc:Nat)(w w':World)(rv:Value)(hr:(Builtin.append_ #[35,35] 35 #[.slice A n c,.slice X 1 vc]).run prog w=.ok rv w'):
    Calls prog 260 #[.slice A n c,.int .i64 n,.slice X 1 vc] w fun e pq=>e=.returned rv∧pq=w':=by
  have t0:prog.underlying 35=some (.slice 143):=by kernel_rfl
  have t3:prog.underlying 3=some (.int .i64):=by kernel_rfl
  have z0:∀w,(Go.sizeOf 143).run prog w=.ok 7 w:=fun w=>by kernel_rfl
  have u0:=run_underlying t0;have u3:=run_underlying t3
  go_enter Proofs.Tryz.func260,Proofs.Tryz.ntmps260
  go_wp2_with (at_builtin;refine Lib.wpList_append_run _ rfl _ _ _ _ rfl _ _ rfl rfl _ _ hr ?_)
  all_goals (go_ret;exact⟨rfl,rfl⟩)
theorem aeh:PW prog 260 35 3 7 where
  ends:=aeg
  grow B off n c i X vo vc N G w w1 w2 w3 hi hnc aZ ME hG hz hA hB:=by
    have t0:prog.underlying 35=some (.slice 143):=by kernel_rfl
    have t3:prog.underlying 3=some (.int .i64):=by kernel_rfl
    have z0:∀w,(Go.sizeOf 143).run prog w=.ok 7 w:=fun w=>by kernel_rfl
    have u0:=run_underlying t0;have u3:=run_underlying t3;have mixed:prog.follows .mixedOrders=true:=gh;have hz2:¬((i:Int)=(n:Int)):=by omega
    have sJ:IntKind.i64.wrap ((i:Int)+1)=(i:Int)+1:=by rw[IntKind.wrap_i64];omega
    have kb:(0:Int)≤(i:Int)+1:=by omega
    have gC:i≤n:=by omega
    have gY:((i:Int)+1).toNat=i+1:=by omega
    have hci:¬(c=i):=by omega
    have hz3:(c:Int)<(n:Int)+1:=by omega
    have hb3:(i:Int)≤(n:Int):=by omega
    have hGi:¬(G=i):=by omega
    have ad1:¬(G=i+1):=by omega
    go_enter Proofs.Tryz.func260,Proofs.Tryz.ntmps260
    go_wp2_with (first
      |(at_builtin;refine Lib.wpList_append_run _ rfl _ _ _ _ rfl _ _ rfl rfl _ _ hz ?_)
      |(at_builtin;refine P1 _ rfl _ _ 35 35 rfl _ _ rfl rfl (hA _) ?_))
    go_region_law_o (refine P2 rfl _ _ 35 35 rfl (.slice (some ⟨N,(i+1)*7,none⟩) (n+1-(i+1)) (G-(i+1))) (.slice (some ⟨B,off+i*7,none⟩) (n-i) (c-i)) (by simp[Act.eval,Act.put]) (by simp[Act.eval,Act.put]) (hB (G-(i+1)) (c-i)) ?_)
    go_wp2
    go_ret
    exact⟨rfl,rfl⟩
  shift B off n c i X vo vc w w1 w2 hi aZ ME sD hA hB:=by
    have t0:prog.underlying 35=some (.slice 143):=by kernel_rfl
    have t3:prog.underlying 3=some (.int .i64):=by kernel_rfl
    have z0:∀w,(Go.sizeOf 143).run prog w=.ok 7 w:=fun w=>by kernel_rfl
    have u0:=run_underlying t0;have u3:=run_underlying t3;have mixed:prog.follows .mixedOrders=true:=gh;have hz2:¬((i:Int)=(n:Int)):=by omega
    have sJ:IntKind.i64.wrap ((i:Int)+1)=(i:Int)+1:=by rw[IntKind.wrap_i64];omega
    have kb:(0:Int)≤(i:Int)+1:=by omega
    have gC:i≤n:=by omega
    have gY:((i:Int)+1).toNat=i+1:=by omega
    have hci:¬(c=i):=by omega
    have vy:=fun lb cb=>yVm (P:=prog) (fo:=291) (tb:=4) (e:=143) (size:=7) Proofs.Tryz.func291 (by kernel_rfl) (by kernel_rfl) (by kernel_rfl) (by kernel_rfl) t0 z0 sD vo (off+(i+1)*7) vc lb cb
    have hb2:¬(c=i+1):=by omega
    have hb3:(i:Int)≤(n:Int)+1:=by omega
    go_enter Proofs.Tryz.func260,Proofs.Tryz.ntmps260
    go_wp2_with (simp only[vy])
    go_region_law_o (refine P2 rfl _ _ 35 35 rfl (.slice (some ⟨B,off+(i+1)*7,none⟩) (n-i) (c-(i+1))) (.slice (some ⟨B,off+i*7,none⟩) (n+1-i) (c-i)) (by simp[Act.eval,Act.put]) (by simp[Act.eval,Act.put]) (hA _ _) ?_)
    go_wp2_with (at_builtin;refine P1 _ rfl _ _ 35 35 rfl _ _ rfl rfl (hB _) ?_)
    go_ret
    exact⟨rfl,rfl⟩
def aei:Nat×nZ:=(260,YC zG 56)
theorem Tl:Pa aei:=yRv (e:=143) (fn:=f260) aeh
def yOp:zE:=sp [(0,.c (.dat true zG)),sP 3 0,sI 6] [oB wC]
def yWm (f:qNc)(d:yOp.den):=f (kj d) (Id d) (vV d.2.1)
def qQs:=aea 1 yOp yOp qWe yWm LW fun x=>(((x.1,()),(),(x.2.1,()),()),((gi x.2.2 ()),()))
def yYv:=aga 6 qQs
theorem aej:lc 40 (md f215 0) qQs:=lp (A:=yYv) qQs (fun d=>(kj d,Id d,(vV d.2.1))) yWm LW Gn (e4 AR Je Tj Tl) zF
theorem Tn:Pa (MC 215 [.c (.dat true zG),.agg vN] (.fro zG) .i (fun k d=>yh k d.1 (Tm d))):=fA f215 yYv (e4 AR Je Tj Tl) (loops1 aej)
theorem vRd:Pa (yF 152 [.ptr true AT,.agg Oa] (.c .i) [lS] 0 (fun k d=>Rx k (jW d) (yNa d)) (fun x=>(x.1,(jK x.2 ()))) (fun d=>(d.1,(ky d)))):=fX f152 n0 1 (e4 iM vFs yX0 Tn) zF
theorem vKm:Pa (zH 216 [.ptr yGc,.c .i] (.tup [(true,pL),(false,yH)]) (fun k d=>yG2 k (jW d) (Fd d)) (fun x=>(gi x.1 (x.2,()))) (fun d=>((vV d),If d))):=fA f216 n0 (e1 AR) zF
theorem yXs:Pa (yF 262 [.c (.own zG),.c (.p .i),.c (.p .i)] (.c (.own zG)) [] 0 (wG LQ) (fun x=>(x,())) (fun d=>d.1)):=fX f262 ja 0 e0 zF
theorem rH:Pa (zH 217 [.c (.dat true zG),.c .i] (.tup [(false,[.fro zG]),(true,pL),(false,yH)]) (P9 qx) (fun x=>(To x ())) (fun d=>(Tp d))):=fA f217 ja (e3 AR Tj yXs) zF
theorem vH2:Pa (yF 87 [.ptr true AT,.c (.p .i),.c (.p (.dat false .i))] (.tup []) [lS] 0 (fun k d=>yx k (jW d) (Fd d) (Rd d)) (fun x=>(jK x ())) (fun d=>(jW d))):=fX f87 n0 1 e0 zF
theorem vD1:Pa (MC 219 [.c (.dat true zG),.c .i,.c .i] (.fro zG) .i (wG Gp)):=fA f219 n0 (e2 rH Tn) zF
theorem vEu:Pa (zH 217 [.c (.dat false zG),.c .i] (.tup [(false,[.own zG]),(true,pL),(false,yH)]) (P9 yC2) (fun x=>(To x ())) (fun d=>(Tp d))):=fA f217 ja (e3 AR Tj yXs) zF
def vKh:zE:=sp [sO 6 0,sP 7 1,sI 9] [oA zG,oB wC]
def yPo (f:yGs)(d:vKh.den):=f (Id d) d.2.1 (vV (li d))
def qXn:=aea 0 vKh vKh qZa yPo LZ fun x=>(((),(),(x.1,()),()),(x.2.1,(gi x.2.2 ()),()))
def vA4:=aga 5 qXn
theorem aen:lc 41 (md f220 0) qXn:=lp (A:=vA4) qXn (fun d=>(Id d,d.2.1,(vV (li d)))) yPo LZ Gr (e3 vEu Je Tl) zF
theorem vI9:Pa (MC 220 [.c (.dat true zG),.c .i] (.fro zG) .i (P9 Gs)):=fA f220 vA4 (e3 vEu Je Tl) (loops1 aen)
theorem vE6:Pa (MC 221 [.c (.dat true zG),.c .i] (.fro zG) .i (P9 Gq)):=fA f221 n0 (e2 rH Tn) zF
theorem aer:Pa (yF 153 [.ptr true AT,.agg vN] (.c .i) [lS] 0 (fun k d=>CA k (jW d) (Jf d)) (fun x=>(x.1,(jK x.2 ()))) (fun d=>(d.1,(ky d)))):=fX f153 n0 1 (e8 vKm rH vH2 iM qX2 vD1 vI9 vE6) zF
theorem aet:Pa (xO 263 false qT (.own qT) Zj):=fC f263 ja e0 zF
theorem yQr:Pa (xO 225 true (.sl .i) (.jun) Zg):=fC f225 ja e0 zF
def vIj:zE:=sp [sO 3 0,(8,.c (.dat true (.sl .i))),sI 9,sI 10] [.pmat]
def yPt:zE:=sp [sO 3 0] [.pmat]
def vNg (f:yFm)(d:vIj.den):=f (pi d) (Id d) (wd d) (wr d) d.2.1.2
def qTi:=aea 0 vIj yPt (EQ×Nat) vNg La fun x=>(((),()),((x.1,x.2),()))
def vJa:=aia 3 qTi
theorem vPr:lc 22 (md f264 0) qTi:=lp (A:=vJa) qTi (fun d=>d.2.1) vNg La Fs (e2 yQr N9) zF
theorem vZ3:Pa (jP 264 [.c (.dat true (.sl .i))] (.mat) (mD Lb)):=fA f264 vJa (e2 yQr N9) (loops1 vPr)
theorem pM:Pa (zH 222 [.agg [.dat false qT,.dat true (.sl .i),.dat false .i,.dat true (.sl .i)]] (.agg [.own qT,.mat,.own .i,.mat]) (fun k d=>(vJ (gG k) d)) (fun x=>(vZ x ())) (fun d=>(vH d))):=fA f222 ja (e3 aet vZ3 N9) zF
theorem vJi:Pa (jP 223 [.ptr yGc,.c .i] .bool (fun k d=>yAo k (jW d) (Fd d))):=fA f223 n0 (e1 iM) zF
theorem vQs:Pa (yF 154 [.ptr true AT,.agg vN] (.c .i) [lS] 0 (fun k d=>CB k (jW d) (Jf d)) (fun x=>(x.1,(jK x.2 ()))) (fun d=>(d.1,(ky d)))):=fX f154 n0 1 (e3 pM vJi iM) zF
theorem Jg:Pa (jP 224 [.ptr yGc,.c .i] .bool (fun k d=>Ob k (jW d) (Fd d))):=fA f224 n0 (e1 iM) zF
theorem vIu:Pa (xO 225 true (.sl .i) (.own (.sl .i)) He):=fC f225 ja e0 zF
theorem Jh:Pa (jP 226 [.c (.dat false .i),.c .i,.c .i] (.own .i) (wG rj)):=fA f226 n0 (e1 N9) zF
theorem aez:Pa (jP 250 [.c .i] .bool (mD L6)):=fA f250 n0 e0 zF
theorem vZa:Pa (MC 251 [.c (.int .u64),.c (.int .u64)] (.int .u64) (.int .u64) (P9 Gy)):=fA f251 n0 e0 zF
theorem aeC:Pa (jP 313 [.c (.int .u64)] .i (mD yHm)):=fA f313 n0 e0 zF
theorem yCk:Pa (jP 285 [.c (.int .u64)] .i (mD qYr)):=fA f285 n0 (e1 aeC) zF
def vKr:zE:=sp [(2,.c (.int .u64)),(8,.c (.int .u64)),(9,.c (.int .u64)),(10,.c (.int .u64)),(11,.c (.int .u64)),(13,.c (.int .u64)),(14,.c (.int .u64)),(15,.c (.int .u64)),(16,.c (.int .u64))] []
def yUf:zE:=sp [(2,.c (.int .u64)),(8,.c (.int .u64)),(9,.c (.int .u64)),(10,.c (.int .u64)),(11,.c (.int .u64)),(13,.c (.int .u64)),(14,.c (.int .u64)),(15,.c (.int .u64))] []
def yMp (f:qPu)(d:vKr.den):=f (kj d) (pi d) (Id d) (wd d) (ge d) (Nh d) (ul d) (dl d) d.1.2.2.2.2.2.2.2.2.1.1
def Tq:=aea 0 vKr yUf zW yMp zv fun x=>(((x.1,()),(x.2.1,()),(li x,()),(Ng x,()),(rg x,()),(be x,()),(ce x,()),(x.2.2.2.2.2.2.2,()),()),())
def vD2:zE:=sp [(2,.c (.int .u64)),(8,.c (.int .u64)),(9,.c (.int .u64)),(10,.c (.int .u64)),(14,.c (.int .u64)),(15,.c (.int .u64)),(16,.c (.int .u64)),(17,.c (.int .u64)),(18,.c (.int .u64))] []
def yIe:zE:=sp [(2,.c (.int .u64)),(8,.c (.int .u64)),(14,.c (.int .u64)),(15,.c (.int .u64)),(17,.c (.int .u64)),(18,.c (.int .u64))] []
def vHo (f:yFr)(d:vD2.den):=f (kj d) (pi d) (Id d) (wd d) (ge d) (Nh d) (ul d) (dl d) d.1.2.2.2.2.2.2.2.2.1.1
def Ts:=aea 2 vD2 yIe Ow vHo zw fun x=>(((x.1,()),(x.2.1,()),(li x,()),(Ng x,()),(rg x,()),(pp x,()),()),())
def qZx:zV:=⟨[],[(17,Tq),(24,Ts)],[],true⟩
theorem aeD:lc 135 (md f252 0) Tq:=lp (A:=qZx) Tq (fun d=>(kj d,pi d,Id d,wd d,ge d,Nh d,ul d,dl d)) yMp zv Nd (e1 yCk) zF
theorem aeE:lc 135 (md f252 1) Ts:=lp (A:=qZx) Ts (fun d=>(kj d,pi d,Id d,wd d,ge d,Nh d)) vHo zw Nf (e1 yCk) zF
theorem aeG:Pa (MC 252 [.c (.int .u64),.c (.int .u64),.c (.int .u64)] (.int .u64) (.int .u64) (wG Gz)):=fA f252 qZx (e1 yCk) (mq (n:=2) (by kernel_rfl) fun i hi=>match i,hi with|0,_=>⟨Tq,by kernel_rfl,aeD⟩|1,_=>⟨Ts,by kernel_rfl,aeE⟩|i+2,hi=>absurd hi (by omega))
theorem yG5:Pa ((147,PV)):=YB (fn:=f147)
theorem yUc:Pa (MC 207 [.c .i,.c .i,.c .i] .i .bool (wG GA)):=fA f207 n0 (e4 aez vZa aeG yG5) zF
def vCt:zE:=sp [sI 4,(5,.c (.int .u64)),(9,.c (.dat false .i)),sI 10,sI 11] []
def vA0:zE:=sp [sI 4,(5,.c (.int .u64))] []
def yOe (f:yAv)(d:vCt.den):=f (kj d) (pi d) (Id d) (wd d) (ge d)
def qUk:=aea 0 vCt vA0 vW yOe Gw fun x=>(((x.1,()),(x.2,()),()),())
def yMe:=aia 4 qUk
theorem vUk:lc 37 (md f83 0) qUk:=lp (A:=yMe) qUk (fun d=>(kj d,pi d)) yOe Gw Gx (e1 yG5) zF
theorem Tt:Pa (MC 83 [.c (.dat false .i)] .i .bool (mD Gv)):=fA f83 yMe (e1 yG5) (loops1 vUk)
def vEz:zE:=⟨[(1,.c (.dat false .i)),(2,.c (.dat false .i)),sO 8 0,(25,.c (.dat false wK)),sI 26,sI 27],[oA .i],[(8,none,.i,false)]⟩
def vD6:zE:=sp [sO 8 0] [oA .i]
def vJ1:zE:=sp [sI 6,(7,.c .bool)] []
def vAz (f:qQu)(d:vEz.den):=f (kj d) (pi d) (wd d) (ge d) (Nh d) d.2.1
def qVp:=aha 0 vEz vD6 vJ1 AC eX vAz rf (fun x=>(((),()),(x,()))) fun x=>(((x.1,()),(x.2,()),()),())
def vKu:=aga 5 qVp
theorem vSo:lc 57 (md f139 0) qVp:=lp (A:=vKu) qVp (fun d=>match d with|.inl d=>.inl d.2.1|.inr d=>.inr (kj d,pi d)) vAz rf td (e2 yUc Tt) zF
theorem AU:Pa (MC 139 [.c (.dat false wK),.c (.dat false .i),.c (.dat false .i)] .i .bool (wG nv)):=fA f139 vKu (e2 yUc Tt) (loops1 vSo)
theorem aeI:Pa (yF 155 [.ptr true AT,.c (.p .i),.c (.p .i)] (.c .i) [lS] 0 (fun k d=>Ry k (jW d) (Fd d) (Rd d)) (fun x=>(x.1,(jK x.2 ()))) (fun d=>(d.1,(ky d)))):=fX f155 n0 1 (e6 Jg iM vIu Jh AU pM) zF
theorem aeK:Pa (MC 293 [.c .i,.c .i] .i .bool (P9 Rz)):=fA f293 ja e0 zF
theorem vA2:Pa (jP 130 [.agg oK] .bool (wG Qj)):=fA f130 ja e0 zF
theorem yHu:Pa (zH 265 [.agg oK,.c .i] (.tup [(true,[.i,.i,.i]),(false,yH)]) (fun k d=>My k (d.1,d.2.1,li d) (Ng d)) (fun x=>(x.1.1,x.1.2.1,x.1.2.2,x.2,())) (fun d=>((d.1,d.2.1,li d),Ng d))):=fA f265 n0 (e2 aeK vA2) zF
theorem yHk:Pa (zH 227 [.agg oK,.c .i] (.tup [(true,[.i,.i,.i]),(false,yH)]) (fun k d=>HC k (d.1,d.2.1,li d) (Ng d)) (fun x=>(x.1.1,x.1.2.1,x.1.2.2,x.2,())) (fun d=>((d.1,d.2.1,li d),Ng d))):=fA f227 n0 (e1 yHu) zF
theorem Tu:Pa (jP 266 [.agg oK,.c .i] .i (fun k d=>(vJ (ya k) d))):=fA f266 ja e0 zF
theorem ySm:Pa (zH 228 [.agg oK,.c .i,.c .i] (.tup [(true,[.i,.i,.i]),(false,yH)]) (fun k d=>HD k (d.1,d.2.1,li d) (Ng d) (rg d)) (fun x=>(x.1.1,x.1.2.1,x.1.2.2,x.2,())) (fun d=>((d.1,d.2.1,li d),Ng d))):=fA f228 n0 (e2 yHu Tu) zF
theorem yLw:Pa (jP 229 [.agg oK,.c .i] .i (fun k d=>HE k (d.1,d.2.1,li d) (Ng d))):=fA f229 n0 e0 zF
theorem vZl:Pa (yF 156 [.ptr true AT,.c (.p .i),.c (.p .i),.c (.p .i)] (.c .i) [lS] 0 (fun k d=>qW4 k (jW d) (Fd d) (Rd d) d.2.2.2.2.2.2.2.2.2.2.2.2.2.2.2.2.2.2.2.2.1) (fun x=>(x.1,(jK x.2 ()))) (fun d=>(d.1,(ky d)))):=fX f156 n0 1 (e5 iM yHk ySm yLw pM) zF
def yHw:zE:=sp [sP 0 0,sO 7 2,sP 8 3,(40,.c (.dat true (.sl .i))),sI 41,sI 42] [oB qN1,oA qK,oA .i,oB yW4,oA qT,.mat,oA .i,.mat]
def yJd:zE:=sp [sP 0 0,sO 7 2,sP 8 3] [oB qN1,oA qK,oA .i,oB yW4,oA qT,.mat,oA .i,.mat]
def vI1:zE:=sp [sP 0 0,sI 6] [oB qN1,oA qK]
def vF6 (f:qSe)(d:yHw.den):=f (wd d) (ge d) (Nh d) (lT d.2.1) (li d) (Ng d) (be d) (ce d) (If d) (ii d)
def qRt:zU:=⟨[yHw],[(.exit 0,yJd),(.ret,vI1)],yGm,fun k d=>vF6 (yDm k k) d,fun b x _ K=>match x with|.inl x=>K (.exit 0) (zM b yJd (((),(),(),()),((vQ x.1 ()),x.2.1,li x,(),Ng x,rg x,be x,x.2.2.2.2.2.2,())))|.inr x=>K .ret (zM b vI1 (((),(x.1,()),()),((vQ x.2.1 ()),x.2.2,())))⟩
def yL9:=aga 6 qRt
theorem aeO:zT prog 1000 1 81 (md f157 0) qRt:=lp (A:=yL9) qRt (fun d=>match d with|.inl d=>.inl ((lT d.2.1),li d,Ng d,be d,ce d,If d,ii d)|.inr d=>.inr (pi d,(lT d.2.1),li d)) vF6 yDm vMq (e5 Jg iM Jh pM AU) zF
theorem aeP:Pa (yF 157 [.ptr true AT,.c (.p .i),.c (.p .i)] (.c .i) [lS] 0 (fun k d=>yYq k (jW d) (Fd d) (Rd d)) (fun x=>(x.1,(jK x.2 ()))) (fun d=>(d.1,(ky d)))):=fX f157 yL9 1 (e5 Jg iM Jh pM AU) (loops1 aeO)
theorem vU5:Pa (yF 88 [.ptr true AT,.agg vN] (.c .i) [lS] 0 (fun k d=>Sc k (jW d) (Jf d)) (fun x=>(x.1,(jK x.2 ()))) (fun d=>(d.1,(ky d)))):=fX f88 n0 1 (e6 vRd aer vQs aeI vZl aeP) zF
theorem Tv:Pa (jP 84 [.agg ie,.c .i] .bool (fun k d=>(kz (Cy k) d))):=fA f84 ja e0 zF
theorem AV:Pa (zH 160 [.c .i,.c .i,.c (.dat false .i)] (.agg qR3) (wG rr) (fun x=>(wm x ())) (fun d=>(ig d))):=fA f160 ja e0 zF
def yRs:zE:=⟨[sP 1 0,sP 2 1,sO 4 2,(10,.c (.dat true zG)),sI 11,sI 12],[oB gO,oB jT,oA qK],[(4,none,qK,false)]⟩
def yW1:zE:=sp [sP 1 0,sP 2 1,sO 4 2] [oB gO,oB jT,oA qK]
def yWk (f:qXz)(d:yRs.den):=(tH (f (wd d) (ge d) (Nh d)) d.2.1) (In d) (pm d) (Do d) (Ng d)
def Tw:=aea 0 yRs yW1 yBn yWk G5 fun x=>(((),(),(),()),((AW x ()),(Pi x,Fn x,x.2.2.2.2.2.2.2.2.2.2.2.2.2.1,()),x.2.2.2.2.2.2.2.2.2.2.2.2.2.2,()))
def vIn:zE:=sp [sP 1 0,sP 2 1,sO 4 2,(28,.c (.dat true qT)),sI 29,sI 30] [oB gO,oB jT,oA qK]
def yIb (f:qTc)(d:vIn.den):=(tH (f (wd d) (ge d) (Nh d)) d.2.1) (In d) (pm d) (Do d) (Ng d)
def Tx:=aea 2 vIn yW1 yBn yIb Mu fun x=>(((),(),(),()),((AW x ()),(Pi x,Fn x,x.2.2.2.2.2.2.2.2.2.2.2.2.2.1,()),x.2.2.2.2.2.2.2.2.2.2.2.2.2.2,()))
def yAu:zV:=⟨[],[(3,Tw),(8,Tx)],[],false⟩
theorem aeS:lc 48 (md f158 0) Tw:=lp (A:=yAu) Tw (fun d=>(AW d.2.1 (In d,pm d,Do d,Ng d))) yWk G5 G6 (e1 AV) zF
theorem aeT:lc 48 (md f158 1) Tx:=lp (A:=yAu) Tx (fun d=>(AW d.2.1 (In d,pm d,Do d,Ng d))) yIb Mu G8 (e1 AV) zF
theorem yTk:Pa (zH 158 [.agg AI] (.tup [(true,[.i,.fro qT,.fro (.sl .i),.fro .i,.fro (.sl .i),.fro .i,.fro (.sl .i),.own zG,.fro .i,.i,.bool]),(false,[.own qK])]) (fun k d=>(tH (Rv k) d)) (fun x=>(Ji x ())) (fun d=>(AO d))):=fA f158 yAu (e1 AV) (mq (n:=2) (by kernel_rfl) fun i hi=>match i,hi with|0,_=>⟨Tw,by kernel_rfl,aeS⟩|1,_=>⟨Tx,by kernel_rfl,aeT⟩|i+2,hi=>absurd hi (by omega))
theorem vEx:Pa (jP 159 [.agg vN,.c .i] .bool (fun k d=>(mL (yA8 k) d))):=fA f159 ja e0 zF
theorem vFq:Pa (jP 161 [.agg ie,.c .i] .bool (fun k d=>(kz (Hb k) d))):=fA f161 ja e0 zF
theorem aeW:Pa (jP 300 [.agg vN,.c .i] .bool (fun k d=>(mL (ZZ k) d))):=fA f300 ja e0 zF
theorem vLy:Pa (jP 299 [.agg vN,.ptr [.i]] .bool (fun k d=>(mL (ZY k) d))):=fA f299 ja (e1 aeW) zF
def vBq:zE:=⟨[(1,.c (.lit (.fn 299 [1001000]))),sO 5 1,(8,.c (.dat false zG)),sI 9,sI 10],[.robox [.i],oA zG],[(5,none,zG,false)]⟩
def yOt (f:yGa)(d:vBq.den):=f (Id d) (wd d) (ge d) (wr d) (li d)
def qWh:=aea 0 vBq yZa qVz yOt LI fun x=>(((),()),(x,()))
def ySx:=aia 3 qWh
theorem aeX:lc 23 (md f211 0) qWh:=lp (A:=ySx) qWh (fun d=>d.2.1) yOt LI F3 (e1 vLy) zF
theorem vZn:Pa (jP 211 [.c (.dat false zG),.fn 299 [[.i]]] (.own zG) (P9 ZX)):=fA f211 ySx (e1 vLy) (loops1 aeX)
theorem Dy:Pa (jP 271 [.c (.dat false zG),.c .i] (.own zG) (P9 F2)):=fA f271 ja (e1 vZn) zF
theorem yYt:Pa (jP 329 [.agg vN,.ptr vN] .bool (fun k d=>(Jd (Z5 k) d))):=fA f329 ja e0 zF
def yT2:zE:=sp [(0,.c (.dat false zG)),(1,.c (.lit (.fn 329 [1001000]))),sI 7,sI 8] [.robox wC]
def yW6 (f:qZm)(d:yT2.den):=(mM (f (kj d) (Id d) (wd d)) d.2.1)
def qU6:=aha 0 yT2 yNc yJg Unit Int yW6 LN (fun x=>((),())) fun x=>(((x,()),()),())
def yX7:=aia 2 qU6
theorem vWr:lc 19 (md f164 0) qU6:=lp (A:=yX7) qU6 (fun d=>match d with|.inl d=>.inl ()|.inr d=>.inr (kj d)) yW6 LN Ga (e1 yYt) zF
theorem aeZ:Pa (jP 164 [.c (.dat false zG),.fn 329 [vN]] .i (fun k d=>(mL (Z6 k) d))):=fA f164 yX7 (e1 yYt) (loops1 vWr)
theorem vOx:Pa (jP 146 [.c (.dat false zG),.fn 329 [vN]] .bool (fun k d=>(mL (QY k) d))):=fA f146 ja (e1 aeZ) zF
theorem vGq:Pa (yF 328 [.agg vN,.ptr true [.map],.ptr false [.p (.dat false zG)]] (.c .bool) [[.map]] 0 (fun k d=>(Tz (yDi k) d)) (fun x=>(x.1,x.2,())) (fun d=>(d.1,d.2.1))):=fX f328 ja 3 (e1 vOx) zF
def yMa:zE:=⟨[(1,.c (.lit (.fn 328 [1001000,1001002]))),sO 5 3,(8,.c (.dat false zG)),sI 9,sI 10],[oB [.lit (.map 1001001)],.imap,.robox [.dat false zG],oA zG],[(5,none,zG,false)]⟩
def yIz:zE:=sp [(1,.c (.lit (.fn 328 [1001000,1001002]))),sO 5 3] [oB [.lit (.map 1001001)],.imap,.robox [.dat false zG],oA zG]
def yTw (f:qNr)(d:yMa.den):=f (Id d) (wd d) (ge d) (li d) (ap d) (rg d)
def qQ4:=aea 0 yMa yIz qRl yTw Gc fun x=>(((),(),()),((),x.1,(x.2.1,()),x.2.2,()))
def yKr:=aia 3 qQ4
theorem vVm:zT prog 1000 2 23 (md f211 0) qQ4:=lp (A:=yKr) qQ4 (fun d=>(li d,ap d,rg d)) yTw Gc Gd (e1 vGq) zF
theorem ae3:Pa (yF 211 [.c (.p (.dat false zG)),.fn 328 [(true,[.map]),(false,[.p (.dat false zG)])]] (.c (.own zG)) [[.map]] 0 (wG Z9) (fun x=>(x.1,x.2,())) (fun d=>(d.1,d.2.1))):=fX f211 yKr 2 (e1 vGq) (loops1 vVm)
theorem Oc:Pa (jP 316 [.c (.dat false zG),.c .i] (.own zG) (P9 LO)):=fA f316 ja (e2 Dy ae3) zF
theorem yB8:Pa (jP 142 [.agg jZ,.agg vN] .bool (fun k d=>(tH (Fx k) d))):=fA f142 ja e0 zF
theorem yVr:Pa (jP 330 [.agg vN,.ptr jZ] .bool (fun k d=>(tH (ZT k) d))):=fA f330 ja (e1 yB8) zF
def vKq:zE:=sp [(0,.c (.dat false zG)),(1,.c (.lit (.fn 330 [1001000]))),sI 7,sI 8] [.robox jU]
def yVs (f:qV6)(d:vKq.den):=(vJ (f (kj d) (Id d) (wd d)) d.2.1)
def qRb:=aha 0 vKq yNc yJg Unit Int yVs LG (fun x=>((),())) fun x=>(((x,()),()),())
def yK4:=aia 2 qRb
theorem vOn:lc 19 (md f164 0) qRb:=lp (A:=yK4) qRb (fun d=>match d with|.inl d=>.inl ()|.inr d=>.inr (kj d)) yVs LG F1 (e1 yVr) zF
theorem ae7:Pa (jP 164 [.c (.dat false zG),.fn 330 [jZ]] .i (fun k d=>(lU (ZU k) d))):=fA f164 yK4 (e1 yVr) (loops1 vOn)
theorem vTa:Pa (jP 146 [.c (.dat false zG),.fn 330 [jZ]] .bool (fun k d=>(lU (QT k) d))):=fA f146 ja (e1 ae7) zF
def yXd:zE:=sp [sP 4 0,sP 5 1,(15,.c (.dat false zG)),sI 16,sI 17] [oB [.lit .nsl,.lit .nsl,.lit .nsl],oB qV8,oA .i,oA .i,.mat]
def vLx:zE:=sp [sP 4 0,sP 5 1] [oB [.lit .nsl,.lit .nsl,.lit .nsl],oB qV8,oA .i,oA .i,.mat]
def yYr (f:qOe)(d:yXd.den):=f (Id d) (wd d) (ge d) (Ng d) (rg d) (be d)
def qYd:=aea 0 yXd vLx qQt yYr LB fun x=>(((),(),()),((),(),x.1,x.2.1,x.2.2,()))
def yNb:=aia 3 qYd
theorem ae8:lc 84 (md f318 0) qYd:=lp (A:=yNb) qYd (fun d=>(Ng d,rg d,be d)) yYr LB FT (e2 Dx N6) zF
theorem yLd:Pa (zH 318 [.c .i,.c (.dat false zG)] (.agg [.own .i,.own .i,.mat]) (P9 QO) (fun x=>(x.1,x.2.1,x.2.2,())) (fun d=>(d.1,d.2.1,li d))):=fA f318 yNb (e2 Dx N6) (loops1 ae8)
theorem yK7:Pa (jP 319 [.agg vN,.ptr [.i]] .bool (fun k d=>(mL (ZK k) d))):=fA f319 ja e0 zF
def yYz:zE:=sp [(0,.c (.dat false zG)),(1,.c (.lit (.fn 319 [1001000]))),sI 7,sI 8] [.robox [.i]]
def yJ9 (f:yBx)(d:yYz.den):=f (kj d) (Id d) (wd d) (wr d)
def qSr:=aha 0 yYz yNc yJg Unit Int yJ9 LC (fun x=>((),())) fun x=>(((x,()),()),())
def yYb:=aia 2 qSr
theorem afa:lc 19 (md f164 0) qSr:=lp (A:=yYb) qSr (fun d=>match d with|.inl d=>.inl ()|.inr d=>.inr (kj d)) yJ9 LC FU (e1 yK7) zF
theorem afb:Pa (jP 164 [.c (.dat false zG),.fn 319 [[.i]]] .i (P9 ZL)):=fA f164 yYb (e1 yK7) (loops1 afa)
theorem vIv:Pa (jP 146 [.c (.dat false zG),.fn 319 [[.i]]] .bool (P9 QP)):=fA f146 ja (e1 afb) zF
def vGm:zE:=sp [sI 5,(12,.c (.dat false .i)),sI 13,sI 14] []
def yMm:zE:=sp [sI 5] []
def yKh (f:Int→AC→Int→Int→Option Int)(d:vGm.den):=f (kj d) (pi d) (Id d) (wd d)
def qTn:=aea 0 vGm yMm Int yKh FN fun x=>(((x,()),()),())
def vA7:=aia 3 qTn
theorem afd:lc 23 (md f331 0) qTn:=lp (A:=vA7) qTn (fun d=>(kj d)) yKh FN FO e0 zF
theorem yVv:Pa (jP 331 [.agg jZ,.c .i] .i (fun k d=>(lU (QK k) d))):=fA f331 vA7 e0 (loops1 afd)
theorem qSa:Pa (jP 332 [.c .i,.c .i] .bool (P9 FW)):=fA f332 ja e0 zF
theorem yXg:Pa (jP 333 [.agg vN,.ptr [.i],.ptr oK,.ptr TA,.ptr [.i],.ptr jZ] .bool (fun k d=>(aff (ZM k) d))):=fA f333 ja (e2 Tu qSa) zF
def yLc:zE:=sp [(0,.c (.dat false zG)),(1,.c (.lit (.fn 333 [1001000,1001001,1001002,1001003,1001004]))),sI 7,sI 8] [.robox [.i],.robox [.i,.i,.i],.robox yCp,.robox [.i],.robox jU]
def vGr (f:qSc)(d:yLc.den):=(vJ (f (kj d) (Id d) (wd d) (wr d) (In d) (pm d) (Do d) (ap d) (un d) (co d) d.2.2.2.2.1.1) (be d))
def qPg:=aha 0 yLc yNc yJg Unit Int vGr LF (fun x=>((),())) fun x=>(((x,()),()),())
def vJq:=aia 2 qPg
theorem afg:lc 19 (md f164 0) qPg:=lp (A:=vJq) qPg (fun d=>match d with|.inl d=>.inl ()|.inr d=>.inr (kj d)) vGr LF FX (e1 yXg) zF
theorem vWh:Pa (jP 164 [.c (.dat false zG),.fn 333 [[.i],oK,TA,[.i],jZ]] .i (fun k d=>(qP7 (ZN k) d))):=fA f164 vJq (e1 yXg) (loops1 afg)
theorem yT1:Pa (jP 146 [.c (.dat false zG),.fn 333 [[.i],oK,TA,[.i],jZ]] .bool (fun k d=>(qP7 (QQ k) d))):=fA f146 ja (e1 vWh) zF
def vK3:zE:=sp [(3,.c (.dat false zG)),sP 4 0,sP 5 1,sP 6 2,sP 9 3,sP 10 4,sI 11,(39,.c (.dat false .i)),sI 40,sI 41] [oB yCp,oB jU,oB [.i],oB [.i,.i,.i],oB [.i]]
def yHt:zE:=sp [(3,.c (.dat false zG)),sP 4 0,sP 5 1,sP 6 2,sP 9 3,sP 10 4,sI 11] [oB yCp,oB jU,oB [.i],oB [.i,.i,.i],oB [.i]]
def vM6 (f:yB0)(d:vK3.den):=(vJ (f (kj d) (ul d) (dl d) d.1.2.2.2.2.2.2.2.2.1.1 d.1.2.2.2.2.2.2.2.2.2.1.1 (wr d) (ip d) (qr d)) (li d)) (ap d) d.2.2.2.2.1.1 (jp d) d.2.2.2.2.1.2.2.1 d.2.2.2.2.2.1.1
def qXa:=aea 0 vK3 yHt qTa vM6 Ce fun x=>(((x.1,()),(),(),(),(),(),(x.2.1,()),()),((li x,Ng x,rg x,()),(vOh x ()),(wl x,()),(ci x,Pi x,Fn x,()),(x.2.2.2.2.2.2.2.2.2.2.2.2.2,()),()))
def vCx:=aia 7 qXa
theorem afi:lc 59 (md f320 0) qXa:=lp (A:=vCx) qXa (fun d=>(kj d,ul d,wr d,ip d,qr d,(vR (li d) (ap d,d.2.2.2.2.1.1,jp d,d.2.2.2.2.1.2.2.1,d.2.2.2.2.2.1.1)))) vM6 Ce FY (e3 yVv qSa yT1) zF
theorem vGp:Pa (jP 320 [.agg TA,.agg jZ,.c .i,.c (.dat false zG)] .bool (fun k d=>(Tz (QS k) d))):=fA f320 vCx (e3 yVv qSa yT1) (loops1 afi)
def yKa:zE:=⟨[(1,.c (.dat false zG)),sP 2 0,sP 5 1,sO 6 5,sI 16,sI 17],[oB jU,oB qV8,oA .i,oA .i,.mat,oA .i],[(6,none,.i,false)]⟩
def vD5:zE:=sp [sO 6 0] [oA .i]
def vKd (f:qZv)(d:yKa.den):=(vJ (f (kj d) (ge d) (Nh d)) d.2.1) (Ng d) (rg d) (be d) (ce d)
def qOz:=aea 0 yKa vD5 AC vKd FZ fun x=>(((),()),(x,()))
def yQg:=aia 4 qOz
theorem vVb:lc 37 (md f296 0) qOz:=lp (A:=yQg) qOz (fun d=>d.2.1) vKd FZ F0 (e3 yLd vIv vGp) zF
theorem Od:Pa (jP 296 [.agg jZ,.c (.dat false zG)] (.own .i) (fun k d=>(lU (Cf k) d))):=fA f296 yQg (e3 yLd vIv vGp) (loops1 vVb)
theorem Oe:Pa (jP 317 [.agg jZ,.c (.dat false zG)] .bool (fun k d=>(lU (Cg k) d))):=fA f317 ja (e2 vTa Od) zF
theorem yO0:Pa (jP 301 [.agg vN,.ptr jZ] .bool (fun k d=>(tH (Zo k) d))):=fA f301 ja (e1 yB8) zF
def vBu:zE:=sp [(0,.c (.dat false zG)),(1,.c (.lit (.fn 301 [1001000]))),sI 7,sI 8] [.robox jU]
def yJx (f:qV6)(d:vBu.den):=(vJ (f (kj d) (Id d) (wd d)) d.2.1)
def qYh:=aha 0 vBu yNc yJg Unit Int yJx Lk (fun x=>((),())) fun x=>(((x,()),()),())
def yKf:=aia 2 qYh
theorem afm:lc 19 (md f164 0) qYh:=lp (A:=yKf) qYh (fun d=>match d with|.inl d=>.inl ()|.inr d=>.inr (kj d)) yJx Lk Fy (e1 yO0) zF
theorem vWf:Pa (jP 164 [.c (.dat false zG),.fn 301 [jZ]] .i (fun k d=>(lU (Zp k) d))):=fA f164 yKf (e1 yO0) (loops1 afm)
theorem vLh:Pa (jP 146 [.c (.dat false zG),.fn 301 [jZ]] .bool (fun k d=>(lU (Qv k) d))):=fA f146 ja (e1 vWf) zF
theorem yP9:Pa (jP 129 [.agg oK] .bool (wG Y7)):=fA f129 ja (e1 vA2) zF
def yJq:zE:=sp [(0,.c (.dat false qT)),(1,.c (.lit (.fn 129 []))),sI 7,sI 8] []
def yJc (f:qT0)(d:yJq.den):=f (kj d) (Id d) (wd d)
def qRi:=aha 0 yJq yNc yJg Unit Int yJc K1 (fun x=>((),())) fun x=>(((x,()),()),())
def yRk:=aia 2 qRi
theorem afp:lc 19 (md f204 0) qRi:=lp (A:=yRk) qRi (fun d=>match d with|.inl d=>.inl ()|.inr d=>.inr (kj d)) yJc K1 Fg (e1 yP9) zF
theorem afr:Pa (jP 204 [.c (.dat false qT),.c (.fn 129)] .i (mD Y8)):=fA f204 yRk (e1 yP9) (loops1 afp)
theorem aft:Pa (jP 131 [.c (.dat false qT),.c (.fn 129)] .bool (mD Ql)):=fA f131 ja (e1 afr) zF
theorem vR9:Pa (jP 133 [.c .i] .bool (mD Y2)):=fA f133 ja e0 zF
theorem vNd:Pa (jP 205 [.c .i,.ptr [.fn 133]] .bool (mD Y9)):=fA f205 ja (e1 vR9) zF
def yMh:zE:=sp [(0,.c (.dat false .i)),(1,.c (.lit (.fn 205 [1001000]))),sI 7,sI 8] [.robox [.lit (.fn 133 [])]]
def yZf (f:qM8)(d:yMh.den):=f (kj d) (Id d) (wd d)
def qP3:=aha 0 yMh yNc yJg Unit Int yZf K2 (fun x=>((),())) fun x=>(((x,()),()),())
def yXc:=aia 2 qP3
theorem vN9:lc 19 (md f206 0) qP3:=lp (A:=yXc) qP3 (fun d=>match d with|.inl d=>.inl ()|.inr d=>.inr (kj d)) yZf K2 Fh (e1 vNd) zF
theorem afw:Pa (jP 206 [.c (.dat false .i),.fn 205 [[.fn 133]]] .i (mD Za)):=fA f206 yXc (e1 vNd) (loops1 vN9)
theorem afx:Pa (jP 137 [.c (.dat false .i),.fn 205 [[.fn 133]]] .bool (mD Qm)):=fA f137 ja (e1 afw) zF
theorem yF6:Pa (jP 134 [.c (.dat false .i),.c .i,.c (.fn 133)] .bool (P9 K4)):=fA f134 ja (e1 afx) zF
def yNq:zE:=sp [sI 1,(2,.c (.lit (.fn 133 []))),(13,.c (.dat false (.sl .i))),sI 14,sI 15] []
def yLr:zE:=sp [(6,.c .bool)] []
def yQw (f:qPp)(d:yNq.den):=f (kj d) (Id d) (wd d) (ge d)
def yD4:=aha 0 yNq yNc yLr Unit Bool yQw K5 (fun x=>((),())) fun x=>(((x,()),()),())
def yP4:=aia 4 yD4
theorem afy:lc 25 (md f132 0) yD4:=lp (A:=yP4) yD4 (fun d=>match d with|.inl d=>.inl ()|.inr d=>.inr (kj d)) yQw K5 Fj (e1 yF6) zF
theorem afz:Pa (jP 132 [.c (.dat false (.sl .i)),.c .i,.c (.fn 133)] .bool (P9 Qp)):=fA f132 yP4 (e1 yF6) (loops1 afy)
theorem vRi:Pa (jP 135 [.c .i] .bool (mD Qk)):=fA f135 ja e0 zF
theorem yWl:Pa (jP 205 [.c .i,.ptr [.fn 135]] .bool (mD Zb)):=fA f205 ja (e1 vRi) zF
def yMy:zE:=sp [(0,.c (.dat false .i)),(1,.c (.lit (.fn 205 [1001000]))),sI 7,sI 8] [.robox [.lit (.fn 135 [])]]
def vF1 (f:qM8)(d:yMy.den):=f (kj d) (Id d) (wd d)
def yGg:=aha 0 yMy yNc yJg Unit Int vF1 K3 (fun x=>((),())) fun x=>(((x,()),()),())
def yIr:=aia 2 yGg
theorem afB:lc 19 (md f206 0) yGg:=lp (A:=yIr) yGg (fun d=>match d with|.inl d=>.inl ()|.inr d=>.inr (kj d)) vF1 K3 Fi (e1 yWl) zF
theorem afD:Pa (jP 206 [.c (.dat false .i),.fn 205 [[.fn 135]]] .i (mD Zc)):=fA f206 yIr (e1 yWl) (loops1 afB)
theorem afF:Pa (jP 137 [.c (.dat false .i),.fn 205 [[.fn 135]]] .bool (mD Qn)):=fA f137 ja (e1 afD) zF
theorem yPp:Pa (jP 134 [.c (.dat false .i),.c .i,.c (.fn 135)] .bool (P9 Qo)):=fA f134 ja (e1 afF) zF
def yI5:zE:=sp [sI 1,(2,.c (.lit (.fn 135 []))),(13,.c (.dat false (.sl .i))),sI 14,sI 15] []
def vK7 (f:qPp)(d:yI5.den):=f (kj d) (Id d) (wd d) (ge d)
def yFa:=aha 0 yI5 yNc yLr Unit Bool vK7 K6 (fun x=>((),())) fun x=>(((x,()),()),())
def vLk:=aia 4 yFa
theorem vN2:lc 25 (md f132 0) yFa:=lp (A:=vLk) yFa (fun d=>match d with|.inl d=>.inl ()|.inr d=>.inr (kj d)) vK7 K6 Fk (e1 yPp) zF
theorem afI:Pa (jP 132 [.c (.dat false (.sl .i)),.c .i,.c (.fn 135)] .bool (P9 Qq)):=fA f132 vLk (e1 yPp) (loops1 vN2)
def yYn:zE:=sp [(0,.c (.dat false (.sl .i))),sI 3,(7,.c (.dat false (.sl .i))),sI 8,sI 9,(14,.c (.dat false .i)),sI 15,sI 16] []
def vAu:zE:=sp [(0,.c (.dat false (.sl .i))),(7,.c (.dat false (.sl .i))),sI 8,sI 9] []
def vDv (f:qYl)(d:yYn.den):=f (kj d) (pi d) (Id d) (wd d) (ge d) (Nh d) (ul d) (dl d)
def yFn:zU:=⟨[yYn],[(.exit 2,vAu),(.ret,yLj)],yDe,fun k d=>vDv (Fl k k) d,fun b x _ K=>match x with|.inl x=>K (.exit 2) (zM b vAu (((x.1,()),(x.2.1,()),(li x,()),(x.2.2.2,()),()),()))|.inr x=>K .ret (zM b yLj (((x,()),()),()))⟩
def yZn (f:qXj)(d:vAu.den):=f (kj d) (pi d) (Id d) (wd d)
def qPc:=aha 0 vAu yNc yLj Unit Bool yZn K7 (fun x=>((),())) fun x=>(((x,()),()),())
def yCs:zV:=⟨[],[(5,yFn),(2,qPc)],[],false⟩
theorem vTq:lc 33 (zR (md f136 0) 0) yFn:=lp (A:=yCs) yFn (fun d=>match d with|.inl d=>.inl (kj d,pi d,Id d,wd d)|.inr d=>.inr (kj d)) vDv Fl Fm e0 zF
theorem vV0:lc 33 (md f136 0) qPc:=lp (A:=yCs) qPc (fun d=>match d with|.inl d=>.inl ()|.inr d=>.inr (kj d)) yZn K7 Fo e0 (loops1 vTq)
theorem afK:Pa (jP 136 [.c (.dat false (.sl .i))] .bool (mD Qr)):=fA f136 yCs e0 (loops1 vV0)
theorem TB:Pa (jP 80 [.agg jZ] .bool (fun k d=>(vJ (Fp k) d))):=fA f80 ja (e5 aft afz yF6 afI afK) zF
def vAp:zE:=sp [sP 2 0,sP 4 1,sP 7 2,(24,.c (.dat false zG)),sI 25,sI 26] [oB wI,oB oL,oB tE,oA qT,.mat,oA .i,.mat]
def vAq:zE:=sp [sP 2 0,sP 4 1,sP 7 2] [oB wI,oB oL,oB tE,oA qT,.mat,oA .i,.mat]
def yR6 (f:qYi)(d:vAp.den):=(vJ (f (wd d) (ge d) (Nh d)) d.2.1) (rg d) (be d) (ce d) (If d)
def yA4:=aea 0 vAp vAq qWk yR6 FB fun x=>(((),(),(),()),((vR x ()),(),(),rg x,be x,ce x,x.2.2.2.2.2.2.2,()))
def yYe:=aia 6 yA4
theorem afL:lc 104 (md f272 0) yA4:=lp (A:=yYe) yA4 (fun d=>(vR d.2.1 (rg d,be d,ce d,If d))) yR6 FB FC (e4 vLh pM Tu TB) zF
theorem Dz:Pa (zH 272 [.agg lv,.c (.dat false zG)] (.tup [(true,nJ),(false,yH)]) (fun k d=>(lU (qu k) d)) (fun x=>(vI x ())) (fun d=>(yC d))):=fA f272 yYe (e4 vLh pM Tu TB) (loops1 afL)
def yS0:zE:=sp [sP 3 0,sP 6 1,sP 7 2,sO 15 3,sI 16,sI 17] [oB wI,oB wC,oB oL,oA zG]
def vMh:zE:=sp [sP 3 0,sP 6 1,sP 7 2] [oB wI,oB wC,oB oL]
def yMt:zE:=sp [sP 6 0,sP 7 1,(8,.c .bool)] [oB wC,oB wI]
def vH7 (f:qVo)(d:yS0.den):=(mM (vJ (f (ge d) (Nh d)) d.2.1) (li d)) (rg d)
def yCx:zU:=⟨[yS0],[(.exit 0,vMh),(.ret,yMt)],yDd,fun k d=>vH7 (L8 k k) d,fun b x _ K=>match x with|.inl x=>K (.exit 0) (zM b vMh (((),(),(),()),((vR x ()),(Of x ()),(),())))|.inr x=>K .ret (zM b yMt (((),(),(x.1,()),()),((qVk x ()),(afM x ()),())))⟩
def vMn:=aia 2 yCx
theorem vTi:lc 40 (md f294 0) yCx:=lp (A:=vMn) yCx (fun d=>match d with|.inl d=>.inl (vR d.2.1 (vV (li d)))|.inr d=>.inr (Id d,(ku d.2.1 (vH (li d))))) vH7 L8 GG (e3 Oc Oe Dz) zF
theorem vCh:Pa (zH 294 [.agg lv,.c (.dat true zG),.c .i] (.tup [(true,pL),(true,nJ),(false,[.bool])]) (fun k d=>(kz (Rg k) d)) (fun x=>(Ji x ())) (fun d=>(AO d))):=fA f294 vMn (e3 Oc Oe Dz) (loops1 vTi)
def yJs:zE:=⟨[sI 2,sP 6 0,(7,.c (.dat true zG)),sO 8 1],[oB wI,oA zG],[(8,none,zG,false)]⟩
def yZm:zE:=sp [sP 6 0,(7,.c (.dat true zG)),sO 8 1] [oB wI,oA zG]
def yTu (f:yE2)(d:yJs.den):=(vJ (f (kj d) (Id d)) d.2.1) (li d)
def qXt:zU:=⟨[yJs],[(.ret,yZm)],qRg,fun k d=>yTu (L9 k k) d,fun b x _ K=>K .ret (zM b yZm (((),(x.1,()),(),()),((iN x ()),pp x,())))⟩
def ySn:=aia 2 qXt
theorem vNs:lc 40 (md f267 0) qXt:=lp (A:=ySn) qXt (fun d=>(pi d,(vR d.2.1 (li d)))) yTu L9 GI (e2 vCh rH) zF
theorem yKs:Pa (zH 267 [.agg lv,.c (.dat true zG),.c .i] (.tup [(true,nJ),(false,[.fro zG]),(false,[.own zG])]) (fun k d=>(kz (Rh k) d)) (fun x=>(oM x ())) (fun d=>(nK d))):=fA f267 ySn (e2 vCh rH) (loops1 vNs)
def yHb:zE:=sp [sP 3 0,sP 6 1,sO 8 2,sP 10 3,sO 18 2,sI 19,sI 20,sO 24 2,sI 25,sI 26] [oB wI,oB TC,oA zG,oB wC]
def vH3:zE:=sp [sP 3 0,sP 6 1,sO 8 2,sO 18 2,sI 19,sI 20] [oB wI,oB TC,oA zG]
def vHp:zE:=sp [sP 6 0,(7,.c .bool)] [oB yKy]
def yUx (f:yDt)(d:yHb.den):=(mM ((Jd (vJ (f (Nh d) (ul d) d.1.2.2.2.2.2.2.2.2.1.1 d.1.2.2.2.2.2.2.2.2.2.1.1) d.2.1) (li d)) (Ng d)) (rg d))
def yEi:zU:=⟨[yHb],[(.exit 2,vH3),(.ret,vHp)],qUa,fun k d=>yUx (Ma k k) d,fun b x _ K=>match x with|.inl x=>K (.exit 2) (zM b vH3 (((),(),(),(),(x.1,()),(x.2.1,()),()),((Ti x ()),(afO x ()),x.2.2.2.2.2.2.2.2.2.2.2.2.2.2.2.2.2.2.2.2,())))|.inr x=>K .ret (zM b vHp (((),(x.1,()),()),((qQx x ()),())))⟩
def vJ2:zE:=sp [sP 6 0] [oB TC]
def yTf (f:qV3)(d:vH3.den):=(Jd (vJ (f (ge d) (Nh d)) d.2.1) (li d)) (Ng d)
def yEd:zU:=⟨[vH3],[(.exit 0,vJ2),(.ret,vHp)],yFo,fun k d=>yTf (Md k k) d,fun b x _ K=>match x with|.inl x=>K (.exit 0) (zM b vJ2 (((),()),((N3 x ()),())))|.inr x=>K .ret (zM b vHp (((),(x.1,()),()),((qQx x ()),())))⟩
def qR6:zV:=⟨[],[(6,yEi),(3,yEd)],[],false⟩
theorem vSt:lc 74 (zR (md f295 0) 0) yEi:=lp (A:=qR6) yEi (fun d=>match d with|.inl d=>.inl (ge d,Nh d,(vR d.2.1 (yA6 (li d) (Ng d))))|.inr d=>.inr (pi d,(jW d.2.1))) yUx Ma GL (e3 Oc Oe Dz) zF
theorem vYv:lc 74 (md f295 0) yEd:=lp (A:=qR6) yEd (fun d=>match d with|.inl d=>.inl (SZ d.2.1)|.inr d=>.inr (pi d,(jW d.2.1))) yTf Md GM (e3 Oc Oe Dz) (loops1 vSt)
theorem qS9:Pa (zH 295 [.agg lv,.c (.dat true zG),.c .i] (.tup [(true,[.i,.i,.i,.i,.i,.i,.i,.i,.i,.i,.i,.i,.i,.i,.fro qT,.fro (.sl .i),.fro .i,.fro (.sl .i)]),(false,[.bool])]) (fun k d=>(kz (Rj k) d)) (fun x=>(AG x ())) (fun d=>(TD d))):=fA f295 qR6 (e3 Oc Oe Dz) (loops1 vYv)
def vEq:zE:=⟨[sI 2,sP 6 0,(7,.c (.dat true zG)),sO 8 1,sO 33 2,sI 34,sI 35],[oB wI,oA zG,oA zG],[(8,none,zG,false)]⟩
def vB0:zE:=sp [sI 2,sP 6 0,(7,.c (.dat true zG)),sO 8 1] [oB wI,oA zG]
def vCm (f:qXy)(d:vEq.den):=(vJ (f (kj d) (Id d) (Nh d) (ul d)) d.2.1) (li d) (Ng d)
def qZr:=aea 2 vEq vB0 qZ2 vCm yk fun x=>(((x.1,()),(),(x.2.1,()),(),()),((Ti x ()),x.2.2.2.2.2.2,()))
def ySt (f:yE2)(d:yJs.den):=(vJ (f (kj d) (Id d)) d.2.1) (li d)
def qWw:zU:=⟨[yJs],[(.ret,yZm)],qRg,fun k d=>ySt (Me k k) d,fun b x _ K=>K .ret (zM b yZm (((),(x.1,()),(),()),((iN x ()),pp x,())))⟩
def qZz:zV:=⟨[],[(7,qZr),(2,qWw)],[],false⟩
theorem afQ:lc 52 (zR (md f268 0) 0) qZr:=lp (A:=qZz) qZr (fun d=>(kj d,Id d,(vR d.2.1 (li d)))) vCm yk yl (e2 qS9 rH) zF
theorem afR:lc 52 (md f268 0) qWw:=lp (A:=qZz) qWw (fun d=>(pi d,(vR d.2.1 (li d)))) ySt Me GN (e2 qS9 rH) (loops1 afQ)
theorem yIn:Pa (zH 268 [.agg lv,.c (.dat true zG),.c .i] (.tup [(true,nJ),(false,[.fro zG]),(false,[.own zG])]) (fun k d=>(kz (Rk k) d)) (fun x=>(oM x ())) (fun d=>(nK d))):=fA f268 qZz (e2 qS9 rH) (loops1 afR)
def yNr (f:yE2)(d:yJs.den):=(vJ (f (kj d) (Id d)) d.2.1) (li d)
def qZw:zU:=⟨[yJs],[(.ret,yZm)],qRg,fun k d=>yNr (Mo k k) d,fun b x _ K=>K .ret (zM b yZm (((),(x.1,()),(),()),((iN x ()),pp x,())))⟩
def vDg:=aia 2 qZw
theorem afT:lc 40 (md f230 0) qZw:=lp (A:=vDg) qZw (fun d=>(pi d,(vR d.2.1 (li d)))) yNr Mo Rr (e2 yKs yIn) zF
theorem afV:Pa (zH 230 [.agg lv,.c (.dat true zG),.c .i] (.tup [(true,nJ),(false,[.fro zG]),(false,[.own zG])]) (fun k d=>(kz (Mp k) d)) (fun x=>(oM x ())) (fun d=>(nK d))):=fA f230 vDg (e2 yKs yIn) (loops1 afT)
theorem afW:Pa (xO 297 false .i (.own .i) qM4):=fC f297 ja e0 zF
theorem vGh:Pa (yF 298 [.agg vN,.ptr true [.own .i]] (.c .bool) [[.own .i]] 0 (fun k d=>(mL (qOh k) d)) (fun x=>(x.1,x.2,())) (fun d=>(d.1,d.2.1))):=fX f298 ja 2 e0 zF
def yK3:zE:=⟨[(1,.c (.lit (.fn 298 [1001000]))),sO 5 2,(8,.c (.dat false zG)),sI 9,sI 10],[oB [.lit (.osl 1001001 none)],oA .i,oA zG],[(5,none,zG,false)]⟩
def yW2:zE:=sp [(1,.c (.lit (.fn 298 [1001000]))),sO 5 2] [oB [.lit (.osl 1001001 none)],oA .i,oA zG]
def vNj (f:qXi)(d:yK3.den):=f (Id d) (wd d) (ge d) (li d) (Ng d)
def qPz:=aea 0 yK3 yW2 qWc vNj GQ fun x=>(((),(),()),((),x.1,x.2,()))
def yK5:=aia 3 qPz
theorem vRs:zT prog 1000 2 23 (md f211 0) qPz:=lp (A:=yK5) qPz (fun d=>(li d,Ng d)) vNj GQ GR (e1 vGh) zF
theorem afX:Pa (yF 211 [.c (.p (.dat false zG)),.fn 298 [(true,[.own .i])]] (.c (.own zG)) [[.own .i]] 0 (P9 qOf) (fun x=>(x.1,x.2,())) (fun d=>(d.1,d.2.1))):=fX f211 yK5 2 (e1 vGh) (loops1 vRs)
theorem Jj:Pa (jP 270 [.c (.dat false zG),.c (.dat false .i)] (.own zG) (P9 GP)):=fA f270 ja (e2 afW afX) zF
def yHp:zE:=⟨[sP 3 0,sO 6 1,sI 7,sO 8 2,sI 18,sI 19],[oB jU,oA .i,oA zG],[(6,none,.i,false)]⟩
def yLq:zE:=sp [sP 3 0,sO 6 1,sI 7,sO 8 2] [oB jU,oA .i,oA zG]
def yPj (f:qY6)(d:yHp.den):=(vJ (f (Id d) (ge d) (Nh d)) d.2.1) (li d) (Ng d)
def TE:=aea 0 yHp yLq qRw yPj Ct fun x=>(((),(),(x.1,()),(),()),((iN x ()),be x,x.2.2.2.2.2.2,()))
def yRb:zE:=sp [sP 3 0,sO 6 1,sI 7,sO 8 2,sO 42 3,sI 43,sI 44] [oB jU,oA .i,oA zG,oA .i]
def yS4 (f:yA3)(d:yRb.den):=(vJ (f (Id d) (Nh d) (ul d)) d.2.1) (li d) (Ng d) (rg d)
def qM2:=aea 4 yRb yLq qRw yS4 GV fun x=>(((),(),(x.1,()),(),()),((iN x ()),be x,x.2.2.2.2.2.2,()))
def vNe:zE:=sp [sO 6 0,sI 7] [oA .i]
def vGs (f:qTt)(d:yLq.den):=(vJ (f (Id d)) d.2.1) (li d) (Ng d)
def TF:zU:=⟨[yLq],[(.ret,vNe)],(Int×AC),fun k d=>vGs (Mn k k) d,fun b x _ K=>K .ret (zM b vNe (((),(x.1,()),()),(x.2,())))⟩
def TG:zV:=⟨[],[(3,TE),(12,qM2),(7,TF)],[],false⟩
theorem vRw:lc 55 (md f269 0) TE:=lp (A:=TG) TE (fun d=>(Id d,(vR d.2.1 (li d,Ng d)))) yPj Ct GU (e4 Dy N8 Jj Od) zF
theorem vSi:lc 55 (zR (md f269 1) 0) qM2:=lp (A:=TG) qM2 (fun d=>(Id d,(vR d.2.1 (li d,Ng d)))) yS4 GV GW (e4 Dy N8 Jj Od) zF
theorem afZ:lc 55 (md f269 1) TF:=lp (A:=TG) TF (fun d=>(pi d,d.2.1)) vGs Mn GX (e4 Dy N8 Jj Od) (loops1 vSi)
theorem vAo:Pa (MC 269 [.agg jZ,.c (.dat false zG),.c .i] (.own .i) .i (fun k d=>(kz (Ro k) d))):=fA f269 TG (e4 Dy N8 Jj Od) (mq (n:=2) (by kernel_rfl) fun i hi=>match i,hi with|0,_=>⟨TE,by kernel_rfl,vRw⟩|1,_=>⟨TF,by kernel_rfl,afZ⟩|i+2,hi=>absurd hi (by omega))
def vIz:zE:=sp [sP 6 0,(7,.c (.dat true zG)),sO 11 1,sO 38 1,sI 39,sI 40] [oB wI,oA zG]
def yJ3:zE:=sp [sP 6 0,(7,.c (.dat true zG)),sO 11 1] [oB wI,oA zG]
def yPv (f:yBw)(d:vIz.den):=(vJ (f (pi d) (ge d) (Nh d)) d.2.1) (li d)
def qPi:=aea 0 vIz yJ3 qRg yPv Cu fun x=>(((),(x.1,()),(),()),((iN x ()),pp x,()))
def yLg:=aia 8 qPi
theorem af1:lc 56 (md f231 0) qPi:=lp (A:=yLg) qPi (fun d=>(pi d,(vR d.2.1 (li d)))) yPv Cu GY (e5 vAo Dy Jj Dz rH) zF
theorem af2:Pa (zH 231 [.agg lv,.c (.dat true zG),.c .i] (.tup [(true,nJ),(false,[.fro zG]),(false,[.own zG])]) (fun k d=>(kz (Cv k) d)) (fun x=>(oM x ())) (fun d=>(nK d))):=fA f231 yLg (e5 vAo Dy Jj Dz rH) (loops1 af1)
theorem vX3:Pa (zH 162 [.agg lv,.c (.dat true zG),.c .i,.c .bool] (.tup [(true,nJ),(false,[.fro zG]),(false,[.own zG])]) (fun k d=>(mM (yp k) d)) (fun x=>(oM x ())) (fun d=>(nK d))):=fA f162 ja (e2 afV af2) zF
def vI6:zE:=⟨[sO 3 0,sP 5 1,(8,.c (.dat false zG)),sI 9,sI 10,sO 18 2,sI 19,sI 20],[oA qK,oB wC,oA .i],[(3,none,qK,false)]⟩
def vMo:zE:=sp [sO 3 0,(8,.c (.dat false zG)),sI 9,sI 10] [oA qK]
def yLp (f:yBi)(d:vI6.den):=(mM (f (Id d) (wd d) (ge d) (ul d) (dl d) d.2.1) (li d)) (Ng d)
def qZl:=aea 2 vI6 vMo qX9 yLp yr fun x=>(((),(x.1,()),(x.2.1,()),(li x,()),()),(x.2.2.2,()))
def yQd:zE:=⟨[sO 3 0,(8,.c (.dat false zG)),sI 9,sI 10],[oA qK],[(3,none,qK,false)]⟩
def yI0:zE:=sp [sO 3 0] [oA qK]
def yNn (f:qUz)(d:yQd.den):=f (pi d) (Id d) (wd d) d.2.1
def qRa:=aea 0 yQd yI0 qOq yNn Mq fun x=>(((),()),(x,()))
def qM9:zV:=⟨[],[(6,qZl),(3,qRa)],[],false⟩
theorem vNo:lc 41 (zR (md f163 0) 0) qZl:=lp (A:=qM9) qZl (fun d=>(pi d,Id d,wd d,d.2.1)) yLp yr yt (e1 AV) zF
theorem af3:lc 41 (md f163 0) qRa:=lp (A:=qM9) qRa (fun d=>d.2.1) yNn Mq G1 (e1 AV) (loops1 vNo)
theorem af4:Pa (jP 163 [.c (.dat false zG)] (.own qK) (mD Rs)):=fA f163 qM9 (e1 AV) (loops1 af3)
theorem yEj:Pa (zH 90 [.agg AI,.c .bool] (.tup [(true,AK),(false,[.own qK])]) (fun k d=>(Og (u9 k) d)) (fun x=>(Ji x ())) (fun d=>(AO d))):=fA f90 ja (e2 vX3 af4) zF
def yZq:zE:=⟨[sP 2 0,sP 3 1,sP 4 2,sO 6 3,sO 7 4,(27,.c (.dat true zG)),sI 28,sI 29],[oB iL,oB gO,oB jT,oA qK,oA zG],[(6,none,qK,false),(7,none,zG,false)]⟩
def yWc:zE:=sp [sP 2 0,sP 3 1,sP 4 2,sO 6 3,sO 7 4] [oB iL,oB gO,oB jT,oA qK,oA zG]
def yV5 (f:qO0)(d:yZq.den):=(tH (lU (f (Nh d) (ul d) (dl d)) d.2.1) (li d)) (ap d) (un d) (co d) (rg d) (be d)
def qO3:=aea 0 yZq yWc yC3 yV5 G9 fun x=>(((),(),(),(),(),()),((fL x ()),(qQ2 x ()),(x.2.2.2.2.2.2.2.2.2.2.2.2.2.2.2.2.1,x.2.2.2.2.2.2.2.2.2.2.2.2.2.2.2.2.2.1,Fd x,()),Rd x,x.2.2.2.2.2.2.2.2.2.2.2.2.2.2.2.2.2.2.2.2,()))
def yJn:=aia 9 qO3
theorem af6:lc 66 (md f89 0) qO3:=lp (A:=yJn) qO3 (fun d=>(fL d.2.1 (AW (li d) (ap d,un d,co d,rg d,be d)))) yV5 G9 Ha (e6 Tv yTk vEx AV vFq yEj) zF
theorem af8:Pa (zH 89 [.agg ie,.agg AI] (.tup [(true,AK),(false,[.own qK])]) (fun k d=>(vBx (yv k) d)) (fun x=>(Ji x ())) (fun d=>(AO d))):=fA f89 yJn (e6 Tv yTk vEx AV vFq yEj) (loops1 af6)
theorem vU0:Pa (yF 152 [.ptr true AQ,.agg Oa] (.c .i) [lS] 0 (fun k d=>vM4 k (lT d) (yNa d)) (fun x=>(x.1,(jK x.2 ()))) (fun d=>(d.1,(ky d)))):=fX f152 n0 1 (e4 iM vFs yX0 Tn) zF
theorem vZj:Pa (yF 153 [.ptr true AQ,.agg vN] (.c .i) [lS] 0 (fun k d=>TH k (lT d) (Jf d)) (fun x=>(x.1,(jK x.2 ()))) (fun d=>(d.1,(ky d)))):=fX f153 n0 1 (e8 vKm rH yUd iM qX2 vD1 vI9 vE6) zF
theorem agb:Pa (yF 154 [.ptr true AQ,.agg vN] (.c .i) [lS] 0 (fun k d=>TI k (lT d) (Jf d)) (fun x=>(x.1,(jK x.2 ()))) (fun d=>(d.1,(ky d)))):=fX f154 n0 1 (e3 pM vJi iM) zF
theorem vS5:Pa (yF 155 [.ptr true AQ,.c (.p .i),.c (.p .i)] (.c .i) [lS] 0 (fun k d=>yPr k (lT d) (Fd d) (Rd d)) (fun x=>(x.1,(jK x.2 ()))) (fun d=>(d.1,(ky d)))):=fX f155 n0 1 (e6 Jg iM vIu Jh AU pM) zF
theorem vXo:Pa (yF 156 [.ptr true AQ,.c (.p .i),.c (.p .i),.c (.p .i)] (.c .i) [lS] 0 (fun k d=>HB k (lT d) (Fd d) (Rd d) d.2.2.2.2.2.2.2.2.2.2.2.2.2.2.2.2.2.2.2.2.1) (fun x=>(x.1,(jK x.2 ()))) (fun d=>(d.1,(ky d)))):=fX f156 n0 1 (e5 iM yHk ySm yLw pM) zF
def yOs:zE:=sp [sP 0 0,sO 7 1,sP 8 2,(40,.c (.dat true (.sl .i))),sI 41,sI 42] [oB qYp,oA .i,oB tE,oA qT,.mat,oA .i,.mat]
def yRg:zE:=sp [sP 0 0,sO 7 1,sP 8 2] [oB qYp,oA .i,oB tE,oA qT,.mat,oA .i,.mat]
def yV9:zE:=sp [sP 0 0,sI 6] [oB qYp]
def yQl (f:qMt)(d:yOs.den):=f (wd d) (ge d) (Nh d) (lT d.2.1) (li d) (rg d) (be d) (ce d) (If d)
def qOk:zU:=⟨[yOs],[(.exit 0,yRg),(.ret,yV9)],yCj,fun k d=>yQl (vq k k) d,fun b x _ K=>match x with|.inl x=>K (.exit 0) (zM b yRg (((),(),(),()),((vQ x.1 ()),x.2.1,(),li x,Ng x,rg x,pp x,())))|.inr x=>K .ret (zM b yV9 (((),(x.1,()),()),((vQ x.2 ()),())))⟩
def vFw:=aga 6 qOk
theorem vYl:zT prog 1000 1 81 (md f157 0) qOk:=lp (A:=vFw) qOk (fun d=>match d with|.inl d=>.inl ((lT d.2.1),li d,rg d,be d,ce d,If d)|.inr d=>.inr (pi d,(lT d.2.1))) yQl vq HG (e5 Jg iM Jh pM AU) zF
theorem agd:Pa (yF 157 [.ptr true AQ,.c (.p .i),.c (.p .i)] (.c .i) [lS] 0 (fun k d=>RW k (lT d) (Fd d) (Rd d)) (fun x=>(x.1,(jK x.2 ()))) (fun d=>(d.1,(ky d)))):=fX f157 vFw 1 (e5 Jg iM Jh pM AU) (loops1 vYl)
theorem age:Pa (yF 88 [.ptr true AQ,.agg vN] (.c .i) [lS] 0 (fun k d=>H6 k (lT d) (Jf d)) (fun x=>(x.1,(jK x.2 ()))) (fun d=>(d.1,(ky d)))):=fX f88 n0 1 (e6 vU0 vZj agb vS5 vXo agd) zF
theorem Oh:Pa (zH 41 [.agg AH,.agg AI,.agg AJ] (.tup [(true,AK),(false,[.own qK]),(false,yH)]) (fun k d=>H8 k (yC d) (iJ d) (yG7 d)) (fun x=>(vD x.1 (x.2.1,x.2.2,()))) (fun d=>((qO d),Pi d,Fn d))):=fA f41 n0 (e9 adL vUs yUd vU5 af8 yEj AR vH2 age) zF
theorem TJ:Pa (yF 42 [.chn [NV,lR],.c (.p (.dat false (.int .u8)))] (.c .i) [NW,jh] 0 (fun k d=>oE k (AM d) (Dv d) (lm d)) (fun x=>(x.1,(),(vZ x.2.1 (wL x.2.2 ())))) (fun d=>(d.1,(NX d),(NY d)))):=fX f42 n0 0 (e1 yYm) zF
theorem yKv:Pa (jP 138 [.c .i] .bool (mD qMv)):=fA f138 n0 (e1 iM) zF
def yMj:zE:=sp [(0,.c (.dat false .i)),(1,.c (.lit (.fn 138 []))),sI 7,sI 8] []
def ySj (f:qM8)(d:yMj.den):=f (kj d) (Id d) (wd d)
def qZ6:=aha 0 yMj yNc yJg Unit Int ySj C9 (fun x=>((),())) fun x=>(((x,()),()),())
def yQt:=aia 2 qZ6
theorem agi:lc 19 (md f206 0) qZ6:=lp (A:=yQt) qZ6 (fun d=>match d with|.inl d=>.inl ()|.inr d=>.inr (kj d)) ySj C9 Is (e1 yKv) zF
theorem vR4:Pa (jP 206 [.c (.dat false .i),.c (.fn 138)] .i (mD qX1)):=fA f206 yQt (e1 yKv) (loops1 agi)
theorem vC1:Pa (jP 137 [.c (.dat false .i),.c (.fn 138)] .bool (mD Ns)):=fA f137 ja (e1 vR4) zF
theorem yWy:Pa (jP 140 [.c .i] .bool (mD qQo)):=fA f140 n0 e0 zF
def vMe:zE:=sp [(0,.c (.dat false .i)),(1,.c (.lit (.fn 140 []))),sI 7,sI 8] []
def vE0 (f:qM8)(d:vMe.den):=f (kj d) (Id d) (wd d)
def qQf:=aha 0 vMe yNc yJg Unit Int vE0 Da (fun x=>((),())) fun x=>(((x,()),()),())
def yRp:=aia 2 qQf
theorem vWj:lc 19 (md f206 0) qQf:=lp (A:=yRp) qQf (fun d=>match d with|.inl d=>.inl ()|.inr d=>.inr (kj d)) vE0 Da Iu (e1 yWy) zF
theorem agk:Pa (jP 206 [.c (.dat false .i),.c (.fn 140)] .i (mD qOp)):=fA f206 yRp (e1 yWy) (loops1 vWj)
theorem yLy:Pa (jP 137 [.c (.dat false .i),.c (.fn 140)] .bool (mD Sp)):=fA f137 ja (e1 agk) zF
def yPs:zE:=sp [sP 2 0,sP 3 1,(28,.c (.dat false (.sl .i))),sI 29,sI 30] [oB iL,oB lQ]
def vDt:zE:=sp [(4,.c .bool)] []
def vFg (f:yD1)(d:yPs.den):=f (Id d) (wd d) (ge d) (yC d.2.1) (qO (li d))
def qRd:=aha 0 yPs yNc vDt Unit Bool vFg Ax (fun x=>((),())) fun x=>(((x,()),()),())
def yM1:=aga 6 qRd
theorem agm:lc 66 (md f81 0) qRd:=lp (A:=yM1) qRd (fun d=>match d with|.inl d=>.inl ()|.inr d=>.inr (kj d)) vFg Ax Iv (e3 vC1 AU yLy) zF
theorem vAk:Pa (jP 81 [.agg ie,.agg nI] .bool (fun k d=>Nt k (yC d) (iJ d))):=fA f81 yM1 (e3 vC1 AU yLy) (loops1 agm)
def vI5:zE:=sp [(0,.c (.dat false zG)),(1,.c (.lit (.fn 210 []))),sI 5] []
def yXu (f:qR2)(d:vI5.den):=f (kj d) (Id d)
def qZu:=aha 0 vI5 yNc vDt Unit Bool yXu C6 (fun x=>((),())) fun x=>(((x,()),()),())
def yQa:=aga 2 qZu
theorem vYp:lc 25 (md f209 0) qZu:=lp (A:=yQa) qZu (fun d=>match d with|.inl d=>.inl ()|.inr d=>.inr (kj d)) yXu C6 Sn (e1 Je) zF
theorem yR1:Pa (jP 209 [.c (.dat false zG),.c (.fn 210)] .bool (mD Sm)):=fA f209 yQa (e1 Je) (loops1 vYp)
def yPd:zE:=sp [(0,.c (.dat false zG)),(5,.c (.dat false zG)),sI 6,sI 7] []
def yIj:zE:=sp [(0,.c (.dat false zG))] []
def vBh (f:qOg)(d:yPd.den):=f (kj d) (pi d) (Id d) (wd d)
def qOo:zU:=⟨[yPd],[(.exit 0,yIj),(.ret,yLj)],yAc,fun k d=>vBh (C5 k k) d,fun b x _ K=>match x with|.inl x=>K (.exit 0) (zM b yIj (((x,()),()),()))|.inr x=>K .ret (zM b yLj (((x,()),()),()))⟩
def yMs:=aia 2 qOo
theorem ago:lc 26 (md f144 0) qOo:=lp (A:=yMs) qOo (fun d=>match d with|.inl d=>.inl (kj d)|.inr d=>.inr (kj d)) vBh C5 Ip (e2 AR yR1) zF
theorem agq:Pa (jP 144 [.c (.dat false zG)] .bool (mD No)):=fA f144 yMs (e2 AR yR1) (loops1 ago)
def yH1:zE:=sp [(0,.c (.dat false .i)),sI 3,(6,.c (.dat false .i)),sI 7,sI 8] []
def yJz:zE:=sp [(0,.c (.dat false .i))] []
def yIq (f:qNk)(d:yH1.den):=f (kj d) (pi d) (Id d) (wd d) (ge d)
def yEw:=aha 0 yH1 yJz yLj AC Bool yIq C7 (fun x=>(((x,()),()),())) fun x=>(((x,()),()),())
def yMb:=aga 3 yEw
theorem agr:lc 20 (md f145 0) yEw:=lp (A:=yMb) yEw (fun d=>match d with|.inl d=>.inl (kj d)|.inr d=>.inr (kj d)) yIq C7 Iq e0 zF
theorem agt:Pa (jP 145 [.c (.dat false .i)] .bool (mD Np)):=fA f145 yMb e0 (loops1 agr)
theorem vZs:Pa (jP 143 [.c (.dat false .i),.c .i] .bool (P9 Q9)):=fA f143 n0 (e1 yS1) zF
theorem ySz:Pa (jP 141 [.agg vN,.ptr nI] .bool (fun k d=>So k (vV d) (agv d))):=fA f141 n0 (e3 yB8 iM vZs) zF
def yHj:zE:=sp [(0,.c (.dat false zG)),(1,.c (.lit (.fn 141 [1001000]))),sI 7,sI 8] [.robox lQ]
def yPk (f:yGr)(d:yHj.den):=(tH (f (kj d) (Id d) (wd d)) d.2.1)
def yG0:=aha 0 yHj yNc yJg Unit Int yPk C8 (fun x=>((),())) fun x=>(((x,()),()),())
def yIx:=aia 2 yG0
theorem agw:lc 19 (md f164 0) yG0:=lp (A:=yIx) yG0 (fun d=>match d with|.inl d=>.inl ()|.inr d=>.inr (kj d)) yPk C8 Ir (e1 ySz) zF
theorem vTg:Pa (jP 164 [.c (.dat false zG),.fn 141 [nI]] .i (fun k d=>(Og (qPj k) d))):=fA f164 yIx (e1 ySz) (loops1 agw)
theorem agy:Pa (jP 146 [.c (.dat false zG),.fn 141 [nI]] .bool (fun k d=>(Og (Nr k) d))):=fA f146 ja (e1 vTg) zF
theorem yX4:Pa (jP 82 [.agg nI] .bool (fun k d=>Nq k (qO d))):=fA f82 n0 (e3 agq agt agy) zF
def vHl:zE:=⟨[sP 2 0,sP 3 1,sO 5 2,(44,.c (.dat false qT)),sI 45,sI 46],[oB iL,oB lQ,oA .i],[(5,none,.i,false)]⟩
def yZz:zE:=sp [sP 2 0,sP 3 1,sO 5 2] [oB iL,oB lQ,oA .i]
def vFj (f:qOb)(d:vHl.den):=f (wd d) (ge d) (Nh d) (yC d.2.1) (qO (li d)) (Ng d)
def qP9:=aea 0 vHl yZz qOj vFj Iw fun x=>(((),(),(),()),((vI x.1 ()),(vD x.2.1 ()),x.2.2,()))
def ySh:=aga 5 qP9
theorem agz:lc 92 (md f39 0) qP9:=lp (A:=ySh) qP9 (fun d=>((yC d.2.1),(qO (li d)),Ng d)) vFj Iw Ix (e6 iM TB vAk yX4 Tt Tv) zF
theorem TK:Pa (jP 39 [.agg ie,.agg nI] .bool (fun k d=>Db k (yC d) (iJ d))):=fA f39 ySh (e6 iM TB vAk yX4 Tt Tv) (loops1 agz)
def vNc:zE:=⟨[sP 1 0,sI 2,sP 3 3,(12,.c .bool),sP 13 4,sP 17 5,(72,.c (.dat true (.sl (.int .u8)))),sI 73,sI 74],[oB yNy,oA (.int .u8),oA (.int .u8),oB pI,oB SR,oB gO],[(17,some 1,.bool,true),(17,some 2,.bool,true),(17,some 3,.bool,true),(17,some 4,.bool,true),(17,some 5,.bool,true),(17,some 6,.bool,true),(17,some 7,.bool,true),(17,some 8,.bool,true)]⟩
def yTp:zE:=sp [sP 1 0,sI 2,sP 3 3,(12,.c .bool),sP 13 4,sP 17 5] [oB yNy,oA (.int .u8),oA (.int .u8),oB pI,oB SR,oB gO]
def yWb (f:qZn)(d:vNc.den):=f (pi d) (wd d) (ul d) (dl d) d.1.2.2.2.2.2.2.2.2.1.1 (ig d.2.1) (li d) (Ng d) (yC (rg d)) (vH (be d)) (qO (ce d))
def qZt:=aea 0 vNc yTp qZq yWb tB fun x=>(((),(x.1,()),(),(x.2.1,()),(),(),()),((wm (li x) ()),Ng x,rg x,(vI (be x) ()),(vZ (ce x) ()),(vD x.2.2.2.2.2.2.2 ()),()))
def yHd:=aga 11 qZt
theorem vYj:zT prog 1000 2 112 (md f13 0) qZt:=lp (A:=yHd) qZt (fun d=>(pi d,wd d,(ig d.2.1),li d,Ng d,(yC (rg d)),(vH (be d)),(qO (ce d)))) yWb tB IQ (I6 S1 yE5 S7 wo yK9 Tf Th Oh TJ TK) zF
theorem yNe:Pa (uG 13 [.agg AH,.ptr true lR,.c (.p .i)] (.tup [(false,[.link 1]),(false,yH)]) [jh,[.link 2,.i,.fro wK,.i,.i,.i,.i,.fro qT,.fro (.sl .i),.fro .i,.fro (.sl .i),.fro .i,.fro (.sl .i),.fro zG,.fro .i,.i,.bool,.i,.bool],SS] 2 (.tup [(false,[.nilp]),(false,yH)]) [jh] 0 (fun k d=>wi k (yC d) (Dv d) (lm d)) (fun x=>((),x.1,(wL x.2.1 ((),(jK (li x) ((),(vZ x.2.2.2 ()))))))) (fun x=>((),x.1,(wL x.2 ()))) (fun d=>(d.2.1,(SU d),(agB d),(yJe d))) (fun d=>(d.2.1,(SU d)))):=fN f13 yHd 2 (I6 S1 yE5 S7 wo yK9 Tf Th Oh TJ TK) (loops1 vYj)
theorem qR5:Pa (yF 17 [.chn [TL,I7,lR]] (.c .bool) [TM,I8,jh] 0 (fun k d=>xU k (ky d) (I9 d) (Ja d)) (fun x=>(x.1,(),(jK x.2.1 ((),(vZ (li x) (wL x.2.2.2 ())))))) (fun d=>(d.1,(qZj d),(N1 d),(N2 d)))):=fX f17 n0 0 e0 zF
theorem vJ3:Pa (jP 43 [.c .i,.c .i] (.own qK) (P9 Oi)):=fA f43 n0 e0 zF
theorem agD:Pa (jP 93 [.agg vN] (.own (.int .u8)) (fun k d=>yA0 k (vV d))):=fA f93 ⟨[1],[],[],true⟩ (e3 vI3 Tg S8) zF
theorem agF:Pa (jP 45 [.agg AJ] (.own (.int .u8)) (fun k d=>SB k (ig d))):=fA f45 n0 (e2 agD S8) zF
theorem agH:Pa (yF 92 [.chn [NV,lR],.c (.p (.dat false (.int .u8)))] (.c .i) [NW,jh] 0 (fun k d=>zc k (AM d) (Dv d) (lm d)) (fun x=>(x.1,(),(vZ x.2.1 (wL x.2.2 ())))) (fun d=>(d.1,(NX d),(NY d)))):=fX f92 n0 0 (e3 vE7 vEr yHo) zF
theorem vQe:Pa (yF 44 [.chn [TL,I7,lR],.c (.p (.dat false (.int .u8)))] (.c .i) [TM,I8,jh] 0 (fun k d=>SD k (ky d) (I9 d) (Ja d) d.2.2.2.2.2.2.2.2.2.2.2.2.2.2.2.2.2.2.2.2.2.2.2.2.2.2.2.2.2.2.2.2.2.2.1) (fun x=>(x.1,(),(jK x.2.1 ((),(vZ (li x) (wL x.2.2.2 ())))))) (fun d=>(d.1,(qZj d),(N1 d),(N2 d)))):=fX f44 n0 0 (e3 agH wo TJ) zF
theorem agI:Pa (yF 46 [.chn [NV,lR]] (.c .i) [NW,jh] 0 (fun k d=>qUf k (AM d) (Dv d)) (fun x=>(x.1,(),(vZ x.2.1 (wL x.2.2 ())))) (fun d=>(d.1,(NX d),(NY d)))):=fX f46 n0 0 e0 zF
theorem yXo:Pa (yF 14 [.chn [TL,I7,lR],.c (.p .i),.c (.p (.dat false (.int .u8)))] (.c (.own qK)) [TM,I8,jh] 0 (fun k d=>xT k (ky d) (I9 d) (Ja d) d.2.2.2.2.2.2.2.2.2.2.2.2.2.2.2.2.2.2.2.2.2.2.2.2.2.2.2.2.2.2.2.2.2.2.1 d.2.2.2.2.2.2.2.2.2.2.2.2.2.2.2.2.2.2.2.2.2.2.2.2.2.2.2.2.2.2.2.2.2.2.2.1) (fun x=>(x.1,(),(jK x.2.1 ((),(vZ (li x) (wL x.2.2.2 ())))))) (fun d=>(d.1,(qZj d),(N1 d),(N2 d)))):=fX f14 n0 0 (e9 qR5 N7 vJ3 Oh agF vQe agI wo TJ) zF
theorem vNb:Pa (jP 50 [.agg AJ] .bool (fun k d=>qT2 k (ig d))):=fA f50 n0 e0 zF
def vBo:zE:=sp [(0,.c (.dat false qK)),(1,.c (.lit (.fn 50 []))),sI 7,sI 8] []
def vAg (f:qMw)(d:vBo.den):=f (kj d) (Id d) (wd d)
def qO4:=aha 0 vBo yNc yJg Unit Int vAg NL (fun x=>((),())) fun x=>(((x,()),()),())
def vMy:=aga 2 qO4
theorem vR1:lc 19 (md f95 0) qO4:=lp (A:=vMy) qO4 (fun d=>match d with|.inl d=>.inl ()|.inr d=>.inr (kj d)) vAg NL IV (e1 vNb) zF
theorem agL:Pa (jP 95 [.c (.dat false qK),.c (.fn 50)] .i (mD qWz)):=fA f95 vMy (e1 vNb) (loops1 vR1)
theorem vT4:Pa (jP 49 [.c (.dat false qK),.c (.fn 50)] .bool (mD qRe)):=fA f49 n0 (e1 agL) zF
theorem vGu:Pa (jP 16 [.c (.dat false qK)] .bool (mD NK)):=fA f16 n0 (e1 vT4) zF
theorem vMk:Pa (yF 18 [.ptr true lR,.agg [.i,.i]] (.tup []) [jh] 0 (fun k d=>IU k (wB d) (ci d,Pi d)) (fun x=>(wL x ())) (fun d=>(wB d))):=fX f18 n0 1 e0 zF
theorem vLz:Pa (yF 19 [.ptr true lR] (.tup []) [jh] 0 (fun k d=>Dn k (wB d)) (fun x=>(wL x ())) (fun d=>(wB d))):=fX f19 ⟨[],[],[(2,3)],true⟩ 1 e0 (BM (n:=1) (by kernel_rfl) fun i hi=>match i,hi with|0,_=>.inr ⟨by kernel_rfl,zF⟩|i+1,hi=>absurd hi (by omega))
theorem yE9:Pa (jP 17 [.c (.nilp)] .bool (fun k d=>IX k)):=fA f17 n0 e0 zF
theorem vLp:Pa (jP 14 [.c (.nilp),.c .i,.c (.dat false (.int .u8))] (.own qK) (fun k d=>qYn k d.2.1 (li d))):=fA f14 n0 (e3 yE9 N7 vJ3) zF
theorem vCj:Pa (zH 20 [.c (.nilp)] (.agg qZh) (fun k d=>qVa k) (fun x=>(vD x ())) (fun d=>(qO d))):=fA f20 n0 e0 zF
theorem yI8:Pa (yF 20 [.chn [TL,I7,lR]] (.agg AK) [TM,I8,jh] 0 (fun k d=>qZd k (ky d) (I9 d) (Ja d)) (fun x=>(vD x.1 ((),(jK x.2.1 ((),(vZ (li x) (wL x.2.2.2 ()))))))) (fun d=>((qO d),(agR d),(agS d),(agT d)))):=fX f20 n0 0 e0 zF
theorem agU:Pa (jP 120 [.c (.nilp),.c .i] (.own (.int .u8)) (fun k d=>vGx k d.2.1)):=fA f120 n0 e0 zF
theorem agW:Pa (zH 69 [.c (.nilp),.c .i] (.tup [(false,yH),(false,[.fro (.int .u8)]),(false,AP)]) (fun k d=>TN k d.2.1) (fun x=>(x.1,x.2.1,x.2.2,())) (fun d=>(d.1,d.2.1,li d))):=fA f69 n0 (e3 agU yXk N5) zF
theorem vEb:Pa (zH 34 [.c (.nilp)] (.tup [(false,yH),(false,yH),(false,[.fro (.int .u8)]),(false,AP),(false,[.bool])]) (fun k d=>qOi k) (fun x=>(vI x ())) (fun d=>(d.1,d.2.1,li d,Ng d,rg d))):=fA f34 ⟨[],[],[(2,3)],true⟩ (e1 agW) (BM (n:=1) (by kernel_rfl) fun i hi=>match i,hi with|0,_=>.inr ⟨by kernel_rfl,zF⟩|i+1,hi=>absurd hi (by omega))
theorem vHd:Pa (yF 35 [.c (.p (.nilp)),.c (.p (.dat false (.int .u8)))] (.tup [(false,[.nilp]),(false,[.own (.int .u8)]),(false,[.own (.sl (.int .u8))]),(false,yH)]) [] 0 (fun k d=>yIw k d.2.1) (fun x=>((),x.1,x.2.1,x.2.2,())) (fun d=>(d.2.1,li d,Ng d))):=fX f35 n0 0 e0 zF
theorem vH5:Pa (jP 42 [.c (.nilp),.c (.dat false (.int .u8))] .i (fun k d=>TO k d.2.1)):=fA f42 n0 e0 zF
def yKo:zE:=⟨[sI 2,sP 3 0,(12,.c .bool),(13,.c (.lit .nilp)),sP 17 1,sO 72 2,sI 73,sI 74],[oB pI,oB gO,oA (.sl (.int .u8))],[(17,some 1,.bool,true),(17,some 2,.bool,true),(17,some 3,.bool,true),(17,some 4,.bool,true),(17,some 5,.bool,true),(17,some 6,.bool,true),(17,some 7,.bool,true),(17,some 8,.bool,true)]⟩
def vH0:zE:=sp [sI 2,sP 3 0,(12,.c .bool),(13,.c (.lit .nilp)),sP 17 1] [oB pI,oB gO]
def yWu (f:yB4)(d:yKo.den):=f (kj d) (Id d) (ul d) (dl d) (yC d.2.1) (qO (li d)) (Ng d)
def yDo:=aea 0 yKo vH0 yF9 yWu Oj fun x=>(((x.1,()),(),(x.2.1,()),(),(),()),((vI (li x) ()),(vD x.2.2.2 ()),()))
def yQc:=aga 11 yDo
theorem agZ:lc 112 (md f13 0) yDo:=lp (A:=yQc) yDo (fun d=>(kj d,Id d,(yC d.2.1),(qO (li d)))) yWu Oj yIy (I6 S1 vEb S7 wo vHd Tf Th Oh vH5 TK) zF
theorem yKc:Pa (yF 13 [.agg AH,.c (.p (.nilp)),.c (.p .i)] (.tup [(false,[.nilp]),(false,yH)]) [] 0 (fun k d=>NO k (yC d) (ce d)) (fun x=>((),x,())) (fun d=>d.2.1)):=fX f13 yQc 0 (I6 S1 vEb S7 wo vHd Tf Th Oh vH5 TK) (loops1 agZ)
def yTb:zE:=⟨[sI 2,sP 4 0,sP 8 1,sP 9 2,sP 10 5,sP 12 7,(30,.c (.dat false tF)),sI 31,sI 32],[oB pI,oB AN,oB yWq,oA (.int .u8),oA (.int .u8),oB [.lit (.ptr 1001006 0),.i,.dat true wK,.i,.i,.i,.i,.dat true qT,.dat true (.sl .i),.dat true .i,.dat true (.sl .i),.dat true .i,.dat true (.sl .i),.dat true zG,.dat true .i,.i,.bool,.i,.bool],oB [.lit (.ptr 1001002 0),.i,.i,.i,.bool],oB [.lit (.osl 1001008 none),.lit (.osl 1001009 none),.i,.lit .nsl,.lit .nsl,.lit .nsl,.lit .nsl,.lit .nsl,.lit .nsl,.lit .nsl,.lit .nsl,.i,.bool,.bool],oA (.sl qK),oA qK],[(12,some 0,(.sl qK),false),(12,some 1,qK,false)]⟩
def vBe:zE:=⟨[sI 2,sP 4 0,sP 8 1,sP 9 2,(10,.c (.lit .nilp)),sP 12 5,(30,.c (.dat false tF)),sI 31,sI 32],[oB pI,oB AN,oB yWq,oA (.int .u8),oA (.int .u8),oB [.lit (.osl 1001006 none),.lit (.osl 1001007 none),.i,.lit .nsl,.lit .nsl,.lit .nsl,.lit .nsl,.lit .nsl,.lit .nsl,.lit .nsl,.lit .nsl,.i,.bool,.bool],oA (.sl qK),oA qK],[(12,some 0,(.sl qK),false),(12,some 1,qK,false)]⟩
def vC3:zE:=sp [sP 8 0,(10,.c (.lit .nilp)),sP 12 1] [oB AN,oB yGl,oA (.sl qK),oA qK]
def yVi:zE:=sp [sP 8 0,sP 10 1,sP 12 6] [oB AN,oB [.lit (.ptr 1001002 0),.i,.dat true wK,.i,.i,.i,.i,.dat true qT,.dat true (.sl .i),.dat true .i,.dat true (.sl .i),.dat true .i,.dat true (.sl .i),.dat true zG,.dat true .i,.i,.bool,.i,.bool],oB [.lit (.ptr 1001003 0),.i,.i,.i,.bool],oB [.i,.lit (.osl 1001004 none),.i,.lit (.osl 1001005 none),.i,.i,.i,.bool,.bool,.i],oA (.int .u8),oA (.int .u8),oB [.lit (.osl 1001007 none),.lit (.osl 1001008 none),.i,.lit .nsl,.lit .nsl,.lit .nsl,.lit .nsl,.lit .nsl,.lit .nsl,.lit .nsl,.lit .nsl,.i,.bool,.bool],oA (.sl qK),oA qK]
def vJ4 (f:qYq)(d:pP [yTb,vBe]):Option TP:=match d with|.inl d=>f (.inl (kj d,ul d,dl d,d.1.2.2.2.2.2.2.2.2.1.1,(yC d.2.1),(vH (li d)),(ig (Ng d)),rg d,be d,(jW (ce d)),(vH (If d)),(vH (ii d)),wl d,ci d))|.inr d=>f (.inr (kj d,ul d,dl d,d.1.2.2.2.2.2.2.2.2.1.1,(yC d.2.1),(vH (li d)),(ig (Ng d)),rg d,be d,(vH (ce d)),If d,ii d))
def yAj:zU:=⟨[yTb,vBe],[(.exit 0,vC3),(.exit 0,yVi)],TP,fun k d=>vJ4 (rF k k) d,fun b x _ K=>match x with|.inl x=>K (.exit 0) (zM b vC3 (((),(),(),()),((vZ x.1 ()),(vZ x.2.1 ()),li x,x.2.2.2,())))|.inr x=>K (.exit 0) (zM b yVi (((),(),(),()),((vZ x.1 ()),(jK x.2.1 ()),(vZ (li x) ()),(wm (Ng x) ()),rg x,be x,(vZ (ce x) ()),If x,x.2.2.2.2.2.2.2.2,())))⟩
def yXq:=aga 7 yAj
theorem ag1:lc 110 (md f6 0) yAj:=lp (A:=yXq) yAj (fun d=>match d with|.inl d=>.inl ((vH d.2.1),(vH (li d)),Ng d,rg d)|.inr d=>.inr ((vH d.2.1),(jW (li d)),(vH (Ng d)),(ig (rg d)),be d,ce d,(vH (If d)),ii d,wl d)) vJ4 rF mJ (e13 F2q yNe yXo N7 vGu qR5 vMk vLz vLp yE9 vCj yI8 yKc) zF (hs:=by intro k rec d;rcases d with d|d<;>kernel_rfl) (h0:=by intro k d;rcases d with d|d<;>rfl)
def yEc:=(zH 6 [.agg AH,.c .i,.c .i,.c (.dat false tF)] (.agg yN2) (fun k d=>IY k (yC d) (be d) (ce d) (If d)) (fun x=>(N3 x ())) (fun d=>(SZ d)))
theorem yRl:Pa yEc:=fA f6 yXq (e13 F2q yNe yXo N7 vGu qR5 vMk vLz vLp yE9 vCj yI8 yKc) (loops1 ag1)
theorem vI8:Pa (uG 21 [.c (.p .i)] (.c (.link 0)) [lP] 1 (.c (.nilp)) [] 0 (mD qVy) (fun x=>((),(wL x ()))) (fun x=>((),())) (fun d=>(pJ d)) (fun d=>())):=fN f21 n0 0 e0 zF
theorem yV1:Pa (jP 96 [.c .i,.c .i,.c .i] .bool (wG Jk)):=fA f96 n0 e0 zF
def ySb:zE:=sp [sP 1 0,sI 3] [oB iL]
def vMz:zE:=sp [sP 1 0] [oB iL]
def yK2 (f:yA1)(d:ySb.den):=f (pi d) (yC d.2.1)
def qTj:zU:=⟨[ySb],[(.exit 0,vMz),(.ret,yLj)],qSj,fun k d=>yK2 (qRq k k) d,fun b x _ K=>match x with|.inl x=>K (.exit 0) (zM b vMz (((),()),((vI x ()),())))|.inr x=>K .ret (zM b yLj (((x,()),()),()))⟩
def vAc:=aga 4 qTj
theorem ag3:lc 58 (md f51 0) qTj:=lp (A:=vAc) qTj (fun d=>match d with|.inl d=>.inl (yC d.2.1)|.inr d=>.inr (kj d)) yK2 qRq ySe (e1 yV1) zF
theorem vEv:Pa (jP 51 [.agg ie] .bool (fun k d=>NI k (yC d))):=fA f51 vAc (e1 yV1) (loops1 ag3)
theorem ag4:Pa (jP 167 [.ptr TQ,.c .i] (.own (.int .u8)) (fun k d=>qU2 k (wB d) (ci d))):=fA f167 n0 e0 zF
def vIc:zE:=⟨[(0,.c (.dat false (.int .u8))),sO 4 0],[oA (.sl (.int .u8))],[(4,none,(.sl (.int .u8)),false)]⟩
def yRe:zE:=sp [(0,.c (.dat false (.int .u8))),sO 4 0] [oA (.sl (.int .u8))]
def yYl (f:qM0)(d:vIc.den):=f (kj d) d.2.1
def yF3:=aea 0 vIc yRe qUj yYl Nx fun x=>(((x.1,()),(),()),(x.2,()))
def yOu:=aga 2 yF3
theorem vRb:lc 44 (md f166 0) yF3:=lp (A:=yOu) yF3 (fun d=>(kj d,d.2.1)) yYl Nx Sw e0 zF
theorem ag6:Pa (MC 166 [.c (.dat false (.int .u8))] (.own (.sl (.int .u8))) .i (mD yGw)):=fA f166 yOu e0 (loops1 vRb)
def vL4:zE:=sp [(0,.c (.dat false (.int .u8))),(3,.c (.int .u64)),sI 4] []
def vMf:zE:=sp [(3,.c (.int .u64))] []
def yHi (f:AC→Int→Int→Option Int)(d:vL4.den):=f (kj d) (pi d) (Id d)
def qR0:=aea 0 vL4 vMf Int yHi KQ fun x=>(((x,()),()),())
def yS2:=aga 3 qR0
theorem ag7:lc 19 (md f117 0) qR0:=lp (A:=yS2) qR0 (fun d=>(kj d)) yHi KQ P7 e0 zF
theorem qUv:Pa (jP 117 [.c (.dat false (.int .u8))] .i (mD KP)):=fA f117 yS2 e0 (loops1 ag7)
def vJz:zE:=⟨[(0,.c (.dat false (.int .u8))),sO 4 0,sI 5],[oA .i],[(4,none,.i,false)]⟩
def vG9 (f:yAk)(d:vJz.den):=f (kj d) (Id d) d.2.1
def qY2:=aea 0 vJz yZx AC vG9 B3 fun x=>(((),()),(x,()))
def yOh:=aga 5 qY2
theorem ag9:lc 26 (md f62 0) qY2:=lp (A:=yOh) qY2 (fun d=>d.2.1) vG9 B3 E0 (e1 qUv) zF
theorem Ol:Pa (MC 62 [.c (.dat false (.int .u8))] (.own .i) .i (mD xR)):=fA f62 yOh (e1 qUv) (loops1 ag9)
theorem vT7:Pa (zH 97 [.ptr TQ,.c .i] (.tup [(false,yH),(false,[.fro (.int .u8)]),(false,AP),(false,[.bool])]) (fun k d=>Ny k (wB d) (ci d)) (fun x=>(vZ x ())) (fun d=>(d.1,d.2.1,li d,Ng d))):=fA f97 n0 (e3 ag4 ag6 Ol) zF
theorem qPv:Pa (zH 52 [.ptr TQ] (.tup [(false,yH),(false,yH),(false,[.fro (.int .u8)]),(false,AP),(false,[.bool])]) (fun k d=>NA k (wB d)) (fun x=>(vI x ())) (fun d=>(d.1,d.2.1,li d,Ng d,rg d))):=fA f52 n0 (e1 vT7) zF
def yHv:zE:=sp [sI 0,sI 1,sO 5 0,sI 6] [oA .i]
def vJv (f:qNi)(d:yHv.den):=f (kj d) (pi d) (wd d) d.2.1
def qQh:=aea 0 yHv yOx AC vJv TR fun x=>(((),()),(x,()))
def vLf:=aia 5 qQh
theorem vU8:lc 25 (md f65 0) qQh:=lp (A:=vLf) qQh (fun d=>d.2.1) vJv TR yS3 e0 zF
theorem Om:Pa (jP 65 [.c .i,.c .i] (.own .i) (P9 qS0)):=fA f65 vLf e0 (loops1 vU8)
def yH3:zE:=⟨[sI 0,sI 1,sO 5 0,sI 6],[.mat],[(5,none,(.sl .i),true)]⟩
def vFp (f:qQ5)(d:yH3.den):=f (kj d) (pi d) (wd d) d.2.1
def qW5:=aea 0 yH3 yXt EQ vFp TS fun x=>(((),()),(x,()))
def yVb:zV:=⟨[22,23],[(5,qW5)],[],false⟩
theorem vWb:lc 25 (md f64 0) qW5:=lp (A:=yVb) qW5 (fun d=>d.2.1) vFp TS yYa (e1 Om) zF
theorem yBj:Pa (jP 64 [.c .i,.c .i] (.mat) (P9 qTb)):=fA f64 yVb (e1 Om) (loops1 vWb)
def vKv:zE:=⟨[sP 1 0,sP 2 1,sI 3,sP 4 2,sI 5],[oB iL,oB jT,oB S4,oA qT,.mat,oA .i,.mat,oA .i],[(4,some 5,.i,false)]⟩
def yNv (f:qXh)(d:vKv.den):=f (Id d) (ge d) (yC d.2.1) (In d,pm d,Do d) (ap d,un d,co d) (rg d) (be d) (ce d) (If d) (ii d)
def TT:=aea 0 vKv vBm qSz yNv qPm fun x=>(((),(),(x.1,()),(),()),((vI x.2.1 ()),(In x,pm x,x.2.2.1.2.2,()),(ap x,un x,x.2.2.2.1.2.2,()),rg x,be x,ce x,If x,x.2.2.2.2.2.2.2.2,()))
def vLw:zE:=⟨[sP 1 0,sP 2 1,sI 3,sP 4 2,sI 6],[oB iL,oB jT,oB ySw,oA qT,.mat,oA .i,.mat,oA .i,.mat],[(4,some 6,(.sl .i),true)]⟩
def yO6 (f:qTk)(d:vLw.den):=f (Id d) (ge d) (yC d.2.1) (In d,pm d,Do d) (ap d,un d,co d) (rg d) (be d) (ce d) (If d) (ii d) (wl d)
def TU:=aea 2 vLw vKx qQa yO6 qN5 fun x=>(((),(),()),((x.1.1,x.1.2.1,x.1.2.2,()),(wr x,ip x,x.2.1.2.2,()),li x,Ng x,rg x,be x,ce x,x.2.2.2.2.2.2.2,()))
def qPx:zV:=⟨[48,49],[(4,TT),(8,TU)],[],true⟩
theorem ahc:lc 52 (md f32 0) TT:=lp (A:=qPx) TT (fun d=>(Id d,(yC d.2.1),(In d,pm d,Do d),(ap d,un d,co d),rg d,be d,ce d,If d,ii d)) yNv qPm yRr (e2 yBj Om) zF
theorem ahd:lc 52 (md f32 1) TU:=lp (A:=qPx) TU (fun d=>((wr d,ip d,qr d),(In d,pm d,Do d),Ng d,rg d,be d,ce d,If d,ii d)) yO6 qN5 yMd (e2 yBj Om) zF
theorem qQz:Pa (zH 32 [.agg ie] (.agg qZh) (fun k d=>wh k (yC d)) (fun x=>(vD x ())) (fun d=>(qO d))):=fA f32 qPx (e2 yBj Om) (mq (n:=2) (by kernel_rfl) fun i hi=>match i,hi with|0,_=>⟨TT,by kernel_rfl,ahc⟩|1,_=>⟨TU,by kernel_rfl,ahd⟩|i+2,hi=>absurd hi (by omega))
def yTs:zE:=sp [(0,.c (.dat false .i)),sO 3 0,sI 4,sI 5] [oA (.int .u8)]
def yZs:zE:=sp [(0,.c (.dat false .i)),sO 3 0,sI 4] [oA (.int .u8)]
def vM3 (f:yFh)(d:yTs.den):=f (kj d) (Id d) (wd d) d.2.1
def qQn:=aea 2 yTs yZs yBh vM3 MA fun x=>(((x.1,()),(),(x.2.1,()),()),(x.2.2,()))
def yQe (f:yAk)(d:yZs.den):=f (kj d) (Id d) d.2.1
def qUr:=aea 0 yZs vEd AC yQe CC fun x=>(((),()),(x,()))
def qPh:zV:=⟨[],[(6,qQn),(3,qUr)],[],true⟩
theorem vV9:lc 30 (zR (md f169 0) 0) qQn:=lp (A:=qPh) qQn (fun d=>(kj d,Id d,d.2.1)) vM3 MA RB e0 zF
theorem ahe:lc 30 (md f169 0) qUr:=lp (A:=qPh) qUr (fun d=>d.2.1) yQe CC Hf e0 (loops1 vV9)
theorem SW:Pa (jP 169 [.c (.dat false .i)] (.own (.int .u8)) (mD yz)):=fA f169 qPh e0 (loops1 ahe)
theorem On:Pa (jP 99 [.c (.dat false .i)] (.own (.int .u8)) (mD kt)):=fA f99 n0 (e1 SW) zF
def vIl:zE:=⟨[(0,.c (.dat false (.sl .i))),sO 3 0,sI 4],[oA (.int .u8)],[(3,none,(.int .u8),false)]⟩
def yPy (f:qO2)(d:vIl.den):=f (kj d) (Id d) d.2.1
def yAa:=aea 0 vIl vEd AC yPy Hg fun x=>(((),()),(x,()))
def vCr:=aga 3 yAa
theorem ahg:lc 19 (md f100 0) yAa:=lp (A:=vCr) yAa (fun d=>d.2.1) yPy Hg Hh (e1 On) zF
theorem yCr:Pa (jP 100 [.c (.dat false (.sl .i))] (.own (.int .u8)) (mD pF)):=fA f100 vCr (e1 On) (loops1 ahg)
def vDf:zE:=sp [sP 1 0,sP 4 1,sO 5 2,sI 6] [oB lQ,oB jU,oA (.int .u8)]
def yUm:zE:=sp [sP 1 0,sP 4 1,sO 5 2] [oB lQ,oB jU,oA (.int .u8)]
def yZ4 (f:yEn)(d:vDf.den):=f (wd d) (qO d.2.1) (vH (li d)) (Ng d)
def TV:=aea 0 vDf yUm yGo yZ4 vh fun x=>(((),(),(),()),((vD x.1 ()),(vZ x.2.1 ()),x.2.2,()))
def vCa:zE:=sp [sP 1 0,sO 5 1,sI 7] [oB lQ,oA (.int .u8)]
def vBa:zE:=sp [sP 1 0,sO 5 1] [oB lQ,oA (.int .u8)]
def yZy (f:yG8)(d:vCa.den):=f (Id d) (qO d.2.1) (li d)
def TW:=aea 2 vCa vBa qW7 yZy vi fun x=>(((),(),()),((vD x.1 ()),x.2,()))
def yCy:zV:=⟨[],[(7,TV),(16,TW)],[],true⟩
theorem ahi:lc 127 (md f54 0) TV:=lp (A:=yCy) TV (fun d=>((qO d.2.1),(vH (li d)),Ng d)) yZ4 vh Hi (e2 On yCr) zF
theorem ahj:lc 127 (md f54 1) TW:=lp (A:=yCy) TW (fun d=>((qO d.2.1),li d)) yZy vi Hj (e2 On yCr) zF
theorem Dw:Pa (jP 54 [.agg nI] (.own (.int .u8)) (fun k d=>oD k (qO d))):=fA f54 yCy (e2 On yCr) (mq (n:=2) (by kernel_rfl) fun i hi=>match i,hi with|0,_=>⟨TV,by kernel_rfl,ahi⟩|1,_=>⟨TW,by kernel_rfl,ahj⟩|i+2,hi=>absurd hi (by omega))
theorem yMw:Pa (MC 168 [.c (.dat false (.int .u8))] (.own (.int .u8)) .bool (mD MD)):=fA f168 n0 e0 zF
theorem vW8:Pa (jP 170 [.ptr TQ] .i (fun k d=>qPb k (wB d))):=fA f170 n0 e0 zF
theorem qZs:Pa (yF 232 [.ptr true oJ] (.c .bool) [lP] 0 (fun k d=>vj k (wB d)) (fun x=>(x.1,(wL x.2 ()))) (fun d=>(d.1,(pJ d)))):=fX f232 ⟨[],[],[(6,3)],true⟩ 1 e0 (BM (n:=1) (by kernel_rfl) fun i hi=>match i,hi with|0,_=>.inr ⟨by kernel_rfl,zF⟩|i+1,hi=>absurd hi (by omega))
theorem ahm:Pa (yF 171 [.ptr true oJ,.c (.p .i)] (.c .i) [lP] 0 (fun k d=>qQi k (wB d) (ci d)) (fun x=>(x.1,(wL x.2 ()))) (fun d=>(d.1,(pJ d)))):=fX f171 n0 1 (e1 qZs) zF
theorem vCu:Pa (yF 172 [.ptr true oJ,.c (.p .i),.c (.p (.dat false (.int .u8)))] (.c .i) [lP] 0 (fun k d=>Hl k (wB d) (ci d) (Pi d)) (fun x=>(x.1,(wL x.2 ()))) (fun d=>(d.1,(pJ d)))):=fX f172 n0 1 (e1 qZs) zF
theorem vGa:Pa (yF 173 [.ptr true oJ] (.c .i) [lP] 0 (fun k d=>CE k (wB d)) (fun x=>(x.1,(wL x.2 ()))) (fun d=>(d.1,(pJ d)))):=fX f173 n0 1 (e1 qZs) zF
theorem yJ5:Pa (yF 98 [.ptr true oJ,.c (.p .i),.c (.p .i),.c (.p (.dat false (.int .u8)))] (.c .i) [lP] 0 (fun k d=>Hn k (wB d) (ci d) (Pi d) (Fn d)) (fun x=>(x.1,(wL x.2 ()))) (fun d=>(d.1,(pJ d)))):=fX f98 n0 1 (e6 SW yMw vW8 ahm vCu vGa) zF
theorem yLn:Pa (uG 53 [.ptr true oJ,.c (.p (.dat false (.int .u8)))] (.tup [(false,[.link 1]),(false,[.fro (.int .u8)]),(false,AP),(false,yH)]) [lP,SS] 1 (.tup [(false,[.nilp]),(false,[.own (.int .u8)]),(false,[.own (.sl (.int .u8))]),(false,yH)]) [lP] 0 (fun k d=>yBd k (wB d) (ci d)) (fun x=>((),x.1,x.2.1,li x,(wL (Ng x) ((),(vZ x.2.2.2.2 ()))))) (fun x=>((),x.1,x.2.1,li x,(wL x.2.2.2 ()))) (fun d=>(d.2.1,li d,Ng d,(Tb d),(yP0 d))) (fun d=>(d.2.1,li d,Ng d,(Tb d)))):=fN f53 n0 1 (e2 qPv yJ5) zF
theorem ahr:Pa (zH 174 [.c (.dat true (.int .u8))] (.tup [(false,[.own .i]),(false,[.fro (.int .u8)]),(false,[.bool])]) (mD Sr) (fun x=>(x.1,x.2.1,x.2.2,())) (fun d=>(d.1,d.2.1,li d))):=fA f174 n0 (e2 qUv Ol) zF
theorem Jl:Pa (yF 103 [.ptr true Jb] (.c (.own .i)) [[.fro (.int .u8),.bool]] 0 (fun k d=>Az k (d.1,d.2.1)) (fun x=>(x.1,x.2.1,x.2.2,())) (fun d=>(d.1,(d.2.1,li d)))):=fX f103 n0 1 (e1 ahr) zF
theorem yBq:Pa (yF 101 [.ptr true Jb,.c (.p .i)] (.c (.own .i)) [[.fro (.int .u8),.bool]] 0 (fun k d=>we k (d.1,d.2.1) (li d)) (fun x=>(x.1,x.2.1,x.2.2,())) (fun d=>(d.1,(d.2.1,li d)))):=fX f101 n0 1 (e1 Jl) zF
def vI4:zE:=⟨[sP 0 0,sI 1,sO 5 1,sI 6],[oB pK,oA (.sl .i)],[(5,none,(.sl .i),false)]⟩
def yQm (f:yDb)(d:vI4.den):=f (pi d) (wd d) (wr d,ip d) (li d)
def qWs:=aea 0 vI4 vKo yAw yQm II fun x=>(((),(),()),((x.1.1,x.1.2,()),x.2,()))
def yQs:=aga 3 qWs
theorem aht:zT prog 1000 1 24 (md f102 0) qWs:=lp (A:=yQs) qWs (fun d=>((wr d,ip d),li d)) yQm II IJ (e1 Jl) zF
theorem yCi:Pa (yF 102 [.ptr true Jb,.c (.p .i)] (.c (.own (.sl .i))) [[.fro (.int .u8),.bool]] 0 (fun k d=>IF k (d.1,d.2.1) (li d)) (fun x=>(x.1,x.2.1,x.2.2,())) (fun d=>(d.1,(d.2.1,li d)))):=fX f102 yQs 1 (e1 Jl) (loops1 aht)
def yIc (f:yGf)(d:vKa.den):=f (kj d) (Nh d) (wr d,ip d,qr d) (In d,pm d) (Ng d) (d.2.2.2.2.1.1,jp d,d.2.2.2.2.1.2.2.1) (be d)
def TX:=aea 0 vKa vA3 yAg yIc Dg fun x=>(((x.1,()),(),(),(),(),()),((wr x,ip x,x.2.1.2.2,()),(In x,x.2.2.1.2,()),Ng x,(x.2.2.2.2.1.1,jp x,x.2.2.2.2.1.2.2,()),pp x,()))
def vBg:zE:=⟨[(0,.c (.dat true (.int .u8))),sP 2 0,sP 4 1,sO 5 2,sP 6 3,sI 9],[oB jT,oB pK,oA .i,oB [.i,.lit (.osl 1001004 none),.lit (.osl 1001005 none),.lit (.osl 1001006 none),.lit (.osl 1001007 none),.lit (.osl 1001008 none),.lit (.osl 1001009 none),.lit (.osl 1001010 none),.lit .nsl,.i,.bool],oA qT,oA (.sl .i),oA .i,oA (.sl .i),oA .i,oA (.sl .i),oA zG],[(6,some 7,zG,false)]⟩
def yQj (f:qNv)(d:vBg.den):=f (kj d) (Nh d) (wr d,ip d,qr d) (In d,pm d) (Ng d) (d.2.2.2.2.1.1,jp d,d.2.2.2.2.1.2.2.1) (be d) (ce d) (If d) (ii d) (wl d) (ci d) (Pi d)
def TY:=aea 2 vBg yO8 yDc yQj Dl fun x=>(((x.1,()),(),(),(),()),((wr x,ip x,x.2.1.2.2,()),(In x,x.2.2.1.2,()),(ap x,un x,x.2.2.2.1.2.2,()),rg x,be x,ce x,If x,ii x,wl x,x.2.2.2.2.2.2.2.2.2.2,()))
def qW8:zV:=⟨[],[(5,TX),(15,TY)],[],true⟩
theorem ahv:lc 154 (md f55 0) TX:=lp (A:=qW8) TX (fun d=>(kj d,(wr d,ip d,qr d),(In d,pm d),Ng d,(d.2.2.2.2.1.1,jp d,d.2.2.2.2.1.2.2.1),be d)) yIc Dg IL (e4 yBq yCi Jl Dw) zF
theorem ahw:lc 154 (md f55 1) TY:=lp (A:=qW8) TY (fun d=>(kj d,(wr d,ip d,qr d),(In d,pm d),(ap d,un d,co d),rg d,be d,ce d,If d,ii d,wl d,ci d)) yQj Dl IN (e4 yBq yCi Jl Dw) zF
theorem vGo:Pa (zH 55 [.c (.dat true (.int .u8))] (.tup [(true,[.i,.own qT,.own (.sl .i),.own .i,.own (.sl .i),.own .i,.own (.sl .i),.own zG,.own .i,.i,.bool]),(false,[.bool])]) (mD IP) (fun x=>(vD x.1 (x.2,()))) (fun d=>((qO d),Pi d))):=fA f55 qW8 (e4 yBq yCi Jl Dw) (mq (n:=2) (by kernel_rfl) fun i hi=>match i,hi with|0,_=>⟨TX,by kernel_rfl,ahv⟩|1,_=>⟨TY,by kernel_rfl,ahw⟩|i+2,hi=>absurd hi (by omega))
theorem N0:Pa (jP 63 [.c .i] .i (mD B4)):=fA f63 n0 e0 zF
def yJi:zE:=sp [sP 2 0,sP 4 1,sO 5 2,sI 7] [oB wC,oB wC,oA .i]
def yO1:zE:=sp [sP 2 0,sP 4 1] [oB wC,oB wC]
def vKk (f:qRo)(d:yJi.den):=f (wd d) (vV d.2.1) (vV (li d)) (Ng d)
def yF7:=aea 0 yJi yO1 yB5 vKk Qb fun x=>(((),(),()),((gi x.1 ()),(gi x.2 ()),()))
def yMf:=aga 8 yF7
theorem ahy:lc 48 (md f25 0) yF7:=lp (A:=yMf) yF7 (fun d=>((vV d.2.1),(vV (li d)))) vKk Qb ySc (e2 Ol N0) zF
theorem SX:Pa (zH 25 [.c (.dat false (.int .u8))] (.tup [(true,pL),(false,yH)]) (mD uK) (fun x=>(gi x.1 (x.2,()))) (fun d=>((vV d),If d))):=fA f25 yMf (e2 Ol N0) (loops1 ahy)
theorem vH4:Pa (zH 57 [.c (.dat false (.int .u8))] (.tup [(true,qR3),(false,yH)]) (mD SC) (fun x=>(wm x.1 (x.2,()))) (fun d=>((ig d),ii d))):=fA f57 n0 (e2 Ol SX) zF
theorem vX6:Pa (jP 184 [.c .i] .bool (mD Sa)):=fA f184 n0 e0 zF
def vM5:zE:=sp [sP 1 0,sI 3,sI 4] [oB wC]
def yXz (f:qZo)(d:vM5.den):=f (pi d) (Id d) (vV d.2.1)
def yBr:=aha 0 vM5 vBb yLj Int Bool yXz zd (fun x=>(((x,()),()),())) fun x=>(((x,()),()),())
def yL0:=aga 3 yBr
theorem ahB:lc 21 (md f185 0) yBr:=lp (A:=yL0) yBr (fun d=>match d with|.inl d=>.inl (kj d)|.inr d=>.inr (kj d)) yXz zd yDu (e1 N0) zF
theorem yW7:Pa (jP 185 [.agg vN] .bool (fun k d=>tq k (vV d))):=fA f185 yL0 (e1 N0) (loops1 ahB)
theorem ahE:Pa (jP 186 [.c .i] .bool (mD Sb)):=fA f186 n0 e0 zF
theorem vP2:Pa (jP 108 [.agg ie,.agg AJ] .bool (fun k d=>CU k (yC d) (ahF d))):=fA f108 n0 (e3 vX6 yW7 ahE) zF
def vEt:zE:=⟨[(0,.c (.dat false zG)),sI 1,sO 5 0,sI 6],[oA zG],[(5,none,zG,false)]⟩
def vDy (f:yDf)(d:vEt.den):=f (kj d) (pi d) (wd d) d.2.1
def qQe:=aea 0 vEt yZa qVz vDy LK fun x=>(((),()),(x,()))
def yNp:=aia 3 qQe
theorem ahG:lc 28 (md f109 0) qQe:=lp (A:=yNp) qQe (fun d=>d.2.1) vDy LK F6 e0 zF
def qQj:=(jP 109 [.c (.dat false zG),.c .i] (.own zG) (P9 uS))
theorem AL:Pa qQj:=fA f109 yNp e0 (loops1 ahG)
def yPe:zE:=sp [(1,.c (.dat false .i)),sP 4 0,sP 5 1,sI 6] [oB wC,oB wC]
def yH9:zE:=sp [sP 4 0,sP 5 1] [oB wC,oB wC]
def yPu (f:qQ3)(d:yPe.den):=(mM (mM (f (kj d) (wd d)) d.2.1) (li d))
def yC5:=aea 0 yPe yH9 qYx yPu TZ fun x=>(((),(),()),((ku x ()),(vL2 x ()),()))
def yT5:=aia 3 yC5
theorem vYx:lc 27 (md f110 0) yC5:=lp (A:=yT5) yC5 (fun d=>(ku d.2.1 (vV (li d)))) yPu TZ yY6 e0 zF
theorem wk:Pa (zH 110 [.c .i,.c (.dat false .i)] (.agg pL) (P9 fK) (fun x=>(gi x ())) (fun d=>(vV d))):=fA f110 yT5 e0 (loops1 vYx)
theorem T0:Pa (jP 187 [.agg ie,.c .i] .bool (fun k d=>R9 k (yC d) (be d))):=fA f187 n0 e0 zF
theorem T1:Pa (jP 188 [.agg vN,.c .i] .bool (fun k d=>(mL (qU5 k) d))):=fA f188 ja e0 zF
def vLs:zE:=sp [(0,.c (.dat false zG)),sI 1,sI 5] []
def vFr (f:qYs)(d:vLs.den):=f (kj d) (pi d) (Id d)
def yFt:=aha 0 vLs yNc yJg Unit Int vFr Ge (fun x=>((),())) fun x=>(((x,()),()),())
def vD3:=aia 2 yFt
theorem ahK:lc 20 (md f114 0) yFt:=lp (A:=vD3) yFt (fun d=>match d with|.inl d=>.inl ()|.inr d=>.inr (kj d)) vFr Ge Gf e0 zF
theorem I4:Pa (jP 114 [.c (.dat false zG),.c .i] .i (P9 mE)):=fA f114 vD3 e0 (loops1 ahK)
theorem mN:Pa (zH 189 [.c (.dat true zG),.c .i] (.tup [(false,[.fro zG]),(true,pL),(false,yH)]) (P9 oF) (fun x=>(To x ())) (fun d=>(Tp d))):=fA f189 ja (e1 I4) zF
theorem T2:Pa (jP 190 [.agg ie,.c .i] .bool (fun k d=>Na k (yC d) (be d))):=fA f190 n0 e0 zF
theorem ySv:Pa (jP 308 [.agg vN,.c .i] .bool (fun k d=>(mL (Z1 k) d))):=fA f308 ja e0 zF
def vCn (f:yDf)(d:vEt.den):=f (kj d) (pi d) (wd d) d.2.1
def qZc:=aea 0 vEt yZa qVz vCn LJ fun x=>(((),()),(x,()))
def yHa:=aia 3 qZc
theorem vVe:lc 27 (md f283 0) qZc:=lp (A:=yHa) qZc (fun d=>d.2.1) vCn LJ F5 (e1 ySv) zF
def qPa:=(jP 283 [.c (.dat false zG),.c .i] (.own zG) (P9 F4))
theorem DA:Pa qPa:=fA f283 yHa (e1 ySv) (loops1 vVe)
def yYx:zE:=sp [sO 5 0,sO 6 1,sI 7,sO 8 2,(9,.c .bool),sI 10] [oA zG,oA zG,oA zG]
def yR9:zE:=sp [sO 5 0,sO 6 1,sI 7,sO 8 2,(9,.c .bool)] [oA zG,oA zG,oA zG]
def vFy (f:yCl)(d:yYx.den):=f (Id d) (ge d) (Nh d) d.2.1 (li d) (Ng d)
def qNp:=aea 2 yYx yR9 yG3 vFy F7 fun x=>(((),(),(x.1,()),(),(x.2.1,()),()),(li x,Ng x,x.2.2.2.2,()))
def vF2:zE:=⟨[sO 5 0,sO 6 1,sI 7],[oA zG,oA zG],[(6,none,zG,false)]⟩
def yOn:zE:=sp [sO 6 0] [oA zG]
def yXi (f:qSy)(d:vF2.den):=f (Id d) d.2.1 (li d)
def qRp:=aea 0 vF2 yOn qVz yXi LM fun x=>(((),()),(x,()))
def ahO:Env:=⟨prog,fun t=>[143].any (Nat.beq t),eP [qPa,qQj]⟩
theorem qVh:jH ahO:=ET (l:=[qPa,qQj]) (eqT:=fun t=>[143].any (Nat.beq t)) (JN (fun t h=>Kp (p:=fun t=>prog.keyTypeAt 8 t&& !prog.eqGuardType prog.depth t) (l:=[143]) (List.forall_mem_cons.2 ⟨by kernel_rfl,List.forall_mem_nil _⟩) t h)) gh ⟨DA,AL,trivial⟩
def qVj:zV:=⟨[],[(9,qNp),(4,qRp)],[],false⟩
theorem vPa:lc 61 (zR (md f321 0) 0) qNp:=lp (A:=qVj) qNp (fun d=>(Id d,ge d,d.2.1,li d,Ng d)) vFy F7 F8 qVh zF
theorem vS6:lc 61 (md f321 0) qRp:=lp (A:=qVj) qRp (fun d=>d.2.1) yXi LM F9 qVh (loops1 vPa)
theorem Oo:Pa (jP 321 [.c (.dat false zG),.c .i] (.own zG) (P9 LL)):=fA f321 qVj qVh (loops1 vS6)
theorem SP:Pa (jP 181 [.agg jZ,.agg vN] .bool (fun k d=>(tH (Qu k) d))):=fA f181 ja e0 zF
def yPi:zE:=sp [(1,.c (.dat false zG)),sP 2 0,sI 5] [oB jU]
def yYf:zE:=sp [(1,.c (.dat false zG))] []
def yWf (f:qVc)(d:yPi.den):=(vJ (f (kj d) (Id d)) d.2.1)
def yEl:zU:=⟨[yPi],[(.exit 0,yYf),(.ret,vDt)],yAc,fun k d=>yWf (Lm k k) d,fun b x _ K=>match x with|.inl x=>K (.exit 0) (zM b yYf (((x,()),()),()))|.inr x=>K .ret (zM b vDt (((x,()),()),()))⟩
def yN9:=aia 2 yEl
theorem ahR:lc 22 (md f309 0) yEl:=lp (A:=yN9) yEl (fun d=>match d with|.inl d=>.inl (kj d)|.inr d=>.inr (kj d)) yWf Lm Fz (e1 SP) zF
theorem T3:Pa (jP 309 [.agg jZ,.c (.dat false zG)] .bool (fun k d=>(lU (Ll k) d))):=fA f309 yN9 (e1 SP) (loops1 ahR)
def yY2:zE:=⟨[(0,.c (.dat false (.sl .i))),sO 3 0,sI 4],[.mat],[(3,none,(.sl .i),true)]⟩
def vHb:zE:=sp [sO 3 0] [.mat]
def vKg (f:qM7)(d:yY2.den):=f (kj d) (Id d) d.2.1
def yEo:=aea 0 yY2 vHb EQ vKg K8 fun x=>(((),()),(x,()))
def yRd:zV:=⟨[18,19],[(3,yEo)],[],false⟩
theorem ahT:lc 21 (md f278 0) yEo:=lp (A:=yRd) yEo (fun d=>d.2.1) vKg K8 Fq e0 zF
theorem vW6:Pa (jP 278 [.c (.dat false (.sl .i))] (.mat) (mD K9)):=fA f278 yRd e0 (loops1 ahT)
theorem AF:Pa (zH 245 [.agg jZ] (.agg [.own qT,.mat,.own .i,.mat]) (fun k d=>(vJ (pw k) d)) (fun x=>(vZ x ())) (fun d=>(vH d))):=fA f245 ja (e1 vW6) zF
def vB5:zE:=sp [(0,.c (.dat false zG)),sI 1,sI 6,sI 7,sI 8] []
def vCz:zE:=sp [sI 6,sI 7] []
def vCl (f:qOx)(d:vB5.den):=f (kj d) (pi d) (Id d) (wd d) (ge d)
def qYv:=aea 0 vB5 vCz vW vCl Lq fun x=>(((x.1,()),(x.2,()),()),())
def yM6:=aia 3 qYv
theorem vUf:lc 46 (md f324 0) qYv:=lp (A:=yM6) qYv (fun d=>(kj d,pi d)) vCl Lq FE e0 zF
theorem qUn:Pa (MC 324 [.c (.dat false zG),.c .i] .i .i (P9 Lp)):=fA f324 yM6 e0 (loops1 vUf)
theorem qOm:Pa (jP 311 [.c (.dat false zG),.c .i] .i (P9 QC)):=fA f311 ja (e1 qUn) zF
theorem Oq:Pa (jP 310 [.agg oK,.c .i] .i (fun k d=>(vJ (Lr k) d))):=fA f310 ja e0 zF
def yIh:zE:=sp [(0,.c (.dat false zG)),sI 1,sI 2,sI 7,sI 8] []
def vIh:zE:=sp [sI 7] []
def yQu (f:qPd)(d:yIh.den):=f (kj d) (pi d) (Id d) (wd d) (ge d)
def qU8:=aea 0 yIh vIh Int yQu Ln fun x=>(((x,()),()),())
def yH8:=aia 3 qU8
theorem ahX:lc 39 (md f325 0) qU8:=lp (A:=yH8) qU8 (fun d=>(kj d)) yQu Ln FD e0 zF
theorem yAd:Pa (jP 325 [.c (.dat false zG),.c .i,.c .i] .i (wG yc)):=fA f325 yH8 e0 (loops1 ahX)
theorem yEy:Pa (jP 312 [.c (.dat false zG),.c .i,.c .i] .i (wG QA)):=fA f312 ja (e1 yAd) zF
def vCo:zE:=sp [(0,.c (.dat false (.sl .i))),sI 1,sI 5] []
def yUa (f:qS4)(d:vCo.den):=f (kj d) (pi d) (Id d)
def qPt:=aha 0 vCo yNc vDt Unit Bool yUa K0 (fun x=>((),())) fun x=>(((x,()),()),())
def yWg:=aia 4 qPt
theorem ah0:lc 22 (md f175 0) qPt:=lp (A:=yWg) qPt (fun d=>match d with|.inl d=>.inl ()|.inr d=>.inr (kj d)) yUa K0 E8 e0 zF
theorem qUc:Pa (jP 175 [.c (.dat false (.sl .i)),.c .i] .bool (P9 KZ)):=fA f175 yWg e0 (loops1 ah0)
theorem T4:Pa (jP 176 [.agg oK] .bool (wG KX)):=fA f176 ja e0 zF
theorem yD9:Pa (jP 177 [.c .i] .bool (mD KY)):=fA f177 ja e0 zF
def vLb:zE:=sp [sP 1 0,sI 3,sI 4,sI 5] [oB jU]
def yWo:zE:=sp [sP 1 0,sI 3,sI 4] [oB jU]
def vD9 (f:yDj)(d:vLb.den):=(vJ (f (pi d) (Id d) (wd d)) d.2.1)
def qY9:zU:=⟨[vLb],[(.exit 2,yWo),(.ret,yLj)],yE0,fun k d=>vD9 (E9 k k) d,fun b x _ K=>match x with|.inl x=>K (.exit 2) (zM b yWo (((),(x.1,()),(x.2.1,()),()),((CK x ()),())))|.inr x=>K .ret (zM b yLj (((x,()),()),()))⟩
def yXm (f:qM1)(d:yWo.den):=(vJ (f (pi d) (Id d)) d.2.1)
def qYw:=aha 0 yWo yNc yLj Unit Bool yXm Fc (fun x=>((),())) fun x=>(((x,()),()),())
def qNw:zV:=⟨[],[(10,qY9),(5,qYw)],[],false⟩
theorem vNt:lc 114 (zR (md f104 0) 0) qY9:=lp (A:=qNw) qY9 (fun d=>match d with|.inl d=>.inl (pi d,Id d,(vH d.2.1))|.inr d=>.inr (kj d)) vD9 E9 Fa (e3 qUc T4 yD9) zF
theorem vTz:lc 114 (md f104 0) qYw:=lp (A:=qNw) qYw (fun d=>match d with|.inl d=>.inl ()|.inr d=>.inr (kj d)) yXm Fc Fe (e3 qUc T4 yD9) (loops1 vNt)
theorem NZ:Pa (jP 104 [.agg jZ] .bool (fun k d=>(vJ (Ff k) d))):=fA f104 qNw (e3 qUc T4 yD9) (loops1 vTz)
def vJw:zE:=sp [(1,.c (.dat false zG)),sP 2 0,sP 4 1,sP 6 2,sI 7,sI 8] [oB wI,oB oL,oB tE,oA qT,.mat,oA .i,.mat]
def vD8:zE:=sp [(1,.c (.dat false zG)),sP 2 0,sP 4 1,sP 6 2,sI 7] [oB wI,oB oL,oB tE,oA qT,.mat,oA .i,.mat]
def yZc (f:qTs)(d:vJw.den):=(vJ (f (kj d) (ge d) (Nh d)) d.2.1) (rg d) (be d) (ce d) (If d)
def qQ9:=aea 2 vJw vD8 qT8 yZc FF fun x=>(((x.1,()),(),(),(),(x.2.1,()),()),((Ti x ()),(),(),ce x,If x,ii x,x.2.2.2.2.2.2.2.2.2,()))
def yL7:zE:=sp [sP 2 0,sP 4 1,sP 6 2] [oB wI,oB oL,oB tE,oA qT,.mat,oA .i,.mat]
def yXa (f:qZ7)(d:vD8.den):=(vJ (f (kj d) (ge d)) d.2.1) (rg d) (be d) (ce d) (If d)
def yB1:=aea 0 vD8 yL7 qWk yXa FH fun x=>(((),(),(),()),((vR x ()),(),(),rg x,be x,ce x,x.2.2.2.2.2.2.2,()))
def qTd:zV:=⟨[],[(9,qQ9),(5,yB1)],[],false⟩
theorem vP7:lc 84 (zR (md f284 0) 0) qQ9:=lp (A:=qTd) qQ9 (fun d=>(kj d,ge d,(vR d.2.1 (rg d,be d,ce d,If d)))) yZc FF FG (e6 T3 AF qOm Oq yEy NZ) zF
theorem ah4:lc 84 (md f284 0) yB1:=lp (A:=qTd) yB1 (fun d=>(vR d.2.1 (rg d,be d,ce d,If d))) yXa FH FI (e6 T3 AF qOm Oq yEy NZ) (loops1 vP7)
theorem qYz:Pa (zH 284 [.agg lv,.c (.dat false zG)] (.tup [(true,nJ),(false,yH)]) (fun k d=>(lU (Cb k) d)) (fun x=>(vI x ())) (fun d=>(yC d))):=fA f284 qTd (e6 T3 AF qOm Oq yEy NZ) (loops1 ah4)
def vL7:zE:=sp [sI 1,sP 2 0,sI 5,sI 6] [oB jU]
def yOl (f:qSu)(d:vL7.den):=(vJ (f (kj d) (Id d) (wd d)) d.2.1)
def qOc:=aea 0 vL7 yMm Int yOl FJ fun x=>(((x,()),()),())
def vAx:=aia 3 qOc
theorem vSz:lc 28 (md f334 0) qOc:=lp (A:=vAx) qOc (fun d=>(kj d)) yOl FJ FK e0 zF
theorem vMc:Pa (jP 334 [.agg jZ,.c .i] .i (fun k d=>(lU (QF k) d))):=fA f334 vAx e0 (loops1 vSz)
def yZ2:zE:=sp [(1,.c (.dat false zG)),sI 2,sP 3 0,sI 7,sI 8,sI 9,sI 10,sI 11] [oB jU]
def yVu:zE:=sp [sI 2,sP 3 0,sI 7,sI 8,sI 9,sI 10] [oB jU]
def yTg (f:qRc)(d:yZ2.den):=(vJ (f (kj d) (pi d) (wd d) (ge d) (Nh d) (ul d) (dl d)) d.2.1)
def qQy:zU:=⟨[yZ2],[(.exit 0,yVu),(.ret,yLr)],qX8,fun k d=>yTg (sZ k k) d,fun b x _ K=>match x with|.inl x=>K (.exit 0) (zM b yVu (((x.1,()),(),(x.2.1,()),(li x,()),(Ng x,()),(rg x,()),()),((vOv x ()),())))|.inr x=>K .ret (zM b yLr (((x,()),()),()))⟩
def vLg:=aia 7 qQy
theorem ah6:lc 130 (md f323 0) qQy:=lp (A:=vLg) qQy (fun d=>match d with|.inl d=>.inl (kj d,Id d,wd d,ge d,Nh d,(vH d.2.1))|.inr d=>.inr (kj d)) yTg sZ FM (e4 qUn vMc yAd Oq) zF
theorem yX6:Pa (jP 323 [.agg jZ,.c (.dat false zG),.c .i] .bool (fun k d=>(kz (QJ k) d))):=fA f323 vLg (e4 qUn vMc yAd Oq) (loops1 ah6)
def vMs:zE:=⟨[(1,.c (.dat false zG)),sP 2 0,sO 5 1,sI 6],[oB jU,oA .i],[(5,none,.i,false)]⟩
def yRy (f:yBc)(d:vMs.den):=(vJ (f (kj d) (wd d)) d.2.1) (li d)
def qU9:=aea 0 vMs yOx AC yRy uQ fun x=>(((),()),(x,()))
def vHx:=aia 3 qU9
theorem ah8:lc 23 (md f307 0) qU9:=lp (A:=vHx) qU9 (fun d=>d.2.1) yRy uQ ta (e1 yX6) zF
theorem Ot:Pa (jP 307 [.agg jZ,.c (.dat false zG)] (.own .i) (fun k d=>(lU (uP k) d))):=fA f307 vHx (e1 yX6) (loops1 ah8)
theorem ah9:Pa (jP 322 [.agg jZ,.c (.dat false zG)] .bool (fun k d=>(lU (Lu k) d))):=fA f322 ja (e2 T3 Ot) zF
theorem wq:Pa (zH 305 [.agg lv,.c (.dat false zG)] (.tup [(true,nJ),(false,[.bool])]) (fun k d=>(lU (vv k) d)) (fun x=>(vI x ())) (fun d=>(yC d))):=fA f305 ja (e2 qYz ah9) zF
def yOg:zE:=sp [sP 3 0,sP 6 1,sO 8 2,sI 9] [oB wI,oB wC,oA zG]
def yU2:zE:=sp [sP 6 0] [oB wC]
def yJt:zE:=sp [sP 6 0,(7,.c .bool)] [oB wC]
def yNi (f:yFb)(d:yOg.den):=(mM (vJ (f (wd d)) d.2.1) (li d)) (Ng d)
def qTy:zU:=⟨[yOg],[(.exit 0,yU2),(.ret,yJt)],qX0,fun k d=>yNi (MX k k) d,fun b x _ K=>match x with|.inl x=>K (.exit 0) (zM b yU2 (((),()),((gi x ()),())))|.inr x=>K .ret (zM b yJt (((),(x.1,()),()),((yPw x ()),())))⟩
def vLt:=aia 3 qTy
theorem vRm:lc 37 (md f304 0) qTy:=lp (A:=vLt) qTy (fun d=>match d with|.inl d=>.inl (vV d.2.1)|.inr d=>.inr (pi d,(vV d.2.1))) yNi MX HM (e2 Oo wq) zF
theorem vDq:Pa (zH 304 [.agg lv,.c (.dat true zG),.c .i] (.tup [(true,pL),(false,[.bool])]) (fun k d=>(kz (R3 k) d)) (fun x=>(wm x ())) (fun d=>(ig d))):=fA f304 vLt (e2 Oo wq) (loops1 vRm)
def yIo:zE:=⟨[(1,.c (.dat true zG)),sI 2,sP 3 0,sP 6 1,sO 9 2],[oB wI,oB oL,oA zG],[(9,none,zG,false)]⟩
def yOy (f:qQm)(d:yIo.den):=(vJ (f (kj d) (pi d)) d.2.1) (Ng d)
def qXb:zU:=⟨[yIo],[(.ret,yZm)],qRg,fun k d=>yOy (MY k k) d,fun b x _ K=>K .ret (zM b yZm (((),(x.1,()),(),()),((iN x ()),pp x,())))⟩
def yIg:=aia 2 qXb
theorem vPn:lc 43 (md f279 0) qXb:=lp (A:=yIg) qXb (fun d=>(pi d,(vR d.2.1 (li d)))) yOy MY HN (e3 vDq wq mN) zF
theorem vKe:Pa (zH 279 [.agg lv,.c (.dat true zG),.c .i] (.tup [(true,nJ),(false,[.fro zG]),(false,[.own zG])]) (fun k d=>(kz (R4 k) d)) (fun x=>(oM x ())) (fun d=>(nK d))):=fA f279 yIg (e3 vDq wq mN) (loops1 vPn)
def yPn:zE:=sp [sP 3 0,sP 6 1,sP 7 2,sO 9 3,sI 10,sI 11] [oB wI,oB wC,oB wC,oA zG]
def yJ0:zE:=sp [sP 3 0,sP 6 1,sP 7 2,sO 9 3,sI 10] [oB wI,oB wC,oB wC,oA zG]
def yRu:zE:=sp [sP 6 0,sP 7 1,(8,.c .bool)] [oB wC,oB wC]
def yP3 (f:qV1)(d:yPn.den):=(mM (mM (vJ (f (ge d) (Nh d)) d.2.1) (li d)) (Ng d)) (rg d)
def qNy:zU:=⟨[yPn],[(.exit 2,yJ0),(.ret,yRu)],qTz,fun k d=>yP3 (M3 k k) d,fun b x _ K=>match x with|.inl x=>K (.exit 2) (zM b yJ0 (((),(),(),(),(x.1,()),()),((iN x ()),(aid x ()),(aie x ()),x.2.2.2.2.2.2.2.2.2.2.2.2.2.2.2.2.2.2.2,())))|.inr x=>K .ret (zM b yRu (((),(),(x.1,()),()),((qVk x ()),(yId x ()),())))⟩
def yYd:zE:=sp [sP 6 0,sP 7 1] [oB wC,oB wC]
def vEf (f:yB2)(d:yJ0.den):=(mM (mM (vJ (f (ge d)) d.2.1) (li d)) (Ng d)) (rg d)
def qNl:zU:=⟨[yJ0],[(.exit 0,yYd),(.ret,yRu)],qP5,fun k d=>vEf (M4 k k) d,fun b x _ K=>match x with|.inl x=>K (.exit 0) (zM b yYd (((),(),()),((ku x ()),(vL2 x ()),())))|.inr x=>K .ret (zM b yRu (((),(),(x.1,()),()),((qVk x ()),(yId x ()),())))⟩
def qTq:zV:=⟨[],[(6,qNy),(3,qNl)],[],false⟩
theorem vNz:lc 71 (zR (md f306 0) 0) qNy:=lp (A:=qTq) qNy (fun d=>match d with|.inl d=>.inl (ge d,(vR d.2.1 (ku (li d) (ku (Ng d) (rg d)))))|.inr d=>.inr (Id d,(ku d.2.1 (vV (li d))))) yP3 M3 HO (e2 Oo wq) zF
theorem vQm:lc 71 (md f306 0) qNl:=lp (A:=qTq) qNl (fun d=>match d with|.inl d=>.inl (ku d.2.1 (vV (li d)))|.inr d=>.inr (Id d,(ku d.2.1 (vV (li d))))) vEf M4 HP (e2 Oo wq) (loops1 vNz)
theorem vJx:Pa (zH 306 [.agg lv,.c (.dat true zG),.c .i] (.tup [(true,pL),(true,pL),(false,[.bool])]) (fun k d=>(kz (R5 k) d)) (fun x=>(vEc x ())) (fun d=>(yZk d))):=fA f306 qTq (e2 Oo wq) (loops1 vQm)
def vC0 (f:qQm)(d:yIo.den):=(vJ (f (kj d) (pi d)) d.2.1) (Ng d)
def yF0:zU:=⟨[yIo],[(.ret,yZm)],qRg,fun k d=>vC0 (M5 k k) d,fun b x _ K=>K .ret (zM b yZm (((),(x.1,()),(),()),((iN x ()),pp x,())))⟩
def vMw:=aia 2 yF0
theorem aif:lc 55 (md f280 0) yF0:=lp (A:=vMw) yF0 (fun d=>(pi d,(vR d.2.1 (li d)))) vC0 M5 HQ (e3 vJx wq mN) zF
theorem yXp:Pa (zH 280 [.agg lv,.c (.dat true zG),.c .i] (.tup [(true,nJ),(false,[.fro zG]),(false,[.own zG])]) (fun k d=>(kz (R6 k) d)) (fun x=>(oM x ())) (fun d=>(nK d))):=fA f280 vMw (e3 vJx wq mN) (loops1 aif)
def yI2 (f:qQm)(d:yIo.den):=(vJ (f (kj d) (pi d)) d.2.1) (Ng d)
def yGe:zU:=⟨[yIo],[(.ret,yZm)],qRg,fun k d=>yI2 (M8 k k) d,fun b x _ K=>K .ret (zM b yZm (((),(x.1,()),(),()),((iN x ()),pp x,())))⟩
def vEm:=aia 2 yGe
theorem aii:lc 45 (md f248 0) yGe:=lp (A:=vEm) yGe (fun d=>(pi d,(vR d.2.1 (li d)))) yI2 M8 HZ (e2 vKe yXp) zF
theorem vZt:Pa (zH 248 [.agg lv,.c (.dat true zG),.c .i] (.tup [(true,nJ),(false,[.fro zG]),(false,[.own zG])]) (fun k d=>(kz (M9 k) d)) (fun x=>(oM x ())) (fun d=>(nK d))):=fA f248 vEm (e2 vKe yXp) (loops1 aii)
def yKi:zE:=⟨[(0,.c (.dat false zG)),(1,.c (.dat false .i)),sO 5 0,sI 6],[oA zG],[(5,none,zG,false)]⟩
def yNx (f:qMx)(d:yKi.den):=f (kj d) (pi d) (wd d) d.2.1
def qXp:=aea 0 yKi yZa qVz yNx HS fun x=>(((),()),(x,()))
def yX1:=aia 3 qXp
theorem vRk:lc 60 (md f282 0) qXp:=lp (A:=yX1) qXp (fun d=>d.2.1) yNx HS HT (e1 AL) zF
theorem Jm:Pa (jP 282 [.c (.dat false zG),.c (.dat false .i)] (.own zG) (P9 HR)):=fA f282 yX1 (e1 AL) (loops1 vRk)
def yHl:zE:=⟨[sP 3 0,sO 8 1,sO 9 2,sI 10],[oB jU,oA zG,oA .i],[(9,none,.i,false)]⟩
def yO4:zE:=sp [sP 3 0,sO 8 1,sO 9 2] [oB jU,oA zG,oA .i]
def vMt (f:qWp)(d:yHl.den):=(vJ (f (wd d)) d.2.1) (li d) (Ng d)
def T5:=aea 0 yHl yO4 qXs vMt CQ fun x=>(((),(),(),()),((vR x ()),rg x,pp x,()))
def yKu:zE:=sp [sP 3 0,sO 8 1,sO 9 2,sI 11,sO 12 3,sI 13] [oB jU,oA zG,oA .i,oA .i]
def yHs:zE:=sp [sP 3 0,sO 8 1,sO 9 2,sI 11] [oB jU,oA zG,oA .i]
def yR7 (f:qQ6)(d:yKu.den):=(vJ (f (wd d) (Nh d)) d.2.1) (li d) (Ng d) (rg d)
def qS5:=aea 4 yKu yHs yC4 yR7 HV fun x=>(((),(),(),(x.1,()),()),((iN x ()),be x,x.2.2.2.2.2.2,()))
def vAb (f:qY3)(d:yHs.den):=(vJ (f (wd d)) d.2.1) (li d) (Ng d)
def T6:zU:=⟨[yHs],[(.ret,vNe)],(Int×AC),fun k d=>vAb (M6 k k) d,fun b x _ K=>K .ret (zM b vNe (((),(x.1,()),()),(x.2,())))⟩
def T7:zV:=⟨[],[(4,T5),(13,qS5),(9,T6)],[],false⟩
theorem vSk:lc 58 (md f281 0) T5:=lp (A:=T7) T5 (fun d=>(vR d.2.1 (li d,Ng d))) vMt CQ HU (e4 DA AL Jm Ot) zF
theorem ail:lc 58 (zR (md f281 1) 0) qS5:=lp (A:=T7) qS5 (fun d=>(wd d,(vR d.2.1 (li d,Ng d)))) yR7 HV HW (e4 DA AL Jm Ot) zF
theorem aim:lc 58 (md f281 1) T6:=lp (A:=T7) T6 (fun d=>(pi d,d.2.1)) vAb M6 HX (e4 DA AL Jm Ot) (loops1 ail)
theorem vFh:Pa (MC 281 [.agg jZ,.c (.dat false zG),.c .i] (.own .i) .i (fun k d=>(kz (R7 k) d))):=fA f281 T7 (e4 DA AL Jm Ot) (mq (n:=2) (by kernel_rfl) fun i hi=>match i,hi with|0,_=>⟨T5,by kernel_rfl,vSk⟩|1,_=>⟨T6,by kernel_rfl,aim⟩|i+2,hi=>absurd hi (by omega))
def yPb:zE:=sp [(1,.c (.dat true zG)),sP 6 0,sO 11 1,sP 12 2,sI 14] [oB oL,oA zG,oB wI]
def yPh:zE:=sp [(1,.c (.dat true zG)),sP 6 0,sO 11 1,sP 12 2] [oB oL,oA zG,oB wI]
def yL8 (f:yCc)(d:yPb.den):=(vJ (f (kj d) (ge d) (li d)) (Ng d))
def qOn:=aea 0 yPb yPh yAq yL8 CR fun x=>(((x.1,()),(),(),(),()),((),x.2.1,(CK x ()),()))
def vKw:=aia 7 qOn
theorem vOb:lc 57 (md f249 0) qOn:=lp (A:=vKw) qOn (fun d=>(kj d,li d,(vH (Ng d)))) yL8 CR HY (e5 vFh DA Jm qYz mN) zF
theorem aio:Pa (zH 249 [.agg lv,.c (.dat true zG),.c .i] (.tup [(true,nJ),(false,[.fro zG]),(false,[.own zG])]) (fun k d=>(kz (M7 k) d)) (fun x=>(oM x ())) (fun d=>(nK d))):=fA f249 vKw (e5 vFh DA Jm qYz mN) (loops1 vOb)
theorem aiq:Pa (zH 197 [.agg lv,.c (.dat true zG),.c .i,.c .bool] (.tup [(true,nJ),(false,[.fro zG]),(false,[.own zG])]) (fun k d=>(mM (R8 k) d)) (fun x=>(oM x ())) (fun d=>(nK d))):=fA f197 ja (e2 vZt aio) zF
def yYp:zE:=⟨[(0,.c (.dat false zG)),sO 3 0,sI 4],[oA qK],[(3,none,qK,false)]⟩
def yQ9 (f:qUx)(d:yYp.den):=f (kj d) (Id d) d.2.1
def yEe:=aea 0 yYp yI0 qOq yQ9 Mr fun x=>(((),()),(x,()))
def vH1:=aia 3 yEe
theorem air:lc 39 (md f198 0) yEe:=lp (A:=vH1) yEe (fun d=>d.2.1) yQ9 Mr G2 (e1 wk) zF
theorem ait:Pa (jP 198 [.c (.dat false zG)] (.own qK) (mD Rt)):=fA f198 vH1 (e1 wk) (loops1 air)
theorem NU:Pa (zH 113 [.agg AI,.c .bool] (.tup [(true,AK),(false,[.own qK])]) (fun k d=>(Og (oG k) d)) (fun x=>(Ji x ())) (fun d=>(AO d))):=fA f113 ja (e2 aiq ait) zF
def vDi:zE:=⟨[sP 3 0,sP 4 1,sO 6 2,(7,.c (.dat true zG)),sI 8],[oB gO,oB jT,oA qK],[(6,none,qK,false)]⟩
def yXy:zE:=sp [sP 3 0,sP 4 1,sO 6 2] [oB gO,oB jT,oA qK]
def yZ7 (f:qY7)(d:vDi.den):=f (wd d) (ge d) (qO d.2.1) (In d,pm d,Do d) (Ng d)
def T8:=aea 0 vDi yXy yAm yZ7 zq fun x=>(((),(),(),()),((vD x.1 ()),(wr x,ip x,x.2.1.2.2,()),x.2.2,()))
def yH7:zE:=sp [sP 3 0,sP 4 1,sO 6 2,sI 9] [oB gO,oB jT,oA qK]
def yZw (f:yBe)(d:yH7.den):=f (wd d) (qO d.2.1) (In d,pm d,Do d) (Ng d)
def T9:=aea 2 yH7 yXy yAm yZw zr fun x=>(((),(),(),()),((vD x.1 ()),(wr x,ip x,x.2.1.2.2,()),x.2.2,()))
def yWt:zE:=⟨[sP 2 0,sP 3 1,sP 4 2,sO 6 3,(7,.c (.dat true zG)),sI 10],[oB pI,oB gO,oB jT,oA qK],[(6,none,qK,false)]⟩
def vMv:zE:=sp [sP 2 0,sP 3 1,sP 4 2,sO 6 3] [oB pI,oB gO,oB jT,oA qK]
def vFf (f:yEz)(d:yWt.den):=f (ge d) (Nh d) (yC d.2.1) (qO (li d)) (ap d,un d,co d) (rg d)
def Ua:=aea 4 yWt vMv yAb vFf vw fun x=>(((),(),(),(),()),((vI x.1 ()),(vD x.2.1 ()),(In x,pm x,x.2.2.1.2.2,()),x.2.2.2,()))
def Ub:zV:=⟨[],[(8,T8),(12,T9),(18,Ua)],[],true⟩
theorem vTo:lc 129 (md f111 0) T8:=lp (A:=Ub) T8 (fun d=>((qO d.2.1),(In d,pm d,Do d),Ng d)) yZ7 zq H0 (e6 T0 wk T1 mN T2 NU) zF
theorem aiu:lc 129 (md f111 1) T9:=lp (A:=Ub) T9 (fun d=>((qO d.2.1),(In d,pm d,Do d),Ng d)) yZw zr H2 (e6 T0 wk T1 mN T2 NU) zF
theorem aiv:lc 129 (md f111 2) Ua:=lp (A:=Ub) Ua (fun d=>((yC d.2.1),(qO (li d)),(ap d,un d,co d),rg d)) vFf vw H3 (e6 T0 wk T1 mN T2 NU) zF
theorem acK:Pa (zH 111 [.agg AH,.agg AI] (.tup [(true,AK),(false,[.own qK])]) (fun k d=>H4 k (yC d) (iJ d)) (fun x=>(vD x.1 (x.2,()))) (fun d=>((qO d),Pi d))):=fA f111 Ub (e6 T0 wk T1 mN T2 NU) (mq (n:=3) (by kernel_rfl) fun i hi=>match i,hi with|0,_=>⟨T8,by kernel_rfl,vTo⟩|1,_=>⟨T9,by kernel_rfl,aiu⟩|2,_=>⟨Ua,by kernel_rfl,aiv⟩|i+3,hi=>absurd hi (by omega))
theorem qUs:Pa (jP 236 [.ptr yP8,.c .i] .i (fun k d=>vr k (TD d) (Rd d))):=fA f236 n0 e0 zF
theorem yJv:Pa (jP 243 [.agg ie,.c .i,.c .i] .i (fun k d=>HI k (yC d) (be d) (ce d))):=fA f243 n0 e0 zF
theorem vU7:Pa (jP 237 [.agg ie,.c .i,.agg vN] .i (fun k d=>CM k (yC d) (be d) (qX6 d))):=fA f237 n0 (e1 yJv) zF
def vEn:zE:=sp [(0,.c (.dat false .i)),sI 1,sI 5] []
def yU6 (f:yCz)(d:vEn.den):=f (kj d) (pi d) (Id d)
def qOl:=aha 0 vEn yNc vDt Unit Bool yU6 tu (fun x=>((),())) fun x=>(((x,()),()),())
def vKs:=aga 2 qOl
theorem vVn:lc 18 (md f182 0) qOl:=lp (A:=vKs) qOl (fun d=>match d with|.inl d=>.inl ()|.inr d=>.inr (kj d)) yU6 tu tv e0 zF
theorem SQ:Pa (jP 182 [.c (.dat false .i),.c .i] .bool (P9 CI)):=fA f182 vKs e0 (loops1 vVn)
def yTt:zE:=sp [(0,.c (.dat true .i)),sI 1,sI 6] []
def yTx (f:yFw)(d:yTt.den):=f (kj d) (pi d) (Id d)
def qRn:=aea 0 yTt yTt (AC×Int×Int) yTx MP fun x=>(((x.1,()),(x.2.1,()),(x.2.2,()),()),())
def yQ4:=aga 6 qRn
theorem aiB:lc 41 (md f238 0) qRn:=lp (A:=yQ4) qRn (fun d=>(kj d,pi d,Id d)) yTx MP HA (e1 SQ) zF
theorem vWa:Pa (MC 238 [.c (.dat true .i),.c .i] (.fro .i) .i (P9 CJ)):=fA f238 yQ4 (e1 SQ) (loops1 aiB)
theorem I5:Pa (jP 235 [.agg vN,.agg vN] .bool (fun k d=>(Jd (Hs k) d))):=fA f235 ja e0 zF
def vK9:zE:=sp [(0,.c (.dat false zG)),sP 3 0,sI 5] [oB wC]
def yXn (f:qSw)(d:vK9.den):=(mM (f (kj d) (Id d)) d.2.1)
def qXc:=aea 0 vK9 yMm Int yXn Hw fun x=>(((x,()),()),())
def vM1:=aia 2 qXc
theorem vNx:lc 21 (md f277 0) qXc:=lp (A:=vM1) qXc (fun d=>(kj d)) yXn Hw Hy (e1 I5) zF
theorem yAx:Pa (jP 277 [.c (.dat false zG),.agg vN] .i (fun k d=>(mL (Hv k) d))):=fA f277 vM1 (e1 I5) (loops1 vNx)
theorem Ou:Pa (jP 276 [.c (.dat false zG),.c .i,.agg vN] (.own zG) (fun k d=>(Tz (CG k) d))):=fA f276 ja e0 zF
theorem aiH:Pa (MC 239 [.c (.dat true zG),.agg vN] (.fro zG) .i (fun k d=>(mL (CH k) d))):=fA f239 ja (e3 I4 yAx Ou) zF
theorem acF:Pa (yF 191 [.ptr true Ds,.agg Oa] (.c .i) [Dt] 0 (fun k d=>RZ k (yL d (Fd d)) (vU6 d)) (fun x=>(x.1,(AG x.2 ()))) (fun d=>(d.1,(Du d)))):=fX f191 n0 1 (e4 qUs vU7 vWa aiH) zF
theorem aiK:Pa (zH 240 [.ptr yP8,.c .i] (.tup [(true,pL),(false,[.bool])]) (fun k d=>vE2 k (TD d) (Rd d)) (fun x=>(gi x.1 (x.2,()))) (fun d=>((vV d),If d))):=fA f240 n0 (e1 I4) zF
def yH4:zE:=sp [(6,.c (.dat true zG)),sP 7 0,sI 9] [oB wC]
def vHn (f:qNc)(d:yH4.den):=f (kj d) (Id d) (vV d.2.1)
def qO9:=aea 0 yH4 yH4 qWe vHn MO fun x=>(((x.1,()),(),(x.2.1,()),()),((gi x.2.2 ()),()))
def vJy:=aga 5 qO9
theorem vNy:lc 40 (md f241 0) qO9:=lp (A:=vJy) qO9 (fun d=>(kj d,Id d,(vV d.2.1))) vHn MO Hz (e3 mN I5 Ou) zF
theorem aiM:Pa (MC 241 [.c (.dat true zG),.c .i] (.fro zG) .i (P9 MM)):=fA f241 vJy (e3 mN I5 Ou) (loops1 vNy)
theorem vN0:Pa (MC 242 [.c (.dat true zG),.c .i] (.fro zG) .i (P9 ML)):=fA f242 n0 (e3 mN yAx Ou) zF
theorem vY0:Pa (MC 244 [.c (.dat true zG),.c .i,.c .i] (.fro zG) .i (wG MK)):=fA f244 n0 (e3 mN yAx Ou) zF
theorem acG:Pa (yF 192 [.ptr true Ds,.c (.p .i),.agg Oa] (.c .i) [Dt] 0 (fun k d=>CO k (yL d (Fd d)) (Rd d) (vGb d)) (fun x=>(x.1,(AG x.2 ()))) (fun d=>(d.1,(Du d)))):=fX f192 n0 1 (e7 aiK mN wk aiM vN0 yJv vY0) zF
theorem acH:Pa (yF 193 [.ptr true Ds,.c (.p .i),.agg Oa] (.c .i) [Dt] 0 (fun k d=>CP k (yL d (Fd d)) (Rd d) (vGb d)) (fun x=>(x.1,(AG x.2 ()))) (fun d=>(d.1,(Du d)))):=fX f193 n0 1 (e2 AF qUs) zF
theorem qX5:Pa (jP 246 [.c (.dat false .i),.c .i,.c .i] (.own .i) (wG vt)):=fA f246 n0 e0 zF
theorem qMz:Pa (jP 302 [.c .i] (.own .i) (mD RM)):=fA f302 n0 e0 zF
def yWp:zE:=sp [sO 0 0,sI 3] [oA .i]
def yQ7:zE:=sp [sO 0 0] [oA .i]
def yJl (f:Int→AC→Option AC)(d:yWp.den):=f (pi d) d.2.1
def qOr:=aea 0 yWp yQ7 AC yJl qYa fun x=>(((),()),(x,()))
def vDb:=aga 2 qOr
theorem vSs:lc 35 (md f303 0) qOr:=lp (A:=vDb) qOr (fun d=>d.2.1) yJl qYa yPa e0 zF
theorem Ov:Pa (yF 303 [.c (.own .i)] (.c (.own .i)) [] 0 (mD Ho) (fun x=>(x,())) (fun d=>d.1)):=fX f303 vDb 0 e0 (loops1 vSs)
def vEl:zE:=sp [sI 1,sO 5 0,sO 6 1,sI 7,sI 8] [oA .i,oA .i]
def vCv:zE:=sp [sI 1,sO 5 0,sO 6 1,sI 7] [oA .i,oA .i]
def yZi (f:qXw)(d:vEl.den):=f (kj d) (wd d) (ge d) d.2.1 (li d)
def yFe:=aea 2 vEl vCv qSt yZi qP0 fun x=>(((x.1,()),(),(),(x.2.1,()),()),(li x,x.2.2.2,()))
def yIt (f:qUe)(d:vCv.den):=f (kj d) (wd d) d.2.1 (li d)
def yAs:=aea 0 vCv vD5 AC yIt RJ fun x=>(((),()),(x,()))
def qVi:zV:=⟨[],[(7,yFe),(4,yAs)],[],true⟩
theorem aiS:lc 47 (zR (md f273 0) 0) yFe:=lp (A:=qVi) yFe (fun d=>(kj d,wd d,d.2.1,li d)) yZi qP0 yN1 (e2 qMz Ov) zF
theorem aiT:lc 47 (md f273 0) yAs:=lp (A:=qVi) yAs (fun d=>d.2.1) yIt RJ yQ6 (e2 qMz Ov) (loops1 aiS)
theorem aiV:Pa (jP 273 [.c .i,.c .i] (.own .i) (P9 RK)):=fA f273 qVi (e2 qMz Ov) (loops1 aiT)
def vAy:zE:=sp [sO 0 0,sI 1,sI 5] [oA .i]
def yV4 (f:Int→Int→AC→Option AC)(d:vAy.den):=f (pi d) (Id d) d.2.1
def qXu:=aea 0 vAy yQ7 AC yV4 RH fun x=>(((),()),(x,()))
def vG7:=aga 2 qXu
theorem aiW:lc 23 (md f274 0) qXu:=lp (A:=vG7) qXu (fun d=>d.2.1) yV4 RH vJ5 (e1 Ov) zF
theorem aiY:Pa (yF 274 [.c (.own .i),.c (.p .i)] (.c (.own .i)) [] 0 (P9 RG) (fun x=>(x,())) (fun d=>d.1)):=fX f274 vG7 0 (e1 Ov) (loops1 aiW)
def vJ9:zE:=sp [sO 0 0,sI 1,sI 6,sI 7] [oA .i]
def vHz (f:qNi)(d:vJ9.den):=f (pi d) (Id d) (wd d) d.2.1
def Uc:=aea 0 vJ9 yQ7 AC vHz MF fun x=>(((),()),(x,()))
def yHe:zE:=sp [sO 0 0,sI 9] [oA .i]
def vJc:zE:=sp [sI 4,(5,.c .bool)] []
def yUz (f:qYf)(d:yHe.den):=f (pi d) d.2.1
def Ud:=aha 2 yHe yQ7 vJc AC eX yUz Hq (fun x=>(((),()),(x,()))) fun x=>(((x.1,()),(x.2,()),()),())
def yBg:zV:=⟨[],[(3,Uc),(9,Ud)],[],true⟩
theorem vNq:lc 66 (md f275 0) Uc:=lp (A:=yBg) Uc (fun d=>d.2.1) vHz MF vEs e0 zF
theorem aiZ:lc 66 (md f275 1) Ud:=lp (A:=yBg) Ud (fun d=>match d with|.inl d=>.inl d.2.1|.inr d=>.inr (kj d,pi d)) yUz Hq vBj e0 zF
theorem vVj:Pa (yF 275 [.c (.own .i),.c (.p .i)] (.tup [(false,yH),(false,[.bool])]) [] 0 (P9 RI) (fun x=>(x.1,x.2,())) (fun d=>(d.1,d.2.1))):=fX f275 yBg 0 e0 (mq (n:=2) (by kernel_rfl) fun i hi=>match i,hi with|0,_=>⟨Uc,by kernel_rfl,vNq⟩|1,_=>⟨Ud,by kernel_rfl,aiZ⟩|i+2,hi=>absurd hi (by omega))
theorem yPq:Pa (MC 233 [.c .i,.c .i,.c .i] .i .bool (wG RT)):=fA f233 n0 (e3 aiV aiY vVj) zF
theorem qMy:Pa (MC 234 [.c .i,.c .i] .i .bool (P9 Ht)):=fA f234 n0 e0 zF
def yVa:zE:=sp [(0,.c (.dat false wK)),(1,.c (.dat false .i)),(2,.c (.dat false .i)),sI 8,sI 9] []
def yZr:zE:=sp [sI 8] []
def yHr (f:qS1)(d:yVa.den):=f (kj d) (pi d) (Id d) (wd d) (ge d)
def qYb:=aha 0 yVa yZr vJ1 Int eX yHr MJ (fun x=>(((x,()),()),())) fun x=>(((x.1,()),(x.2,()),()),())
def yIl:=aga 5 qYb
theorem ai3:lc 63 (md f178 0) qYb:=lp (A:=yIl) qYb (fun d=>match d with|.inl d=>.inl (kj d)|.inr d=>.inr (kj d,pi d)) yHr MJ Hu (e2 yPq qMy) zF
theorem Dr:Pa (MC 178 [.c (.dat false wK),.c (.dat false .i),.c (.dat false .i)] .i .bool (wG zo)):=fA f178 yIl (e2 yPq qMy) (loops1 ai3)
theorem acI:Pa (yF 194 [.ptr true Ds,.c (.p .i),.c (.p .i)] (.c .i) [Dt] 0 (fun k d=>R0 k (yL d (Fd d)) (Rd d) d.2.2.2.2.2.2.2.2.2.2.2.2.2.2.2.2.2.2.2.2.1) (fun x=>(x.1,(AG x.2 ()))) (fun d=>(d.1,(Du d)))):=fX f194 n0 1 (e3 qX5 Dr AF) zF
theorem ai6:Pa (zH 247 [.agg oK,.c .i] (.tup [(true,[.i,.i,.i]),(false,yH)]) (fun k d=>HJ k (d.1,d.2.1,li d) (Ng d)) (fun x=>(x.1.1,x.1.2.1,x.1.2.2,x.2,())) (fun d=>((d.1,d.2.1,li d),Ng d))):=fA f247 n0 (e2 qMy T4) zF
theorem vOa:Pa (yF 195 [.ptr true Ds,.c (.p .bool),.c (.p .i),.c (.p .i)] (.c .i) [Dt] 0 (fun k d=>HK k (yL d (Fd d)) (Rd d) d.2.2.2.2.2.2.2.2.2.2.2.2.2.2.2.2.2.2.2.2.1 d.2.2.2.2.2.2.2.2.2.2.2.2.2.2.2.2.2.2.2.2.2.1) (fun x=>(x.1,(AG x.2 ()))) (fun d=>(d.1,(Du d)))):=fX f195 n0 1 (e3 qUs AF ai6) zF
end
end Go.Ab.Gi
