/- part 100 -/
import Derived.Test.YthjmejbmbagljaaGreatGiXS
import Derived.Test.YthjmejbmbagljaaGreatGiAbE
import Derived.Test.YthjmejbmbagljaaGreatProg
set_option linter.unusedVariables false
set_option maxRecDepth 100000
set_option maxHeartbeats 4000000
namespace Go.Ab.Gi
open Go.RowKit Go.Lib Go.Proofs Go.Proofs.Tryz
noncomputable section
abbrev jR (f l)(r:Go.Ab.RC)(s):=zJ f l (.c r) s (fun x=>(x,())) (fun d=>d.1)
abbrev wH {A B C:Type}(f:Nat→A→C)(k:Nat)(d:A×B):=f k d.1
abbrev xM {A B C E F:Type}(f:Nat→A→B→C→E)(k:Nat)(d:A×B×C×F):=f k d.1 d.2.1 d.2.2.1
abbrev aia (f l)(p q:Go.Ab.RC)(s):=zJ f l (.tup [(false,[p]),(false,[q])]) s (fun x=>(x.1,x.2,())) (fun d=>(d.1,d.2.1))
abbrev aja {A B C E:Type}(f:Nat→A→B→C)(k:Nat)(d:A×B×E):=f k d.1 d.2.1
abbrev aka (n:Nat)(v o:zE)(X:Type){Y:Type}(c:Y→v.den→Option X)(f:Nat→Nat→Y)(g:X→o.den):zV:=⟨[v],[(.exit n,o)],X,fun k d=>c (f k k) d,fun b x _ K=>K (.exit n) (zM b o (g x))⟩
abbrev ala (n:Nat)(s:zV):zW:=⟨[],[(n,s)],[],true⟩
abbrev ama (n:Nat)(v o p:zE)(X Z:Type){Y:Type}(c:Y→v.den→Option (X⊕Z))(f:Nat→Nat→Y)(g:X→o.den)(h:Z→p.den):zV:=⟨[v],[(.exit n,o),(.ret,p)],(X⊕Z),fun k d=>c (f k k) d,fun b x _ K=>match x with|.inl x=>K (.exit n) (zM b o (g x))|.inr x=>K .ret (zM b p (h x))⟩
abbrev ana (n:Nat)(s:zV):zW:=⟨[],[(n,s)],[],false⟩
def md {A B C D E F G:Type}(d:(F×E×D×(A×B)×C)×G):=d.1.2.2.2.1.1
def wd {A B C D E F G H I J K L M N O P Q R S T:Type}(d:T×S×R×Q×P×O×N×M×L×K×J×I×H×G×F×E×D×C×A×B):=d.2.2.2.2.2.2.2.2.2.2.2.2.2.2.2.2.2.2.1
def Fd {A B C D E F:Type}(d:(E×D×(A×B)×C)×F):=d.1.2.2.1.1
def Id {A B C D E F G H I J K L M N O P Q R S T U:Type}(d:U×T×S×R×Q×P×O×N×M×L×K×J×I×H×G×F×E×D×C×A×B):=d.2.2.2.2.2.2.2.2.2.2.2.2.2.2.2.2.2.2.2.1
def Nd {A B C D E F G H:Type}(d:(G×F×E×D×(A×B)×C)×H):=d.1.2.2.2.2.1.1
def Rd {A B C D E F G:Type}(d:G×F×E×D×C×A×B):=d.2.2.2.2.2.1
def be {A B C D E F G H:Type}(d:H×G×F×E×D×C×A×B):=d.2.2.2.2.2.2.1
def ce {A B C D E F G H I:Type}(d:I×H×G×F×E×D×C×A×B):=d.2.2.2.2.2.2.2.1
def ge {A B C D E F G H I:Type}(d:(H×G×F×E×D×(A×B)×C)×I):=d.1.2.2.2.2.2.1.1
def If {A B C D E F:Type}(d:F×E×D×C×A×B):=d.2.2.2.2.1
def rg {A B C D E:Type}(d:E×D×C×A×B):=d.2.2.2.1
def ci {A B C D E F G H I J K L:Type}(d:L×K×J×I×H×G×F×E×D×C×A×B):=d.2.2.2.2.2.2.2.2.2.2.1
def ii {A B C D E F G H I J K L M:Type}(d:M×L×K×J×I×H×G×F×E×D×C×A×B):=d.2.2.2.2.2.2.2.2.2.2.2.1
def li {A B C D E:Type}(d:(D×(A×B)×C)×E):=d.1.2.1.1
def pi {A B C D:Type}(d:D×C×A×B):=d.2.2.1
def Pi {A B C D E F G H I J:Type}(d:J×I×H×G×F×E×D×C×A×B):=d.2.2.2.2.2.2.2.2.1
def dl {A B C D:Type}(d:((A×B)×C)×D):=d.1.1.1
def ul {A B C D E F G H I J K L M N O P Q:Type}(d:Q×P×O×N×M×L×K×J×I×H×G×F×E×D×C×A×B):=d.2.2.2.2.2.2.2.2.2.2.2.2.2.2.2.1
def wl {A B C D E F:Type}(d:F×E×(C×A×B)×D):=d.2.2.1.2.1
def Hl {A B C D E F G H I J:Type}(d:(I×H×G×F×E×D×(A×B)×C)×J):=d.1.2.2.2.2.2.2.1.1
def lm {A B C D E F G H I J K:Type}(d:(J×I×H×G×F×E×D×(A×B)×C)×K):=d.1.2.2.2.2.2.2.2.1.1
def pm {A B C D E F G H I J K L M N:Type}(d:N×M×L×K×J×I×H×G×F×E×D×C×A×B):=d.2.2.2.2.2.2.2.2.2.2.2.2.1
def un {A B C D E F G H I J K:Type}(d:K×J×I×H×G×F×E×D×C×A×B):=d.2.2.2.2.2.2.2.2.2.1
def Fn {A B C D E F G:Type}(d:G×F×E×(C×A×B)×D):=d.2.2.2.1.2.1
def In {A B C D E:Type}(d:E×D×(A×B)×C):=d.2.2.1.1
def co {A B C D E F G H:Type}(d:H×G×F×(D×C×A×B)×E):=d.2.2.2.1.2.2.1
def Do {A B C D E F G:Type}(d:G×F×(D×C×A×B)×E):=d.2.2.1.2.2.1
def ap {A B C D E F:Type}(d:F×E×D×(A×B)×C):=d.2.2.2.1.1
def ip {A B C D E:Type}(d:E×(C×A×B)×D):=d.2.1.2.1
def jp {A B C D E F G H:Type}(d:H×G×F×E×(C×A×B)×D):=d.2.2.2.2.1.2.1
def pp {A B C D E F:Type}(d:F×E×D×C×B×A):=d.2.2.2.2.2
def qr {A B C D E F:Type}(d:F×(D×C×A×B)×E):=d.2.1.2.2.1
def wr {A B C D:Type}(d:D×(A×B)×C):=d.2.1.1
abbrev Pa:zW:=⟨[],[],[],false⟩
abbrev Yb:=zC prog
abbrev gc (l):=jJ ⟨prog,fun _=>false,fe l⟩
abbrev lc:=zU prog 1000 0
abbrev Nc (f i):=zS (zT f) i
theorem gJ:prog.follows .mixedOrders=true:=by kernel_rfl
abbrev n0:zW:=⟨[],[],[],true⟩
theorem e0:gc []:=nZ (l:=[]) gJ trivial
theorem e1 {a0}(h0:Yb a0):gc [a0]:=nZ (l:=[a0]) gJ ⟨h0,trivial⟩
theorem e2 {a0 a1}(h0:Yb a0)(h1:Yb a1):gc [a0,a1]:=nZ (l:=[a0,a1]) gJ ⟨h0,h1,trivial⟩
theorem e3 {a0 a1 a2}(h0:Yb a0)(h1:Yb a1)(h2:Yb a2):gc [a0,a1,a2]:=nZ (l:=[a0,a1,a2]) gJ ⟨h0,h1,h2,trivial⟩
theorem e4 {a0 a1 a2 a3}(h0:Yb a0)(h1:Yb a1)(h2:Yb a2)(h3:Yb a3):gc [a0,a1,a2,a3]:=nZ (l:=[a0,a1,a2,a3]) gJ ⟨h0,h1,h2,h3,trivial⟩
theorem e5 {a0 a1 a2 a3 a4}(h0:Yb a0)(h1:Yb a1)(h2:Yb a2)(h3:Yb a3)(h4:Yb a4):gc [a0,a1,a2,a3,a4]:=nZ (l:=[a0,a1,a2,a3,a4]) gJ ⟨h0,h1,h2,h3,h4,trivial⟩
theorem e6 {a0 a1 a2 a3 a4 a5}(h0:Yb a0)(h1:Yb a1)(h2:Yb a2)(h3:Yb a3)(h4:Yb a4)(h5:Yb a5):gc [a0,a1,a2,a3,a4,a5]:=nZ (l:=[a0,a1,a2,a3,a4,a5]) gJ ⟨h0,h1,h2,h3,h4,h5,trivial⟩
theorem e7 {a0 a1 a2 a3 a4 a5 a6}(h0:Yb a0)(h1:Yb a1)(h2:Yb a2)(h3:Yb a3)(h4:Yb a4)(h5:Yb a5)(h6:Yb a6):gc [a0,a1,a2,a3,a4,a5,a6]:=nZ (l:=[a0,a1,a2,a3,a4,a5,a6]) gJ ⟨h0,h1,h2,h3,h4,h5,h6,trivial⟩
theorem e8 {a0 a1 a2 a3 a4 a5 a6 a7}(h0:Yb a0)(h1:Yb a1)(h2:Yb a2)(h3:Yb a3)(h4:Yb a4)(h5:Yb a5)(h6:Yb a6)(h7:Yb a7):gc [a0,a1,a2,a3,a4,a5,a6,a7]:=nZ (l:=[a0,a1,a2,a3,a4,a5,a6,a7]) gJ ⟨h0,h1,h2,h3,h4,h5,h6,h7,trivial⟩
theorem e9 {a0 a1 a2 a3 a4 a5 a6 a7 a8}(h0:Yb a0)(h1:Yb a1)(h2:Yb a2)(h3:Yb a3)(h4:Yb a4)(h5:Yb a5)(h6:Yb a6)(h7:Yb a7)(h8:Yb a8):gc [a0,a1,a2,a3,a4,a5,a6,a7,a8]:=nZ (l:=[a0,a1,a2,a3,a4,a5,a6,a7,a8]) gJ ⟨h0,h1,h2,h3,h4,h5,h6,h7,h8,trivial⟩
theorem SC {a0 a1 a2 a3 a4 a5 a6 a7 a8 a9}(h0:Yb a0)(h1:Yb a1)(h2:Yb a2)(h3:Yb a3)(h4:Yb a4)(h5:Yb a5)(h6:Yb a6)(h7:Yb a7)(h8:Yb a8)(h9:Yb a9):gc [a0,a1,a2,a3,a4,a5,a6,a7,a8,a9]:=nZ (l:=[a0,a1,a2,a3,a4,a5,a6,a7,a8,a9]) gJ ⟨h0,h1,h2,h3,h4,h5,h6,h7,h8,h9,trivial⟩
theorem e11 {a0 a1 a2 a3 a4 a5 a6 a7 a8 a9 KH}(h0:Yb a0)(h1:Yb a1)(h2:Yb a2)(h3:Yb a3)(h4:Yb a4)(h5:Yb a5)(h6:Yb a6)(h7:Yb a7)(h8:Yb a8)(h9:Yb a9)(Yz:Yb KH):gc [a0,a1,a2,a3,a4,a5,a6,a7,a8,a9,KH]:=nZ (l:=[a0,a1,a2,a3,a4,a5,a6,a7,a8,a9,KH]) gJ ⟨h0,h1,h2,h3,h4,h5,h6,h7,h8,h9,Yz,trivial⟩
def yJ6:zE:=sp [(0,.c (.dat false (.pair .i (.pair .i I3)))),sI 3,sI 4] []
def yVi:zE:=sp [(0,.c (.dat false (.pair .i (.pair .i I3)))),sI 3] []
def vHc (f:qXv)(d:yJ6.den):=f (dl d) (li d) (Fd d)
def qXf:=aka 0 yJ6 yVi qVx vHc IW fun x=>(((x.1,()),(x.2,()),()),())
def A0q:=ala 3 qXf
theorem ace:lc 30 (Nc f4 0) qXf:=lp (A:=A0q) qXf (fun d=>(dl d,li d)) vHc IW IX e0 zF
def R0q:=(jR 4 [.c (.dat false (.pair .i (.pair .i I3)))] .bool (wH Sq))
theorem F0q:Yb R0q:=fA f4 A0q e0 (loops1 ace)
def R1q:=(zJ 5 [.c .i] (.agg [.i,.own wE,.i,.i,.i]) (wH kp) (fun x=>(vK x ())) (fun d=>(yC d)))
theorem F1q:Yb R1q:=fA f5 n0 e0 zF
def R2q:=uD 6 [.c (.p .i)] (.c (.link 0)) [jb] 1 (.c (.nilp)) [] 0 (wH Ss) (fun x=>((),(wG x ()))) (fun x=>((),())) (fun d=>(pH d)) (fun d=>())
theorem F2q:Yb R2q:=fN f6 n0 0 e0 zF
def R3q:=uD 7 [.c (.p .i)] (.c (.link 0)) [lN] 1 (.c (.nilp)) [] 0 (wH Su) (fun x=>((),(wG x ()))) (fun x=>((),())) (fun d=>(pH d)) (fun d=>())
theorem F3q:Yb R3q:=fN f7 n0 0 e0 zF
theorem F4q:Yb (jR 59 [.c .i,.c .i,.c .i] .bool (xM tz)):=fA f59 n0 e0 zF
theorem F5q:Yb (jR 58 [.agg [.i,.i]] .bool (fun k d=>vJl k (d.1,d.2.1))):=fA f58 n0 (e1 F4q) zF
def yRp:zE:=sp [(0,.c (.dat false wE)),(1,.c (.lit (.fn 58 []))),sI 7,sI 8] []
def yGw:zE:=sp [] []
def yMp:zE:=sp [sI 4] []
def yJu (f:qTf)(d:yRp.den):=f (dl d) (Fd d) (md d)
def yB7:=ama 0 yRp yGw yMp Unit Int yJu qYy (fun x=>((),())) fun x=>(((x,()),()),())
def A6q:=ala 2 yB7
theorem vOd:lc 19 (Nc f112 0) yB7:=lp (A:=A6q) yB7 (fun d=>match d with|.inl d=>.inl ()|.inr d=>.inr (dl d)) yJu qYy yUr (e1 F5q) zF
theorem F6q:Yb (jR 112 [.c (.dat false wE),.c (.fn 58)] .i (wH yVv)):=fA f112 A6q (e1 F5q) (loops1 vOd)
theorem F7q:Yb (jR 60 [.c (.dat false wE),.c (.fn 58)] .bool (wH vD4)):=fA f60 n0 (e1 F6q) zF
theorem F8q:Yb (jR 23 [.agg ic] .bool (fun k d=>NG k (yC d))):=fA f23 n0 (e2 F4q F7q) zF
theorem F9q:Yb (jR 192 [.c .i] .bool (wH SD)):=fA f192 n0 e0 zF
theorem acf:Yb (xI 193 false (.int .u8) (.own (.int .u8)) CZ):=fC f193 n0 e0 zF
theorem vYv:Yb (jR 114 [.ptr NV,.c .i] (.own (.int .u8)) (fun k d=>qNb k (vX d) (ci d))):=fA f114 n0 (e2 F9q acf) zF
def yYg:zE:=⟨[(0,.c (.dat false (.int .u8))),sO 2 0],[oA (.sl (.int .u8))],[(2,none,(.sl (.int .u8)),false)]⟩
def yHx:zE:=sp [(0,.c (.dat false (.int .u8))),sO 2 0] [oA (.sl (.int .u8))]
def yJt (f:yBs)(d:yYg.den):=f (dl d) d.2.1
def qTp:=aka 0 yYg yHx qWj yJt Nt fun x=>(((x.1,()),(),()),(x.2,()))
def yKw:=ala 1 qTp
theorem acg:lc 43 (Nc f113 0) qTp:=lp (A:=yKw) qTp (fun d=>(dl d,d.2.1)) yJt Nt Sf e0 zF
theorem aci:Yb (aia 113 [.c (.dat false (.int .u8))] (.own (.sl (.int .u8))) .i (wH qUt)):=fA f113 yKw e0 (loops1 acg)
def yIm:zE:=sp [(0,.c (.dat false (.int .u8))),sO 4 0,(5,.c (.int .u64)),(16,.c (.dat false (.int .u8))),sI 17,sI 18] [oA .i]
def vH8:zE:=sp [(0,.c (.dat false (.int .u8))),sO 4 0,(5,.c (.int .u64))] [oA .i]
def vKg (f:qQo)(d:yIm.den):=f (dl d) (Fd d) (md d) (Nd d) (ge d) d.2.1
def qRv:=aka 2 yIm vH8 qSx vKg EW fun x=>(((x.1,()),(),(x.2.1,()),()),(x.2.2,()))
def yHa:zE:=⟨[(0,.c (.dat false (.int .u8))),sO 4 0],[oA .i],[(4,none,.i,false)]⟩
def yMd:zE:=sp [sO 4 0] [oA .i]
def vC1 (f:AC→AC→Option AC)(d:yHa.den):=f (dl d) d.2.1
def qU2:=aka 0 yHa yMd AC vC1 EX fun x=>(((),()),(x,()))
def yCp:zW:=⟨[],[(7,qRv),(4,qU2)],[],true⟩
theorem acj:lc 36 (zS (Nc f77 0) 0) qRv:=lp (A:=yCp) qRv (fun d=>(dl d,Fd d,d.2.1)) vKg EW PW e0 zF
theorem ack:lc 36 (Nc f77 0) qU2:=lp (A:=yCp) qU2 (fun d=>d.2.1) vC1 EX EY e0 (loops1 acj)
theorem SE:Yb (aia 77 [.c (.dat false (.int .u8))] (.own .i) .i (wH sQ)):=fA f77 yCp e0 (loops1 ack)
theorem vNr:Yb (zJ 61 [.ptr NV,.c .i] (.tup [(false,yG),(false,[.fro (.int .u8)]),(false,[.fro (.sl (.int .u8))])]) (fun k d=>IF k (vX d) (ci d)) (fun x=>(x.1,x.2.1,x.2.2,())) (fun d=>(d.1,d.2.1,pi d))):=fA f61 n0 (e3 vYv aci SE) zF
theorem qWw:Yb (zJ 24 [.ptr NV] (.tup [(false,yG),(false,yG),(false,[.fro (.int .u8)]),(false,[.fro (.sl (.int .u8))]),(false,[.bool])]) (fun k d=>Nw k (vX d)) (fun x=>(vK x ())) (fun d=>(d.1,d.2.1,pi d,rg d,If d))):=fA f24 ⟨[],[],[(2,3)],true⟩ (e1 vNr) (EF (n:=1) (by kernel_rfl) fun i hi=>match i,hi with|0,_=>.inr ⟨by kernel_rfl,zF⟩|i+1,hi=>absurd hi (by omega))
theorem SF:Yb (jR 121 [.c .i] .bool (wH Lt)):=fA f121 Pa e0 zF
def yQ8:zE:=sp [sI 1,sO 5 0,sI 13,sI 14] [oA .i]
def yZw:zE:=sp [sO 5 0] [oA .i]
def yRw (f:qQw)(d:yQ8.den):=f (dl d) (Fd d) (md d) d.2.1
def qMy:=aka 0 yQ8 yZw AC yRw Lu fun x=>(((),()),(x,()))
def yNp:=ana 5 qMy
theorem vPa:lc 23 (Nc f66 0) qMy:=lp (A:=yNp) qMy (fun d=>d.2.1) yRw Lu FP (e1 SF) zF
theorem Df:Yb (jR 66 [.c .i,.c .i] (.own .i) (aja B1)):=fA f66 yNp (e1 SF) (loops1 vPa)
def yLj:zE:=sp [sI 0,sI 1,sO 5 0,sI 13,sI 14] [.mat]
def vHb:zE:=sp [sO 5 0] [.mat]
def vDm (f:yA6)(d:yLj.den):=f (dl d) (li d) (md d) (Nd d) d.2.1
def qSy:=aka 0 yLj vHb EQ vDm Lv fun x=>(((),()),(x,()))
def yVo:zW:=⟨[11],[(5,qSy)],[],false⟩
theorem vRk:lc 25 (Nc f65 0) qSy:=lp (A:=yVo) qSy (fun d=>d.2.1) vDm Lv FR (e2 SF Df) zF
theorem NW:Yb (jR 65 [.c .i,.c .i] (.mat) (aja FQ)):=fA f65 yVo (e2 SF Df) (loops1 vRk)
def yPf:zE:=⟨[sP 1 0,sP 2 1,sI 3,sP 4 2,(20,.c (.dat false wE)),sI 21,sI 22],[oB iF,oB jV,oB SG,oA qR,.mat,oA .i,.mat,oA .i],[(4,some 5,.i,false)]⟩
def yZ5:zE:=sp [sP 1 0,sP 2 1,sI 3,sP 4 2] [oB iF,oB jV,oB SG,oA qR,.mat,oA .i,.mat,oA .i]
def yVd (f:qYw)(d:yPf.den):=f (Fd d) (Nd d) (ge d) (Hl d) (yC d.2.1) (In d,wl d,Do d) (ap d,Fn d,co d) (If d) (Rd d) (be d) (ce d) (Pi d)
def SH:=aka 0 yPf yZ5 qM1 yVd qPl fun x=>(((),(),(x.1,()),(),()),((vK x.2.1 ()),(In x,wl x,x.2.2.1.2.2,()),(ap x,Fn x,x.2.2.2.1.2.2,()),If x,Rd x,be x,ce x,x.2.2.2.2.2.2.2.2,()))
def yO6:zE:=⟨[sP 1 0,sP 2 1,sP 4 2,sI 34,sI 35],[oB iF,oB jV,oB vJr,oA qR,.mat,oA .i,.mat,oA .i,.mat],[(4,some 6,(.sl .i),true)]⟩
def yYn:zE:=sp [sP 2 0,sP 4 1] [oB jV,oB yZ2,oA qR,.mat,oA .i,.mat,oA .i,.mat]
def vA2 (f:qXg)(d:yO6.den):=f (md d) (Nd d) (yC d.2.1) (In d,wl d,Do d) (ap d,Fn d,co d) (If d) (Rd d) (be d) (ce d) (Pi d) (un d)
def SI:=aka 2 yO6 yYn qR8 vA2 qN2 fun x=>(((),(),()),((x.1.1,x.1.2.1,x.1.2.2,()),(wr x,ip x,x.2.1.2.2,()),pi x,rg x,If x,Rd x,be x,x.2.2.2.2.2.2.2,()))
def qZb:zW:=⟨[43,44],[(4,SH),(9,SI)],[],true⟩
theorem acp:lc 48 (Nc f27 0) SH:=lp (A:=qZb) SH (fun d=>(Fd d,(yC d.2.1),(In d,wl d,Do d),(ap d,Fn d,co d),If d,Rd d,be d,ce d,Pi d)) yVd qPl yKr (e2 NW Df) zF
theorem acq:lc 48 (Nc f27 1) SI:=lp (A:=qZb) SI (fun d=>((wr d,ip d,qr d),(In d,wl d,Do d),rg d,If d,Rd d,be d,ce d,Pi d)) vA2 qN2 yIb (e2 NW Df) zF
theorem yJh:Yb (zJ 27 [.agg ic] (.agg qWc) (fun k d=>zk k (yC d)) (fun x=>(vQ x ())) (fun d=>(qP d))):=fA f27 qZb (e2 NW Df) (mm (n:=2) (by kernel_rfl) fun i hi=>match i,hi with|0,_=>⟨SH,by kernel_rfl,acp⟩|1,_=>⟨SI,by kernel_rfl,acq⟩|i+2,hi=>absurd hi (by omega))
theorem qL6:Yb (jR 63 [.c .bool] .i (wH P4)):=fA f63 n0 e0 zF
def yXa:zE:=sp [sO 3 0,sI 5,sI 6,(11,.c (.dat false .i)),sI 12,sI 13] [oA (.int .u8)]
def vB5:zE:=sp [sO 3 0,(11,.c (.dat false .i)),sI 12,sI 13] [oA (.int .u8)]
def yXy (f:qOr)(d:yXa.den):=f (li d) (Fd d) (md d) (Nd d) (ge d) d.2.1
def yAv:=aka 2 yXa vB5 qWo yXy xN fun x=>(((),(x.1,()),(x.2.1,()),(pi x,()),()),(x.2.2.2,()))
def vBs:zE:=sp [sO 3 0] [oA (.int .u8)]
def yX7 (f:qTk)(d:vB5.den):=f (li d) (Fd d) (md d) d.2.1
def qRz:=aka 0 vB5 vBs AC yX7 BS fun x=>(((),()),(x,()))
def qRp:zW:=⟨[],[(6,yAv),(3,qRz)],[],true⟩
theorem vPp:lc 31 (zS (Nc f109 0) 0) yAv:=lp (A:=qRp) yAv (fun d=>(li d,Fd d,md d,d.2.1)) yXy xN P0 e0 zF
theorem vLp:lc 31 (Nc f109 0) qRz:=lp (A:=qRp) qRz (fun d=>d.2.1) yX7 BS E2 e0 (loops1 vPp)
theorem Sv:Yb (jR 109 [.c (.dat false .i)] (.own (.int .u8)) (wH xO)):=fA f109 qRp e0 (loops1 vLp)
theorem yM4:Yb (jR 120 [.c (.dat false .i)] (.own (.int .u8)) (wH P1)):=fA f120 n0 (e1 Sv) zF
def vBi:zE:=⟨[sO 3 0,(6,.c (.dat false (.sl .i))),sI 7,sI 8],[oA (.int .u8)],[(3,none,(.int .u8),false)]⟩
def vBz (f:qVv)(d:vBi.den):=f (li d) (Fd d) (md d) d.2.1
def yDc:=aka 0 vBi vBs AC vBz E4 fun x=>(((),()),(x,()))
def vHv:=ala 3 yDc
theorem acr:lc 18 (Nc f64 0) yDc:=lp (A:=vHv) yDc (fun d=>d.2.1) vBz E4 E5 (e1 yM4) zF
theorem qVy:Yb (jR 64 [.c (.dat false (.sl .i))] (.own (.int .u8)) (wH KV)):=fA f64 vHv (e1 yM4) (loops1 acr)
def yKg:zE:=sp [sP 1 0,sP 3 1,sO 4 2,(39,.c (.dat true qR)),sI 40,sI 41] [oB iG,oB wM,oA (.sl .i)]
def yR8:zE:=sp [sP 1 0,sP 3 1,sO 4 2] [oB iG,oB wM,oA (.sl .i)]
def vHs (f:qXz)(d:yKg.den):=f (md d) (Nd d) (ge d) (qP d.2.1) (jU (pi d)) (rg d)
def SJ:=aka 0 yKg yR8 qVq vHs BU fun x=>(((),(),(),()),((vQ x.1 ()),(jI x.2.1 ()),x.2.2,()))
def vJv:zE:=sp [sP 1 0,sO 4 1,(79,.c (.dat true zH)),sI 80,sI 81] [oB iG,oA (.sl .i)]
def yGa:zE:=sp [sP 1 0,sO 4 1] [oB iG,oA (.sl .i)]
def vIt (f:qV4)(d:vJv.den):=f (Fd d) (md d) (Nd d) (qP d.2.1) (pi d)
def SK:=aka 2 vJv yGa qTw vIt BV fun x=>(((),(),()),((vQ x.1 ()),x.2,()))
def qSp:zW:=⟨[],[(4,SJ),(14,SK)],[],true⟩
theorem vQm:lc 110 (Nc f26 0) SJ:=lp (A:=qSp) SJ (fun d=>((qP d.2.1),(jU (pi d)),rg d)) vHs BU E6 (e2 qL6 qVy) zF
theorem vZj:lc 110 (Nc f26 1) SK:=lp (A:=qSp) SK (fun d=>((qP d.2.1),pi d)) vIt BV E7 (e2 qL6 qVy) zF
theorem Dd:Yb (jR 26 [.agg Aw] (.own (.int .u8)) (fun k d=>ni k (qP d))):=fA f26 qSp (e2 qL6 qVy) (mm (n:=2) (by kernel_rfl) fun i hi=>match i,hi with|0,_=>⟨SJ,by kernel_rfl,vQm⟩|1,_=>⟨SK,by kernel_rfl,vZj⟩|i+2,hi=>absurd hi (by omega))
theorem yKh:Yb (aia 115 [.c (.dat false (.int .u8))] (.own (.int .u8)) .bool (wH KS)):=fA f115 n0 e0 zF
theorem vV6:Yb (jR 116 [.ptr NV] .i (fun k d=>Ro k (vX d))):=fA f116 n0 e0 zF
theorem qMe:Yb (jR 194 [.ptr NV] .bool (fun k d=>rq k (vX d))):=fA f194 n0 e0 zF
theorem qX6:Yb (yB 195 [.ptr true lM] (.c .bool) [jb] 0 (fun k d=>fK k (vX d)) (fun x=>(x.1,(wG x.2 ()))) (fun d=>(d.1,(pH d)))):=fX f195 ⟨[],[],[(6,3)],true⟩ 1 e0 (EF (n:=1) (by kernel_rfl) fun i hi=>match i,hi with|0,_=>.inr ⟨by kernel_rfl,zF⟩|i+1,hi=>absurd hi (by omega))
theorem acx:Yb (yB 117 [.ptr true lM,.c (.p .i)] (.c .i) [jb] 0 (fun k d=>Ho k (vX d) (ci d)) (fun x=>(x.1,(wG x.2 ()))) (fun d=>(d.1,(pH d)))):=fX f117 n0 1 (e3 qMe F9q qX6) zF
theorem vDa:Yb (yB 118 [.ptr true lM,.c (.p .i),.c (.p (.dat false (.int .u8)))] (.c .i) [jb] 0 (fun k d=>vh k (vX d) (ci d) (ii d)) (fun x=>(x.1,(wG x.2 ()))) (fun d=>(d.1,(pH d)))):=fX f118 n0 1 (e3 qMe F9q qX6) zF
theorem yGp:Yb (yB 119 [.ptr true lM] (.c .i) [jb] 0 (fun k d=>tg k (vX d)) (fun x=>(x.1,(wG x.2 ()))) (fun d=>(d.1,(pH d)))):=fX f119 ⟨[],[],[(4,3)],true⟩ 1 (e2 qMe qX6) (EF (n:=1) (by kernel_rfl) fun i hi=>match i,hi with|0,_=>.inr ⟨by kernel_rfl,zF⟩|i+1,hi=>absurd hi (by omega))
theorem yYw:Yb (yB 62 [.ptr true lM,.c (.p .i),.c (.p .i),.c (.p (.dat false (.int .u8)))] (.c .i) [jb] 0 (fun k d=>yr k (vX d) (ci d) (ii d) (pm d)) (fun x=>(x.1,(wG x.2 ()))) (fun d=>(d.1,(pH d)))):=fX f62 n0 1 (e6 Sv yKh vV6 acx vDa yGp) zF
theorem vB9:Yb (uD 25 [.ptr true lM,.c (.p (.dat false (.int .u8)))] (.tup [(false,[.link 1]),(false,[.fro (.int .u8)]),(false,[.fro (.sl (.int .u8))]),(false,yG)]) [jb,SM] 1 (.tup [(false,[.nilp]),(false,[.own (.int .u8)]),(false,[.own (.sl (.int .u8))]),(false,yG)]) [jb] 0 (fun k d=>yEb k (vX d) (ci d)) (fun x=>((),x.1,x.2.1,pi x,(wG (rg x) ((),(jI x.2.2.2.2 ()))))) (fun x=>((),x.1,x.2.1,pi x,(wG x.2.2.2 ()))) (fun d=>(d.2.1,pi d,rg d,(SN d),(yTn d))) (fun d=>(d.2.1,pi d,rg d,(SN d)))):=fN f25 n0 1 (e2 qWw yYw) zF
theorem acA:Yb (zJ 122 [.c (.dat true (.int .u8))] (.tup [(false,[.own .i]),(false,[.fro (.int .u8)]),(false,[.bool])]) (wH Sa) (fun x=>(x.1,x.2.1,x.2.2,())) (fun d=>(d.1,d.2.1,pi d))):=fA f122 n0 (e1 SE) zF
theorem I5:Yb (yB 69 [.ptr true I4] (.c (.own .i)) [[.fro (.int .u8),.bool]] 0 (fun k d=>zw k (d.1,d.2.1)) (fun x=>(x.1,x.2.1,x.2.2,())) (fun d=>(d.1,(d.2.1,pi d)))):=fX f69 n0 1 (e1 acA) zF
theorem qQa:Yb (yB 67 [.ptr true I4,.c (.p .i)] (.c (.own .i)) [[.fro (.int .u8),.bool]] 0 (fun k d=>vz k (d.1,d.2.1) (pi d)) (fun x=>(x.1,x.2.1,x.2.2,())) (fun d=>(d.1,(d.2.1,pi d)))):=fX f67 n0 1 (e1 I5) zF
def vDr:zE:=⟨[sP 0 0,sI 1,sO 5 1],[oB pI,oA (.sl .i)],[(5,none,(.sl .i),false)]⟩
def yLa:zE:=sp [sP 0 0,sO 5 1] [oB pI,oA (.sl .i)]
def yGi (f:qRg)(d:vDr.den):=f (li d) (wr d,ip d) (pi d)
def yBh:=aka 0 vDr yLa qM4 yGi II fun x=>(((),(),()),((x.1.1,x.1.2,()),x.2,()))
def yRa:=ala 2 yBh
theorem acB:zU prog 1000 1 23 (Nc f68 0) yBh:=lp (A:=yRa) yBh (fun d=>((wr d,ip d),pi d)) yGi II IJ (e1 I5) zF
theorem qQq:Yb (yB 68 [.ptr true I4,.c (.p .i)] (.c (.own (.sl .i))) [[.fro (.int .u8),.bool]] 0 (fun k d=>IG k (d.1,d.2.1) (pi d)) (fun x=>(x.1,x.2.1,x.2.2,())) (fun d=>(d.1,(d.2.1,pi d)))):=fX f68 yRa 1 (e1 I5) (loops1 acB)
theorem qVi:Yb (jR 70 [.c (.dat false (.int .u8)),.c (.dat false (.int .u8))] .bool (aja yIz)):=fA f70 n0 e0 zF
def vIk:zE:=⟨[(0,.c (.dat true (.int .u8))),sP 2 0,sP 4 1,sO 5 2,sP 6 3,sI 7],[oB jV,oB pI,oA .i,oB SO,oA qR],[(6,some 1,qR,false)]⟩
def vAj:zE:=sp [(0,.c (.dat true (.int .u8))),sP 2 0,sP 4 1,sO 5 2,sP 6 3] [oB jV,oB pI,oA .i,oB SO,oA qR]
def vHm (f:yAs)(d:vIk.den):=f (dl d) (ge d) (wr d,ip d,qr d) (In d,wl d) (rg d) (d.2.2.2.2.1.1,jp d,d.2.2.2.2.1.2.2.1) (Rd d)
def SP:=aka 0 vIk vAj yAm vHm C3 fun x=>(((x.1,()),(),(),(),(),()),((wr x,ip x,x.2.1.2.2,()),(In x,x.2.2.1.2,()),rg x,(x.2.2.2.2.1.1,jp x,x.2.2.2.2.1.2.2,()),pp x,()))
def ySa:zE:=⟨[(0,.c (.dat true (.int .u8))),sP 2 0,sP 4 1,sP 6 2,sI 9],[oB jV,oB pI,oB qX4,oA qR,oA (.sl .i),oA .i,oA (.sl .i),oA .i,oA (.sl .i),oA zH],[(6,some 7,zH,false)]⟩
def yQ5:zE:=sp [(0,.c (.dat true (.int .u8))),sP 2 0,sP 4 1,sP 6 2] [oB jV,oB pI,oB qX4,oA qR,oA (.sl .i),oA .i,oA (.sl .i),oA .i,oA (.sl .i),oA zH]
def yZ0 (f:qUj)(d:ySa.den):=f (dl d) (Nd d) (wr d,ip d,qr d) (In d,wl d) (ap d,Fn d,co d) (If d) (Rd d) (be d) (ce d) (Pi d) (un d) (ci d)
def SQ:=aka 2 ySa yQ5 qS3 yZ0 C5 fun x=>(((x.1,()),(),(),(),()),((wr x,ip x,x.2.1.2.2,()),(In x,x.2.2.1.2,()),(ap x,Fn x,x.2.2.2.1.2.2,()),If x,Rd x,be x,ce x,Pi x,un x,x.2.2.2.2.2.2.2.2.2.2,()))
def qM0:zW:=⟨[],[(5,SP),(15,SQ)],[],true⟩
theorem acD:lc 146 (Nc f28 0) SP:=lp (A:=qM0) SP (fun d=>(dl d,(wr d,ip d,qr d),(In d,wl d),rg d,(d.2.2.2.2.1.1,jp d,d.2.2.2.2.1.2.2.1),Rd d)) vHm C3 IM (e5 qQa qQq I5 Dd qVi) zF
theorem acE:lc 146 (Nc f28 1) SQ:=lp (A:=qM0) SQ (fun d=>(dl d,(wr d,ip d,qr d),(In d,wl d),(ap d,Fn d,co d),If d,Rd d,be d,ce d,Pi d,un d,ci d)) yZ0 C5 IP (e5 qQa qQq I5 Dd qVi) zF
theorem yJv:Yb (zJ 28 [.c (.dat true (.int .u8))] (.tup [(true,Av),(false,[.bool])]) (wH IS) (fun x=>(vQ x.1 (x.2,()))) (fun d=>((qP d),ii d))):=fA f28 qM0 (e5 qQa qQq I5 Dd qVi) (mm (n:=2) (by kernel_rfl) fun i hi=>match i,hi with|0,_=>⟨SP,by kernel_rfl,acD⟩|1,_=>⟨SQ,by kernel_rfl,acE⟩|i+2,hi=>absurd hi (by omega))
theorem SR:Yb (jR 106 [.c .i] .i (wH uG)):=fA f106 n0 e0 zF
theorem qTh:Yb (zJ 43 [.c (.dat false (.int .u8))] (.tup [(true,pJ),(false,yG)]) (wH BR) (fun x=>(gf x.1 (x.2,()))) (fun d=>((vS d),ce d))):=fA f43 n0 (e2 SE SR) zF
theorem vBn:Yb (zJ 30 [.c (.dat false (.int .u8))] (.tup [(true,yBf),(false,yG)]) (wH Sm) (fun x=>(Dg x.1 (x.2,()))) (fun d=>((kq d),Pi d))):=fA f30 n0 (e2 SE qTh) zF
theorem acG:Yb (jR 142 [.c .i] .bool (wH Rl)):=fA f142 n0 e0 zF
theorem vTr:Yb (jR 143 [.c .i] .bool (wH Mw)):=fA f143 n0 e0 zF
def yX4:zE:=sp [(13,.c (.dat true .i)),sI 14,sI 15] []
def yFv:zE:=sp [(2,.c .bool)] []
def yPq (f:qTt)(d:yX4.den):=f (dl d) (li d) (Fd d)
def qRb:=ama 0 yX4 yGw yFv Unit Bool yPq mD (fun x=>((),())) fun x=>(((x,()),()),())
def vAd:=ala 5 qRb
theorem acI:lc 22 (Nc f144 0) qRb:=lp (A:=vAd) qRb (fun d=>match d with|.inl d=>.inl ()|.inr d=>.inr (dl d)) yPq mD lI (e1 SR) zF
theorem yF2:Yb (jR 144 [.agg vM] .bool (fun k d=>lJ k (vS d))):=fA f144 vAd (e1 SR) (loops1 acI)
theorem acK:Yb (jR 78 [.agg ic,.agg nD,.agg Db] .i (fun k d=>yp k (yC d) (jS d) (qZd d))):=fA f78 n0 (e3 acG vTr yF2) zF
theorem yWm:Yb (jR 204 [.agg vM,.ptr [.i]] .bool (fun k d=>(mF (qXo k) d))):=fA f204 Pa e0 zF
def yP7:zE:=⟨[(1,.c (.lit (.fn 204 [1001000]))),sO 5 1,(8,.c (.dat false zH)),sI 9,sI 10],[.robox [.i],oA zH],[(5,none,zH,false)]⟩
def yXw:zE:=sp [sO 5 0] [oA zH]
def yJe (f:yBl)(d:yP7.den):=f (Fd d) (md d) (Nd d) (wr d) (pi d)
def yEs:=aka 0 yP7 yXw yCz yJe Mj fun x=>(((),()),(x,()))
def yI6:=ana 3 yEs
theorem vUp:lc 23 (Nc f203 0) yEs:=lp (A:=yI6) yEs (fun d=>d.2.1) yJe Mj GS (e1 yWm) zF
theorem acN:Yb (jR 203 [.c (.dat false zH),.fn 204 [[.i]]] (.own zH) (aja qVg)):=fA f203 yI6 (e1 yWm) (loops1 vUp)
theorem NX:Yb (jR 145 [.c (.dat false zH),.c .i] (.own zH) (aja Mi)):=fA f145 Pa (e1 acN) zF
theorem vV0:Yb (yB 80 [.ptr true [.p .i,.p (.nil),.p .i,.p .i,.p .i,.p .i,.p (.nil),.p (.nil),.p (.nil),.p (.nil),.p (.nil),.p (.nil),.p (.nil),.p (.nil),.p .i,.p .bool,.p .i,.p (.nil)],.c (.p .i),.c (.p (.dat false .i))] (.tup []) [[.i,.own wE,.i,.i,.i,.i,.own qR,.mat,.own .i,.mat,.own .i,.mat,.own zH,.own .i,.i,.bool,.i,.own yQ]] 0 (fun k d=>yZo k (d.1,(SS d (d.2.2.2.2.2.2.2.2.2.2.2.2.2.2.1,ul d,d.2.2.2.2.2.2.2.2.2.2.2.2.2.2.2.2.1))) (wd d) (Id d)) (fun x=>(jT x ())) (fun d=>(eW d))):=fX f80 n0 1 e0 zF
theorem vTg:Yb (jR 79 [.agg nD,.c .i] (.own yQ) (fun k d=>R0 k (qP d) (ii d))):=fA f79 n0 (e2 NX vV0) zF
theorem yUg:Yb (yB 80 [.ptr true Ax,.c (.p .i),.c (.p (.dat false .i))] (.tup []) [lO] 0 (fun k d=>R1 k (lP d) (wd d) (Id d)) (fun x=>(jT x ())) (fun d=>(eW d))):=fX f80 n0 1 e0 zF
theorem iH:Yb (jR 71 [.c .i,.c .i,.c .i] .bool (xM vF)):=fA f71 n0 e0 zF
theorem acT:Yb (jR 280 [.agg ic,.c .i] .bool (fun k d=>Mt k (yC d) (Rd d))):=fA f280 n0 e0 zF
theorem acV:Yb (jR 249 [.agg ic,.c .i,.agg vM] .bool (fun k d=>Rh k (yC d) (Rd d) (yCg d))):=fA f249 n0 (e1 acT) zF
theorem qYv:Yb (jR 210 [.agg ic,.c .i,.c .i] .i (fun k d=>Cn k (yC d) (Rd d) (be d))):=fA f210 n0 e0 zF
theorem vEo:Yb (jR 205 [.agg ic,.c .i,.agg vM] .i (fun k d=>Hd k (yC d) (Rd d) (yCg d))):=fA f205 n0 (e2 acV qYv) zF
theorem acY:Yb (jR 278 [.c .i] .bool (wH QR)):=fA f278 n0 e0 zF
theorem vHi:Yb (jR 245 [.c .i,.c .i] .bool (aja QQ)):=fA f245 n0 (e1 acY) zF
theorem yWl:Yb (jR 246 [.c .i] .bool (wH QT)):=fA f246 n0 e0 zF
def yHe:zE:=sp [(0,.c (.dat false .i)),sI 1,sI 6,sI 7,sI 8] []
def yP9:zE:=sp [(0,.c (.dat false .i)),sI 1,sI 6,sI 7] []
def yMr (f:qUb)(d:yHe.den):=f (dl d) (li d) (Fd d) (md d) (Nd d)
def qYi:=aka 0 yHe yP9 qMw yMr LY fun x=>(((x.1,()),(x.2.1,()),(pi x,()),(x.2.2.2,()),()),())
def vBk:=ala 3 qYi
theorem ac0:lc 54 (Nc f200 0) qYi:=lp (A:=vBk) qYi (fun d=>(dl d,li d,Fd d,md d)) yMr LY QS (e2 vHi yWl) zF
theorem vCy:Yb (aia 200 [.c (.dat false .i),.c .i] .i .bool (aja Gt)):=fA f200 vBk (e2 vHi yWl) (loops1 ac0)
theorem NY:Yb (xI 251 false .i (.own .i) qn):=fC f251 Pa e0 zF
theorem vZu (A X:Option Addr)(n c vc:Nat)(w w':World)(rv:Value)(hr:(Builtin.append_ #[52,52] 52 #[.slice A n c,.slice X 1 vc]).run prog w=.ok rv w'):
    Calls prog 250 #[.slice A n c,.int .i64 n,.slice X 1 vc] w fun e pj=>e=.returned rv∧pj=w':=by
  have t0:prog.underlying 52=some (.slice 2):=by kernel_rfl
  have t3:prog.underlying 3=some (.int .i64):=by kernel_rfl
  have z0:∀w,(Go.sizeOf 2).run prog w=.ok 1 w:=fun w=>by kernel_rfl
  have u0:=run_underlying t0;have u3:=run_underlying t3
  go_enter Proofs.Tryz.func250,Proofs.Tryz.ntmps250
  go_wp2_with (at_builtin;refine Lib.wpList_append_run _ rfl _ _ _ _ rfl _ _ rfl rfl _ _ hr ?_)
  all_goals (go_ret;exact⟨rfl,rfl⟩)
theorem ac1:PM prog 250 52 3 1 where
  ends:=vZu
  grow B off n c i X vo vc N G w w1 w2 w3 hi hnc aY MA hG hz hA hB:=by
    simp only[Nat.mul_one] at hA hB;have t0:prog.underlying 52=some (.slice 2):=by kernel_rfl
    have t3:prog.underlying 3=some (.int .i64):=by kernel_rfl
    have z0:∀w,(Go.sizeOf 2).run prog w=.ok 1 w:=fun w=>by kernel_rfl
    have u0:=run_underlying t0;have u3:=run_underlying t3;have mixed:prog.follows .mixedOrders=true:=gJ;have hz2:¬((i:Int)=(n:Int)):=by omega
    have sC:IntKind.i64.wrap ((i:Int)+1)=(i:Int)+1:=by rw[IntKind.wrap_i64];omega
    have j8:(0:Int)≤(i:Int)+1:=by omega
    have gx:i≤n:=by omega
    have gX:((i:Int)+1).toNat=i+1:=by omega
    have hci:¬(c=i):=by omega
    have hz3:(c:Int)<(n:Int)+1:=by omega
    have hb3:(i:Int)≤(n:Int):=by omega
    have hGi:¬(G=i):=by omega
    have ac2:¬(G=i+1):=by omega
    go_enter Proofs.Tryz.func250,Proofs.Tryz.ntmps250
    go_wp2_with (first
      |(at_builtin;refine Lib.wpList_append_run _ rfl _ _ _ _ rfl _ _ rfl rfl _ _ hz ?_)
      |(at_builtin;refine PR _ rfl _ _ 52 52 rfl _ _ rfl rfl (hA _) ?_))
    go_region_law_o (refine PS rfl _ _ 52 52 rfl (.slice (some ⟨N,(i+1),none⟩) (n+1-(i+1)) (G-(i+1))) (.slice (some ⟨B,off+i,none⟩) (n-i) (c-i)) (by simp[Act.eval,Act.put]) (by simp[Act.eval,Act.put]) (hB (G-(i+1)) (c-i)) ?_)
    go_wp2
    go_ret
    exact⟨rfl,rfl⟩
  shift B off n c i X vo vc w w1 w2 hi aY MA su hA hB:=by
    simp only[Nat.mul_one] at hA hB;have t0:prog.underlying 52=some (.slice 2):=by kernel_rfl
    have t3:prog.underlying 3=some (.int .i64):=by kernel_rfl
    have z0:∀w,(Go.sizeOf 2).run prog w=.ok 1 w:=fun w=>by kernel_rfl
    have u0:=run_underlying t0;have u3:=run_underlying t3;have mixed:prog.follows .mixedOrders=true:=gJ;have hz2:¬((i:Int)=(n:Int)):=by omega
    have sC:IntKind.i64.wrap ((i:Int)+1)=(i:Int)+1:=by rw[IntKind.wrap_i64];omega
    have j8:(0:Int)≤(i:Int)+1:=by omega
    have gx:i≤n:=by omega
    have gX:((i:Int)+1).toNat=i+1:=by omega
    have hci:¬(c=i):=by omega
    have vv:=fun lb cb=>yRc (P:=prog) (fo:=281) (tb:=4) (e:=2) (size:=1) Proofs.Tryz.func281 (by kernel_rfl) (by kernel_rfl) (by kernel_rfl) (by kernel_rfl) t0 z0 su vo (off+(i+1)) vc lb cb
    have hb2:¬(c=i+1):=by omega
    have hb3:(i:Int)≤(n:Int)+1:=by omega
    go_enter Proofs.Tryz.func250,Proofs.Tryz.ntmps250
    go_wp2_with (simp only[vv])
    go_region_law_o (refine PS rfl _ _ 52 52 rfl (.slice (some ⟨B,off+(i+1),none⟩) (n-i) (c-(i+1))) (.slice (some ⟨B,off+i,none⟩) (n+1-i) (c-i)) (by simp[Act.eval,Act.put]) (by simp[Act.eval,Act.put]) (hA _ _) ?_)
    go_wp2_with (at_builtin;refine PR _ rfl _ _ 52 52 rfl _ _ rfl rfl (hB _) ?_)
    go_ret
    exact⟨rfl,rfl⟩
def ac3:Nat×nU:=(250,XV .i 8)
theorem ac4:Yb ac3:=vGi (e:=2) (fn:=f250) ac1
theorem yWx:Yb (aia 206 [.c (.dat true .i),.c .i] (.fro .i) .i (aja Gu)):=fA f206 n0 (e3 vCy NY ac4) zF
theorem vKb:Yb (jR 159 [.agg vM,.ptr [.i]] .bool (fun k d=>(mF (Zt k) d))):=fA f159 Pa e0 zF
def yVt:zE:=sp [(0,.c (.dat false zH)),(1,.c (.lit (.fn 159 [1001000]))),sI 7,sI 8] [.robox [.i]]
def yWw (f:qSl)(d:yVt.den):=f (dl d) (Fd d) (md d) (wr d)
def qYj:=ama 0 yVt yGw yMp Unit Int yWw Gh (fun x=>((),())) fun x=>(((x,()),()),())
def yH7:=ana 2 qYj
theorem ac6:lc 19 (Nc f158 0) qYj:=lp (A:=yH7) qYj (fun d=>match d with|.inl d=>.inl ()|.inr d=>.inr (dl d)) yWw Gh Gj (e1 vKb) zF
theorem ac8:Yb (jR 158 [.c (.dat false zH),.fn 159 [[.i]]] .i (aja Zu)):=fA f158 yH7 (e1 vKb) (loops1 ac6)
theorem Ay:Yb (jR 84 [.c (.dat false zH),.c .i] .i (aja pw)):=fA f84 Pa (e1 ac8) zF
theorem ada:Yb (jR 279 [.c .i] .bool (wH QO)):=fA f279 Pa e0 zF
theorem vLn:Yb (jR 248 [.c .i,.c .i] .i (aja LQ)):=fA f248 Pa (e1 ada) zF
def yNm:zE:=sp [sI 3,(6,.c (.dat false .i)),sI 7,sI 8] []
def yJ7:zE:=sp [sI 3] []
def yPg:zE:=sp [sI 2] []
def yIt (f:qOi)(d:yNm.den):=f (dl d) (li d) (Fd d) (md d)
def qMx:=ama 0 yNm yJ7 yPg Int Int yIt LP (fun x=>(((x,()),()),())) fun x=>(((x,()),()),())
def yN0:=ana 3 qMx
theorem vL1:lc 18 (Nc f247 0) qMx:=lp (A:=yN0) qMx (fun d=>match d with|.inl d=>.inl (dl d)|.inr d=>.inr (dl d)) yIt LP yJz e0 zF
theorem ade:Yb (jR 247 [.c (.dat false .i)] .i (wH QN)):=fA f247 yN0 e0 (loops1 vL1)
theorem I7:Yb (jR 202 [.agg vM,.agg vM] .i (fun k d=>(I6 (Gk k) d))):=fA f202 Pa (e2 vLn ade) zF
theorem SU:Yb (xI 253 false zH (.own zH) xX):=fC f253 Pa e0 zF
theorem vR0 (A X:Option Addr)(n c vc:Nat)(w w':World)(rv:Value)(hr:(Builtin.append_ #[55,55] 55 #[.slice A n c,.slice X 1 vc]).run prog w=.ok rv w'):
    Calls prog 252 #[.slice A n c,.int .i64 n,.slice X 1 vc] w fun e pj=>e=.returned rv∧pj=w':=by
  have t0:prog.underlying 55=some (.slice 141):=by kernel_rfl
  have t3:prog.underlying 3=some (.int .i64):=by kernel_rfl
  have z0:∀w,(Go.sizeOf 141).run prog w=.ok 7 w:=fun w=>by kernel_rfl
  have u0:=run_underlying t0;have u3:=run_underlying t3
  go_enter Proofs.Tryz.func252,Proofs.Tryz.ntmps252
  go_wp2_with (at_builtin;refine Lib.wpList_append_run _ rfl _ _ _ _ rfl _ _ rfl rfl _ _ hr ?_)
  all_goals (go_ret;exact⟨rfl,rfl⟩)
theorem adg:PM prog 252 55 3 7 where
  ends:=vR0
  grow B off n c i X vo vc N G w w1 w2 w3 hi hnc aY MA hG hz hA hB:=by
    have t0:prog.underlying 55=some (.slice 141):=by kernel_rfl
    have t3:prog.underlying 3=some (.int .i64):=by kernel_rfl
    have z0:∀w,(Go.sizeOf 141).run prog w=.ok 7 w:=fun w=>by kernel_rfl
    have u0:=run_underlying t0;have u3:=run_underlying t3;have mixed:prog.follows .mixedOrders=true:=gJ;have hz2:¬((i:Int)=(n:Int)):=by omega
    have sC:IntKind.i64.wrap ((i:Int)+1)=(i:Int)+1:=by rw[IntKind.wrap_i64];omega
    have j8:(0:Int)≤(i:Int)+1:=by omega
    have gx:i≤n:=by omega
    have gX:((i:Int)+1).toNat=i+1:=by omega
    have hci:¬(c=i):=by omega
    have hz3:(c:Int)<(n:Int)+1:=by omega
    have hb3:(i:Int)≤(n:Int):=by omega
    have hGi:¬(G=i):=by omega
    have ac2:¬(G=i+1):=by omega
    go_enter Proofs.Tryz.func252,Proofs.Tryz.ntmps252
    go_wp2_with (first
      |(at_builtin;refine Lib.wpList_append_run _ rfl _ _ _ _ rfl _ _ rfl rfl _ _ hz ?_)
      |(at_builtin;refine PR _ rfl _ _ 55 55 rfl _ _ rfl rfl (hA _) ?_))
    go_region_law_o (refine PS rfl _ _ 55 55 rfl (.slice (some ⟨N,(i+1)*7,none⟩) (n+1-(i+1)) (G-(i+1))) (.slice (some ⟨B,off+i*7,none⟩) (n-i) (c-i)) (by simp[Act.eval,Act.put]) (by simp[Act.eval,Act.put]) (hB (G-(i+1)) (c-i)) ?_)
    go_wp2
    go_ret
    exact⟨rfl,rfl⟩
  shift B off n c i X vo vc w w1 w2 hi aY MA su hA hB:=by
    have t0:prog.underlying 55=some (.slice 141):=by kernel_rfl
    have t3:prog.underlying 3=some (.int .i64):=by kernel_rfl
    have z0:∀w,(Go.sizeOf 141).run prog w=.ok 7 w:=fun w=>by kernel_rfl
    have u0:=run_underlying t0;have u3:=run_underlying t3;have mixed:prog.follows .mixedOrders=true:=gJ;have hz2:¬((i:Int)=(n:Int)):=by omega
    have sC:IntKind.i64.wrap ((i:Int)+1)=(i:Int)+1:=by rw[IntKind.wrap_i64];omega
    have j8:(0:Int)≤(i:Int)+1:=by omega
    have gx:i≤n:=by omega
    have gX:((i:Int)+1).toNat=i+1:=by omega
    have hci:¬(c=i):=by omega
    have vv:=fun lb cb=>yRc (P:=prog) (fo:=283) (tb:=4) (e:=141) (size:=7) Proofs.Tryz.func283 (by kernel_rfl) (by kernel_rfl) (by kernel_rfl) (by kernel_rfl) t0 z0 su vo (off+(i+1)*7) vc lb cb
    have hb2:¬(c=i+1):=by omega
    have hb3:(i:Int)≤(n:Int)+1:=by omega
    go_enter Proofs.Tryz.func252,Proofs.Tryz.ntmps252
    go_wp2_with (simp only[vv])
    go_region_law_o (refine PS rfl _ _ 55 55 rfl (.slice (some ⟨B,off+(i+1)*7,none⟩) (n-i) (c-(i+1))) (.slice (some ⟨B,off+i*7,none⟩) (n+1-i) (c-i)) (by simp[Act.eval,Act.put]) (by simp[Act.eval,Act.put]) (hA _ _) ?_)
    go_wp2_with (at_builtin;refine PR _ rfl _ _ 55 55 rfl _ _ rfl rfl (hB _) ?_)
    go_ret
    exact⟨rfl,rfl⟩
def vRs:Nat×nU:=(252,XV zH 56)
theorem SW:Yb vRs:=vGi (e:=141) (fn:=f252) adg
def yNc:zE:=sp [(0,.c (.dat true zH)),sP 3 0,sI 6] [oB vZ]
def yMz (f:qUe)(d:yNc.den):=f (dl d) (Fd d) (vS d.2.1)
def qUy:=aka 1 yNc yNc qRr yMz LU fun x=>(((x.1,()),(),(x.2.1,()),()),((gf x.2.2 ()),()))
def vC4:=ala 6 qUy
theorem adh:lc 40 (Nc f207 0) qUy:=lp (A:=vC4) qUy (fun d=>(dl d,Fd d,(vS d.2.1))) yMz LU Gn (e4 Ay I7 SU SW) zF
theorem SY:Yb (aia 207 [.c (.dat true zH),.agg vM] (.fro zH) .i (fun k d=>xY k d.1 (SX d))):=fA f207 vC4 (e4 Ay I7 SU SW) (loops1 adh)
theorem adj:Yb (yB 146 [.ptr true Az,.agg NZ] (.c .i) [lO] 0 (fun k d=>Ri k (eW d) (vFe d)) (fun x=>(x.1,(jT x.2 ()))) (fun d=>(d.1,(kt d)))):=fX f146 n0 1 (e4 iH vEo yWx SY) zF
theorem yUb:Yb (zJ 208 [.ptr yAp,.c .i] (.tup [(true,pJ),(false,yG)]) (fun k d=>qN4 k (eW d) (wd d)) (fun x=>(gf x.1 (x.2,()))) (fun d=>((vS d),ce d))):=fA f208 n0 (e1 Ay) zF
theorem yIo:Yb (yB 254 [.c (.own zH),.c (.p .i),.c (.p .i)] (.c (.own zH)) [] 0 (xM LO) (fun x=>(x,())) (fun d=>d.1)):=fX f254 Pa 0 e0 zF
theorem ru:Yb (zJ 209 [.c (.dat true zH),.c .i] (.tup [(false,[.fro zH]),(true,pJ),(false,yG)]) (aja qs) (fun x=>(SZ x ())) (fun d=>(S0 d))):=fA f209 Pa (e3 Ay SU yIo) zF
theorem yRb:Yb (yB 80 [.ptr true Az,.c (.p .i),.c (.p (.dat false .i))] (.tup []) [lO] 0 (fun k d=>yo k (eW d) (wd d) (Id d)) (fun x=>(jT x ())) (fun d=>(eW d))):=fX f80 n0 1 e0 zF
theorem yRx:Yb (aia 211 [.c (.dat true zH),.c .i,.c .i] (.fro zH) .i (xM Gp)):=fA f211 n0 (e2 ru SY) zF
theorem yXc:Yb (zJ 209 [.c (.dat false zH),.c .i] (.tup [(false,[.own zH]),(true,pJ),(false,yG)]) (aja ZD) (fun x=>(SZ x ())) (fun d=>(S0 d))):=fA f209 Pa (e3 Ay SU yIo) zF
def vAi:zE:=sp [sO 6 0,sP 7 1,sI 9] [oA zH,oB vZ]
def yU0 (f:qUg)(d:vAi.den):=f (Fd d) d.2.1 (vS (pi d))
def yAj:=aka 0 vAi vAi qUs yU0 LX fun x=>(((),(),(x.1,()),()),(x.2.1,(gf x.2.2 ()),()))
def vG6:=ala 5 yAj
theorem vXl:lc 41 (Nc f212 0) yAj:=lp (A:=vG6) yAj (fun d=>(Fd d,d.2.1,(vS (pi d)))) yU0 LX Gr (e3 yXc I7 SW) zF
theorem vB3:Yb (aia 212 [.c (.dat true zH),.c .i] (.fro zH) .i (aja Gs)):=fA f212 vG6 (e3 yXc I7 SW) (loops1 vXl)
theorem vJ8:Yb (aia 213 [.c (.dat true zH),.c .i] (.fro zH) .i (aja Gq)):=fA f213 n0 (e2 ru SY) zF
theorem vSv:Yb (yB 147 [.ptr true Az,.agg vM] (.c .i) [lO] 0 (fun k d=>Co k (eW d) (I8 d)) (fun x=>(x.1,(jT x.2 ()))) (fun d=>(d.1,(kt d)))):=fX f147 n0 1 (e8 yUb ru yRb iH qYv yRx vB3 vJ8) zF
theorem ads:Yb (xI 255 false qR (.own qR) YB):=fC f255 Pa e0 zF
theorem yOv:Yb (xI 217 true (.sl .i) (.jun) Yy):=fC f217 Pa e0 zF
def yKv:zE:=sp [sO 3 0,(8,.c (.dat true (.sl .i))),sI 9,sI 10] [.pmat]
def vFk:zE:=sp [sO 3 0] [.pmat]
def vH1 (f:qWm)(d:yKv.den):=f (li d) (Fd d) (md d) (wr d) d.2.1.2
def yAc:=aka 0 yKv vFk (EQ×Nat) vH1 K9 fun x=>(((),()),((x.1,x.2),()))
def vAr:=ana 3 yAc
theorem adu:lc 22 (Nc f256 0) yAc:=lp (A:=vAr) yAc (fun d=>d.2.1) vH1 K9 Fs (e2 yOv NY) zF
theorem adw:Yb (jR 256 [.c (.dat true (.sl .i))] (.mat) (wH La)):=fA f256 vAr (e2 yOv NY) (loops1 adu)
theorem pK:Yb (zJ 214 [.agg [.dat false qR,.dat true (.sl .i),.dat false .i,.dat true (.sl .i)]] (.agg [.own qR,.mat,.own .i,.mat]) (fun k d=>(vI (gC k) d)) (fun x=>(jI x ())) (fun d=>(jU d))):=fA f214 Pa (e3 ads adw NY) zF
theorem vF3:Yb (jR 215 [.ptr yAp,.c .i] .bool (fun k d=>qPk k (eW d) (wd d))):=fA f215 n0 (e1 iH) zF
theorem adA:Yb (yB 148 [.ptr true Az,.agg vM] (.c .i) [lO] 0 (fun k d=>Cp k (eW d) (I8 d)) (fun x=>(x.1,(jT x.2 ()))) (fun d=>(d.1,(kt d)))):=fX f148 n0 1 (e3 pK vF3 iH) zF
theorem I9:Yb (jR 216 [.ptr yAp,.c .i] .bool (fun k d=>N0 k (eW d) (wd d))):=fA f216 n0 (e1 iH) zF
theorem vB8:Yb (xI 217 true (.sl .i) (.own (.sl .i)) Hf):=fC f217 Pa e0 zF
theorem Ja:Yb (jR 218 [.c (.dat false .i),.c .i,.c .i] (.own .i) (xM qy)):=fA f218 n0 (e1 NY) zF
theorem vVe:Yb (jR 242 [.c .i] .bool (wH L4)):=fA f242 n0 e0 zF
theorem adD:Yb (aia 243 [.c (.int .u64),.c (.int .u64)] (.int .u64) (.int .u64) (aja Gy)):=fA f243 n0 e0 zF
theorem vPo:Yb (jR 305 [.c (.int .u64)] .i (wH yL5)):=fA f305 n0 e0 zF
theorem yAb:Yb (jR 277 [.c (.int .u64)] .i (wH qRy)):=fA f277 n0 (e1 vPo) zF
def vCu:zE:=sp [(2,.c (.int .u64)),(8,.c (.int .u64)),(9,.c (.int .u64)),(10,.c (.int .u64)),(11,.c (.int .u64)),(13,.c (.int .u64)),(14,.c (.int .u64)),(15,.c (.int .u64)),(16,.c (.int .u64))] []
def yZg:zE:=sp [(2,.c (.int .u64)),(8,.c (.int .u64)),(9,.c (.int .u64)),(10,.c (.int .u64)),(11,.c (.int .u64)),(13,.c (.int .u64)),(14,.c (.int .u64)),(15,.c (.int .u64))] []
def yFy (f:qQh)(d:vCu.den):=f (dl d) (li d) (Fd d) (md d) (Nd d) (ge d) (Hl d) (lm d) d.1.2.2.2.2.2.2.2.2.1.1
def S1:=aka 0 vCu yZg qU yFy zl fun x=>(((x.1,()),(x.2.1,()),(pi x,()),(rg x,()),(If x,()),(Rd x,()),(be x,()),(x.2.2.2.2.2.2.2,()),()),())
def vCg:zE:=sp [(2,.c (.int .u64)),(8,.c (.int .u64)),(9,.c (.int .u64)),(10,.c (.int .u64)),(14,.c (.int .u64)),(15,.c (.int .u64)),(16,.c (.int .u64)),(17,.c (.int .u64)),(18,.c (.int .u64))] []
def yJy:zE:=sp [(2,.c (.int .u64)),(8,.c (.int .u64)),(14,.c (.int .u64)),(15,.c (.int .u64)),(17,.c (.int .u64)),(18,.c (.int .u64))] []
def vI9 (f:qOn)(d:vCg.den):=f (dl d) (li d) (Fd d) (md d) (Nd d) (ge d) (Hl d) (lm d) d.1.2.2.2.2.2.2.2.2.1.1
def S2:=aka 2 vCg yJy Oi vI9 zm fun x=>(((x.1,()),(x.2.1,()),(pi x,()),(rg x,()),(If x,()),(pp x,()),()),())
def yCa:zW:=⟨[],[(17,S1),(24,S2)],[],true⟩
theorem vXs:lc 135 (Nc f244 0) S1:=lp (A:=yCa) S1 (fun d=>(dl d,li d,Fd d,md d,Nd d,ge d,Hl d,lm d)) yFy zl Na (e1 yAb) zF
theorem adF:lc 135 (Nc f244 1) S2:=lp (A:=yCa) S2 (fun d=>(dl d,li d,Fd d,md d,Nd d,ge d)) vI9 zm Nb (e1 yAb) zF
theorem vN5:Yb (aia 244 [.c (.int .u64),.c (.int .u64),.c (.int .u64)] (.int .u64) (.int .u64) (xM Gz)):=fA f244 yCa (e1 yAb) (mm (n:=2) (by kernel_rfl) fun i hi=>match i,hi with|0,_=>⟨S1,by kernel_rfl,vXs⟩|1,_=>⟨S2,by kernel_rfl,adF⟩|i+2,hi=>absurd hi (by omega))
theorem qZ1:Yb ((141,PK)):=XU (fn:=f141)
theorem yYt:Yb (aia 199 [.c .i,.c .i,.c .i] .i .bool (xM GA)):=fA f199 n0 (e4 vVe adD vN5 qZ1) zF
def vHd:zE:=sp [sI 4,(5,.c (.int .u64)),(9,.c (.dat false .i)),sI 10,sI 11] []
def yOa:zE:=sp [sI 4,(5,.c (.int .u64))] []
def yS5 (f:yC1)(d:vHd.den):=f (dl d) (li d) (Fd d) (md d) (Nd d)
def qL4:=aka 0 vHd yOa vH yS5 Gw fun x=>(((x.1,()),(x.2,()),()),())
def vBh:=ana 4 qL4
theorem vMn:lc 37 (Nc f75 0) qL4:=lp (A:=vBh) qL4 (fun d=>(dl d,li d)) yS5 Gw Gx (e1 qZ1) zF
theorem S3:Yb (aia 75 [.c (.dat false .i)] .i .bool (wH Gv)):=fA f75 vBh (e1 qZ1) (loops1 vMn)
def yXb:zE:=⟨[(1,.c (.dat false .i)),(2,.c (.dat false .i)),sO 8 0,(25,.c (.dat false wE)),sI 26,sI 27],[oA .i],[(8,none,.i,false)]⟩
def yQm:zE:=sp [sO 8 0] [oA .i]
def yVg:zE:=sp [sI 6,(7,.c .bool)] []
def yKz (f:qYo)(d:yXb.den):=f (dl d) (li d) (md d) (Nd d) (ge d) d.2.1
def yEa:=ama 0 yXb yQm yVg AC eX yKz qx (fun x=>(((),()),(x,()))) fun x=>(((x.1,()),(x.2,()),()),())
def yGf:=ala 5 yEa
theorem adI:lc 57 (Nc f133 0) yEa:=lp (A:=yGf) yEa (fun d=>match d with|.inl d=>.inl d.2.1|.inr d=>.inr (dl d,li d)) yKz qx sX (e2 yYt S3) zF
theorem AA:Yb (aia 133 [.c (.dat false wE),.c (.dat false .i),.c (.dat false .i)] .i .bool (xM nk)):=fA f133 yGf (e2 yYt S3) (loops1 adI)
theorem adJ:Yb (yB 149 [.ptr true Az,.c (.p .i),.c (.p .i)] (.c .i) [lO] 0 (fun k d=>Rj k (eW d) (wd d) (Id d)) (fun x=>(x.1,(jT x.2 ()))) (fun d=>(d.1,(kt d)))):=fX f149 n0 1 (e6 I9 iH vB8 Ja AA pK) zF
theorem adL:Yb (aia 285 [.c .i,.c .i] .i .bool (aja Rk)):=fA f285 Pa e0 zF
theorem vHu:Yb (jR 124 [.agg oG] .bool (xM P7)):=fA f124 Pa e0 zF
theorem yJ8:Yb (zJ 257 [.agg oG,.c .i] (.tup [(true,[.i,.i,.i]),(false,yG)]) (fun k d=>Mv k (d.1,d.2.1,pi d) (rg d)) (fun x=>(x.1.1,x.1.2.1,x.1.2.2,x.2,())) (fun d=>((d.1,d.2.1,pi d),rg d))):=fA f257 n0 (e2 adL vHu) zF
theorem yKn:Yb (zJ 219 [.agg oG,.c .i] (.tup [(true,[.i,.i,.i]),(false,yG)]) (fun k d=>HE k (d.1,d.2.1,pi d) (rg d)) (fun x=>(x.1.1,x.1.2.1,x.1.2.2,x.2,())) (fun d=>((d.1,d.2.1,pi d),rg d))):=fA f219 n0 (e1 yJ8) zF
theorem S4:Yb (jR 258 [.agg oG,.c .i] .i (fun k d=>(vI (xS k) d))):=fA f258 Pa e0 zF
theorem vGv:Yb (zJ 220 [.agg oG,.c .i,.c .i] (.tup [(true,[.i,.i,.i]),(false,yG)]) (fun k d=>HF k (d.1,d.2.1,pi d) (rg d) (If d)) (fun x=>(x.1.1,x.1.2.1,x.1.2.2,x.2,())) (fun d=>((d.1,d.2.1,pi d),rg d))):=fA f220 n0 (e2 yJ8 S4) zF
theorem vKm:Yb (jR 221 [.agg oG,.c .i] .i (fun k d=>HG k (d.1,d.2.1,pi d) (rg d))):=fA f221 n0 e0 zF
theorem vSc:Yb (yB 150 [.ptr true Az,.c (.p .i),.c (.p .i),.c (.p .i)] (.c .i) [lO] 0 (fun k d=>yEk k (eW d) (wd d) (Id d) d.2.2.2.2.2.2.2.2.2.2.2.2.2.2.2.2.2.2.2.2.1) (fun x=>(x.1,(jT x.2 ()))) (fun d=>(d.1,(kt d)))):=fX f150 n0 1 (e5 iH yKn vGv vKm pK) zF
def yHy:zE:=sp [sP 0 0,sO 7 2,sP 8 3,(40,.c (.dat true (.sl .i))),sI 41,sI 42] [oB qPr,oA yQ,oA .i,oB yTm,oA qR,.mat,oA .i,.mat]
def yKc:zE:=sp [sP 0 0,sO 7 2,sP 8 3] [oB qPr,oA yQ,oA .i,oB yTm,oA qR,.mat,oA .i,.mat]
def yJl:zE:=sp [sP 0 0,sI 6] [oB qPr,oA yQ]
def vDh (f:qWx)(d:yHy.den):=f (md d) (Nd d) (ge d) (lP d.2.1) (pi d) (rg d) (Rd d) (be d) (ce d) (Pi d)
def qMp:zV:=⟨[yHy],[(.exit 0,yKc),(.ret,yJl)],yAz,fun k d=>vDh (qYe k k) d,fun b x _ K=>match x with|.inl x=>K (.exit 0) (zM b yKc (((),(),(),()),((vO x.1 ()),x.2.1,pi x,(),rg x,If x,Rd x,x.2.2.2.2.2.2,())))|.inr x=>K .ret (zM b yJl (((),(x.1,()),()),((vO x.2.1 ()),x.2.2,())))⟩
def vF7:=ala 6 qMp
theorem adR:zU prog 1000 1 81 (Nc f151 0) qMp:=lp (A:=vF7) qMp (fun d=>match d with|.inl d=>.inl ((lP d.2.1),pi d,rg d,Rd d,be d,ce d,Pi d)|.inr d=>.inr (li d,(lP d.2.1),pi d)) vDh qYe vJ9 (e5 I9 iH Ja pK AA) zF
theorem vOi:Yb (yB 151 [.ptr true Az,.c (.p .i),.c (.p .i)] (.c .i) [lO] 0 (fun k d=>vHw k (eW d) (wd d) (Id d)) (fun x=>(x.1,(jT x.2 ()))) (fun d=>(d.1,(kt d)))):=fX f151 vF7 1 (e5 I9 iH Ja pK AA) (loops1 adR)
theorem adS:Yb (yB 81 [.ptr true Az,.agg vM] (.c .i) [lO] 0 (fun k d=>RX k (eW d) (I8 d)) (fun x=>(x.1,(jT x.2 ()))) (fun d=>(d.1,(kt d)))):=fX f81 n0 1 (e6 adj vSv adA adJ vSc vOi) zF
theorem S5:Yb (jR 76 [.agg ic,.c .i] .bool (fun k d=>(ku (Cm k) d))):=fA f76 Pa e0 zF
theorem AB:Yb (zJ 154 [.c .i,.c .i,.c (.dat false .i)] (.agg yBf) (xM re) (fun x=>(Dg x ())) (fun d=>(kq d))):=fA f154 Pa e0 zF
def ySs:zE:=⟨[sP 1 0,sP 2 1,sO 4 2,(10,.c (.dat true zH)),sI 11,sI 12],[oB iG,oB jV,oA yQ],[(4,none,yQ,false)]⟩
def vE0:zE:=sp [sP 1 0,sP 2 1,sO 4 2] [oB iG,oB jV,oA yQ]
def yJ3 (f:yBq)(d:ySs.den):=(tA (f (md d) (Nd d) (ge d)) d.2.1) (In d) (wl d) (Do d) (rg d)
def S6:=aka 0 ySs vE0 qXt yJ3 G6 fun x=>(((),(),(),()),((AE x ()),(ii x,pm x,x.2.2.2.2.2.2.2.2.2.2.2.2.2.1,()),x.2.2.2.2.2.2.2.2.2.2.2.2.2.2,()))
def yOr:zE:=sp [sP 1 0,sP 2 1,sO 4 2,(28,.c (.dat true qR)),sI 29,sI 30] [oB iG,oB jV,oA yQ]
def yZl (f:yEh)(d:yOr.den):=(tA (f (md d) (Nd d) (ge d)) d.2.1) (In d) (wl d) (Do d) (rg d)
def S7:=aka 2 yOr vE0 qXt yZl Mr fun x=>(((),(),(),()),((AE x ()),(ii x,pm x,x.2.2.2.2.2.2.2.2.2.2.2.2.2.1,()),x.2.2.2.2.2.2.2.2.2.2.2.2.2.2,()))
def qNp:zW:=⟨[],[(3,S6),(8,S7)],[],false⟩
theorem vS4:lc 48 (Nc f152 0) S6:=lp (A:=qNp) S6 (fun d=>(AE d.2.1 (In d,wl d,Do d,rg d))) yJ3 G6 G7 (e1 AB) zF
theorem vNk:lc 48 (Nc f152 1) S7:=lp (A:=qNp) S7 (fun d=>(AE d.2.1 (In d,wl d,Do d,rg d))) yZl Mr G9 (e1 AB) zF
theorem yTa:Yb (zJ 152 [.agg Aw] (.tup [(true,[.i,.fro qR,.fro (.sl .i),.fro .i,.fro (.sl .i),.fro .i,.fro (.sl .i),.own zH,.fro .i,.i,.bool]),(false,[.own yQ])]) (fun k d=>(tA (Rg k) d)) (fun x=>(Jb x ())) (fun d=>(Jc d))):=fA f152 qNp (e1 AB) (mm (n:=2) (by kernel_rfl) fun i hi=>match i,hi with|0,_=>⟨S6,by kernel_rfl,vS4⟩|1,_=>⟨S7,by kernel_rfl,vNk⟩|i+2,hi=>absurd hi (by omega))
theorem yKi:Yb (jR 153 [.agg vM,.c .i] .bool (fun k d=>(mF (qXi k) d))):=fA f153 Pa e0 zF
theorem yUj:Yb (jR 155 [.agg ic,.c .i] .bool (fun k d=>(ku (Hc k) d))):=fA f155 Pa e0 zF
theorem adW:Yb (jR 292 [.agg vM,.c .i] .bool (fun k d=>(mF (Ze k) d))):=fA f292 Pa e0 zF
theorem vEp:Yb (jR 291 [.agg vM,.ptr [.i]] .bool (fun k d=>(mF (qOp k) d))):=fA f291 Pa (e1 adW) zF
def yYa:zE:=⟨[(1,.c (.lit (.fn 291 [1001000]))),sO 5 1,(8,.c (.dat false zH)),sI 9,sI 10],[.robox [.i],oA zH],[(5,none,zH,false)]⟩
def ySw (f:yBl)(d:yYa.den):=f (Fd d) (md d) (Nd d) (wr d) (pi d)
def yDn:=aka 0 yYa yXw yCz ySw LG fun x=>(((),()),(x,()))
def vEc:=ana 3 yDn
theorem adY:lc 23 (Nc f203 0) yDn:=lp (A:=vEc) yDn (fun d=>d.2.1) ySw LG F3 (e1 vEp) zF
theorem vVu:Yb (jR 203 [.c (.dat false zH),.fn 291 [[.i]]] (.own zH) (aja Zd)):=fA f203 vEc (e1 vEp) (loops1 adY)
theorem Dh:Yb (jR 263 [.c (.dat false zH),.c .i] (.own zH) (aja F2)):=fA f263 Pa (e1 vVu) zF
theorem vDp:Yb (jR 321 [.agg vM,.ptr vM] .bool (fun k d=>(I6 (Zk k) d))):=fA f321 Pa e0 zF
def yT4:zE:=sp [(0,.c (.dat false zH)),(1,.c (.lit (.fn 321 [1001000]))),sI 7,sI 8] [.robox vZ]
def yI1 (f:qW2)(d:yT4.den):=(mG (f (dl d) (Fd d) (md d)) d.2.1)
def qP4:=ama 0 yT4 yGw yMp Unit Int yI1 LL (fun x=>((),())) fun x=>(((x,()),()),())
def yTo:=ana 2 qP4
theorem vO7:lc 19 (Nc f158 0) qP4:=lp (A:=yTo) qP4 (fun d=>match d with|.inl d=>.inl ()|.inr d=>.inr (dl d)) yI1 LL Ga (e1 vDp) zF
theorem vOq:Yb (jR 158 [.c (.dat false zH),.fn 321 [vM]] .i (fun k d=>(mF (Zl k) d))):=fA f158 yTo (e1 vDp) (loops1 vO7)
theorem vO5:Yb (jR 140 [.c (.dat false zH),.fn 321 [vM]] .bool (fun k d=>(mF (QJ k) d))):=fA f140 Pa (e1 vOq) zF
theorem yLy:Yb (yB 320 [.agg vM,.ptr true [.map],.ptr false [.p (.dat false zH)]] (.c .bool) [[.map]] 0 (fun k d=>(S8 (Zp k) d)) (fun x=>(x.1,x.2,())) (fun d=>(d.1,d.2.1))):=fX f320 Pa 3 (e1 vO5) zF
def yKm:zE:=⟨[(1,.c (.lit (.fn 320 [1001000,1001002]))),sO 5 3,(8,.c (.dat false zH)),sI 9,sI 10],[oB [.lit (.map 1001001)],.imap,.robox [.dat false zH],oA zH],[(5,none,zH,false)]⟩
def ySr:zE:=sp [(1,.c (.lit (.fn 320 [1001000,1001002]))),sO 5 3] [oB [.lit (.map 1001001)],.imap,.robox [.dat false zH],oA zH]
def yHk (f:qR5)(d:yKm.den):=f (Fd d) (md d) (Nd d) (pi d) (ap d) (If d)
def qQe:=aka 0 yKm ySr yC7 yHk Gc fun x=>(((),(),()),((),x.1,(x.2.1,()),x.2.2,()))
def yO7:=ana 3 qQe
theorem vMv:zU prog 1000 2 23 (Nc f203 0) qQe:=lp (A:=yO7) qQe (fun d=>(pi d,ap d,If d)) yHk Gc Gd (e1 yLy) zF
theorem vMi:Yb (yB 203 [.c (.p (.dat false zH)),.fn 320 [(true,[.map]),(false,[.p (.dat false zH)])]] (.c (.own zH)) [[.map]] 0 (xM Zo) (fun x=>(x.1,x.2,())) (fun d=>(d.1,d.2.1))):=fX f203 yO7 2 (e1 yLy) (loops1 vMv)
theorem N1:Yb (jR 308 [.c (.dat false zH),.c .i] (.own zH) (aja LM)):=fA f308 Pa (e2 Dh vMi) zF
theorem qUl:Yb (jR 136 [.agg jZ,.agg vM] .bool (fun k d=>(tA (Fx k) d))):=fA f136 Pa e0 zF
theorem yXj:Yb (jR 322 [.agg vM,.ptr jZ] .bool (fun k d=>(tA (Y9 k) d))):=fA f322 Pa (e1 qUl) zF
def yHw:zE:=sp [(0,.c (.dat false zH)),(1,.c (.lit (.fn 322 [1001000]))),sI 7,sI 8] [.robox jQ]
def vC5 (f:qOm)(d:yHw.den):=(vI (f (dl d) (Fd d) (md d)) d.2.1)
def yEz:=ama 0 yHw yGw yMp Unit Int vC5 LD (fun x=>((),())) fun x=>(((x,()),()),())
def yO0:=ana 2 yEz
theorem ad3:lc 19 (Nc f158 0) yEz:=lp (A:=yO0) yEz (fun d=>match d with|.inl d=>.inl ()|.inr d=>.inr (dl d)) vC5 LD F1 (e1 yXj) zF
theorem vPg:Yb (jR 158 [.c (.dat false zH),.fn 322 [jZ]] .i (fun k d=>(lQ (Za k) d))):=fA f158 yO0 (e1 yXj) (loops1 ad3)
theorem ad5:Yb (jR 140 [.c (.dat false zH),.fn 322 [jZ]] .bool (fun k d=>(lQ (QF k) d))):=fA f140 Pa (e1 vPg) zF
def yXt:zE:=sp [sP 4 0,sP 5 1,(15,.c (.dat false zH)),sI 16,sI 17] [oB [.lit .nsl,.lit .nsl,.lit .nsl],oB yD5,oA .i,oA .i,.mat]
def yK9:zE:=sp [sP 4 0,sP 5 1] [oB [.lit .nsl,.lit .nsl,.lit .nsl],oB yD5,oA .i,oA .i,.mat]
def yN4 (f:yBw)(d:yXt.den):=f (Fd d) (md d) (Nd d) (rg d) (If d) (Rd d)
def qUz:=aka 0 yXt yK9 qW9 yN4 Ly fun x=>(((),(),()),((),(),x.1,x.2.1,x.2.2,()))
def yZv:=ana 3 qUz
theorem vQd:lc 84 (Nc f310 0) qUz:=lp (A:=yZv) qUz (fun d=>(rg d,If d,Rd d)) yN4 Ly FT (e2 Df NW) zF
theorem vAn:Yb (zJ 310 [.c .i,.c (.dat false zH)] (.agg [.own .i,.own .i,.mat]) (aja QA) (fun x=>(x.1,x.2.1,x.2.2,())) (fun d=>(d.1,d.2.1,pi d))):=fA f310 yZv (e2 Df NW) (loops1 vQd)
theorem vCv:Yb (jR 311 [.agg vM,.ptr [.i]] .bool (fun k d=>(mF (Y1 k) d))):=fA f311 Pa e0 zF
def yUz:zE:=sp [(0,.c (.dat false zH)),(1,.c (.lit (.fn 311 [1001000]))),sI 7,sI 8] [.robox [.i]]
def vF9 (f:qSl)(d:yUz.den):=f (dl d) (Fd d) (md d) (wr d)
def yCm:=ama 0 yUz yGw yMp Unit Int vF9 LA (fun x=>((),())) fun x=>(((x,()),()),())
def vH2:=ana 2 yCm
theorem ad8:lc 19 (Nc f158 0) yCm:=lp (A:=vH2) yCm (fun d=>match d with|.inl d=>.inl ()|.inr d=>.inr (dl d)) vF9 LA FU (e1 vCv) zF
theorem ad9:Yb (jR 158 [.c (.dat false zH),.fn 311 [[.i]]] .i (aja Y2)):=fA f158 vH2 (e1 vCv) (loops1 ad8)
theorem vDq:Yb (jR 140 [.c (.dat false zH),.fn 311 [[.i]]] .bool (aja QB)):=fA f140 Pa (e1 ad9) zF
def vD0:zE:=sp [sI 5,(12,.c (.dat false .i)),sI 13,sI 14] []
def yXs:zE:=sp [sI 5] []
def yJs (f:Int→AC→Int→Int→Option Int)(d:vD0.den):=f (dl d) (li d) (Fd d) (md d)
def qSs:=aka 0 vD0 yXs Int yJs FN fun x=>(((x,()),()),())
def yQu:=ana 3 qSs
theorem aea:lc 23 (Nc f323 0) qSs:=lp (A:=yQu) qSs (fun d=>(dl d)) yJs FN FO e0 zF
theorem yL9:Yb (jR 323 [.agg jZ,.c .i] .i (fun k d=>(lQ (Qx k) d))):=fA f323 yQu e0 (loops1 aea)
theorem qWa:Yb (jR 324 [.c .i,.c .i] .bool (aja FW)):=fA f324 Pa e0 zF
theorem yYx:Yb (jR 325 [.agg vM,.ptr [.i],.ptr oG,.ptr S9,.ptr [.i],.ptr jZ] .bool (fun k d=>(aec (Y4 k) d))):=fA f325 Pa (e2 S4 qWa) zF
def vE8:zE:=sp [(0,.c (.dat false zH)),(1,.c (.lit (.fn 325 [1001000,1001001,1001002,1001003,1001004]))),sI 7,sI 8] [.robox [.i],.robox [.i,.i,.i],.robox qYx,.robox [.i],.robox jQ]
def vDe (f:qZw)(d:vE8.den):=(vI (f (dl d) (Fd d) (md d) (wr d) (In d) (wl d) (Do d) (ap d) (Fn d) (co d) d.2.2.2.2.1.1) (Rd d))
def yDq:=ama 0 vE8 yGw yMp Unit Int vDe LC (fun x=>((),())) fun x=>(((x,()),()),())
def yT0:=ana 2 yDq
theorem aed:lc 19 (Nc f158 0) yDq:=lp (A:=yT0) yDq (fun d=>match d with|.inl d=>.inl ()|.inr d=>.inr (dl d)) vDe LC FX (e1 yYx) zF
theorem vL5:Yb (jR 158 [.c (.dat false zH),.fn 325 [[.i],oG,S9,[.i],jZ]] .i (fun k d=>(qLv (Y5 k) d))):=fA f158 yT0 (e1 yYx) (loops1 aed)
theorem yQ6:Yb (jR 140 [.c (.dat false zH),.fn 325 [[.i],oG,S9,[.i],jZ]] .bool (fun k d=>(qLv (QC k) d))):=fA f140 Pa (e1 vL5) zF
def yPj:zE:=sp [(3,.c (.dat false zH)),sP 4 0,sP 5 1,sP 6 2,sP 9 3,sP 10 4,sI 11,(39,.c (.dat false .i)),sI 40,sI 41] [oB qYx,oB jQ,oB [.i],oB [.i,.i,.i],oB [.i]]
def yF3:zE:=sp [(3,.c (.dat false zH)),sP 4 0,sP 5 1,sP 6 2,sP 9 3,sP 10 4,sI 11] [oB qYx,oB jQ,oB [.i],oB [.i,.i,.i],oB [.i]]
def yRd (f:qZ4)(d:yPj.den):=(vI (f (dl d) (Hl d) (lm d) d.1.2.2.2.2.2.2.2.2.1.1 d.1.2.2.2.2.2.2.2.2.2.1.1 (wr d) (ip d) (qr d)) (pi d)) (ap d) d.2.2.2.2.1.1 (jp d) d.2.2.2.2.1.2.2.1 d.2.2.2.2.2.1.1
def qQj:=aka 0 yPj yF3 qQr yRd B3 fun x=>(((x.1,()),(),(),(),(),(),(x.2.1,()),()),((pi x,rg x,If x,()),(vLc x ()),(un x,()),(ci x,ii x,pm x,()),(x.2.2.2.2.2.2.2.2.2.2.2.2.2,()),()))
def yVn:=ana 7 qQj
theorem vU1:lc 59 (Nc f312 0) qQj:=lp (A:=yVn) qQj (fun d=>(dl d,Hl d,wr d,ip d,qr d,(vW (pi d) (ap d,d.2.2.2.2.1.1,jp d,d.2.2.2.2.1.2.2.1,d.2.2.2.2.2.1.1)))) yRd B3 FY (e3 yL9 qWa yQ6) zF
theorem yVl:Yb (jR 312 [.agg S9,.agg jZ,.c .i,.c (.dat false zH)] .bool (fun k d=>(S8 (QE k) d))):=fA f312 yVn (e3 yL9 qWa yQ6) (loops1 vU1)
def yJr:zE:=⟨[(1,.c (.dat false zH)),sP 2 0,sP 5 1,sO 6 5,sI 16,sI 17],[oB jQ,oB yD5,oA .i,oA .i,.mat,oA .i],[(6,none,.i,false)]⟩
def vDd:zE:=sp [sO 6 0] [oA .i]
def vFq (f:qUc)(d:yJr.den):=(vI (f (dl d) (Nd d) (ge d)) d.2.1) (rg d) (If d) (Rd d) (be d)
def qOc:=aka 0 yJr vDd AC vFq FZ fun x=>(((),()),(x,()))
def vI7:=ana 4 qOc
theorem aef:lc 37 (Nc f288 0) qOc:=lp (A:=vI7) qOc (fun d=>d.2.1) vFq FZ F0 (e3 vAn vDq yVl) zF
theorem N2:Yb (jR 288 [.agg jZ,.c (.dat false zH)] (.own .i) (fun k d=>(lQ (B4 k) d))):=fA f288 vI7 (e3 vAn vDq yVl) (loops1 aef)
theorem N3:Yb (jR 309 [.agg jZ,.c (.dat false zH)] .bool (fun k d=>(lQ (B5 k) d))):=fA f309 Pa (e2 ad5 N2) zF
theorem yVj:Yb (jR 293 [.agg vM,.ptr jZ] .bool (fun k d=>(tA (YE k) d))):=fA f293 Pa (e1 qUl) zF
def vA3:zE:=sp [(0,.c (.dat false zH)),(1,.c (.lit (.fn 293 [1001000]))),sI 7,sI 8] [.robox jQ]
def vGb (f:qOm)(d:vA3.den):=(vI (f (dl d) (Fd d) (md d)) d.2.1)
def qYg:=ama 0 vA3 yGw yMp Unit Int vGb Li (fun x=>((),())) fun x=>(((x,()),()),())
def yGd:=ana 2 qYg
theorem aei:lc 19 (Nc f158 0) qYg:=lp (A:=yGd) qYg (fun d=>match d with|.inl d=>.inl ()|.inr d=>.inr (dl d)) vGb Li Fy (e1 yVj) zF
theorem vKv:Yb (jR 158 [.c (.dat false zH),.fn 293 [jZ]] .i (fun k d=>(lQ (YF k) d))):=fA f158 yGd (e1 yVj) (loops1 aei)
theorem yIr:Yb (jR 140 [.c (.dat false zH),.fn 293 [jZ]] .bool (fun k d=>(lQ (Qj k) d))):=fA f140 Pa (e1 vKv) zF
theorem yQi:Yb (jR 123 [.agg oG] .bool (xM Yo)):=fA f123 Pa (e1 vHu) zF
def yH4:zE:=sp [(0,.c (.dat false qR)),(1,.c (.lit (.fn 123 []))),sI 7,sI 8] []
def vH3 (f:qY5)(d:yH4.den):=f (dl d) (Fd d) (md d)
def qY3:=ama 0 yH4 yGw yMp Unit Int vH3 K0 (fun x=>((),())) fun x=>(((x,()),()),())
def vCa:=ana 2 qY3
theorem vU5:lc 19 (Nc f196 0) qY3:=lp (A:=vCa) qY3 (fun d=>match d with|.inl d=>.inl ()|.inr d=>.inr (dl d)) vH3 K0 Fg (e1 yQi) zF
theorem vR6:Yb (jR 196 [.c (.dat false qR),.c (.fn 123)] .i (wH Yp)):=fA f196 vCa (e1 yQi) (loops1 vU5)
theorem aem:Yb (jR 125 [.c (.dat false qR),.c (.fn 123)] .bool (wH P9)):=fA f125 Pa (e1 vR6) zF
theorem aen:Yb (jR 127 [.c .i] .bool (wH Yl)):=fA f127 Pa e0 zF
theorem yKe:Yb (jR 197 [.c .i,.ptr [.fn 127]] .bool (wH Yr)):=fA f197 Pa (e1 aen) zF
def yM9:zE:=sp [(0,.c (.dat false .i)),(1,.c (.lit (.fn 197 [1001000]))),sI 7,sI 8] [.robox [.lit (.fn 127 [])]]
def yRs (f:yFc)(d:yM9.den):=f (dl d) (Fd d) (md d)
def yDg:=ama 0 yM9 yGw yMp Unit Int yRs K1 (fun x=>((),())) fun x=>(((x,()),()),())
def vGs:=ana 2 yDg
theorem aeo:lc 19 (Nc f198 0) yDg:=lp (A:=vGs) yDg (fun d=>match d with|.inl d=>.inl ()|.inr d=>.inr (dl d)) yRs K1 Fh (e1 yKe) zF
theorem vUu:Yb (jR 198 [.c (.dat false .i),.fn 197 [[.fn 127]]] .i (wH Ys)):=fA f198 vGs (e1 yKe) (loops1 aeo)
theorem aeq:Yb (jR 131 [.c (.dat false .i),.fn 197 [[.fn 127]]] .bool (wH Qa)):=fA f131 Pa (e1 vUu) zF
theorem qS2:Yb (jR 128 [.c (.dat false .i),.c .i,.c (.fn 127)] .bool (aja K3)):=fA f128 Pa (e1 aeq) zF
def vCx:zE:=sp [sI 1,(2,.c (.lit (.fn 127 []))),(13,.c (.dat false (.sl .i))),sI 14,sI 15] []
def yNa:zE:=sp [(6,.c .bool)] []
def yQ9 (f:qZu)(d:vCx.den):=f (dl d) (Fd d) (md d) (Nd d)
def yBb:=ama 0 vCx yGw yNa Unit Bool yQ9 K4 (fun x=>((),())) fun x=>(((x,()),()),())
def yNz:=ana 4 yBb
theorem vOv:lc 25 (Nc f126 0) yBb:=lp (A:=yNz) yBb (fun d=>match d with|.inl d=>.inl ()|.inr d=>.inr (dl d)) yQ9 K4 Fj (e1 qS2) zF
theorem aes:Yb (jR 126 [.c (.dat false (.sl .i)),.c .i,.c (.fn 127)] .bool (aja Qd)):=fA f126 yNz (e1 qS2) (loops1 vOv)
theorem vY9:Yb (jR 129 [.c .i] .bool (wH P8)):=fA f129 Pa e0 zF
theorem yI8:Yb (jR 197 [.c .i,.ptr [.fn 129]] .bool (wH Yu)):=fA f197 Pa (e1 vY9) zF
def yOl:zE:=sp [(0,.c (.dat false .i)),(1,.c (.lit (.fn 197 [1001000]))),sI 7,sI 8] [.robox [.lit (.fn 129 [])]]
def vFi (f:yFc)(d:yOl.den):=f (dl d) (Fd d) (md d)
def qQ9:=ama 0 yOl yGw yMp Unit Int vFi K2 (fun x=>((),())) fun x=>(((x,()),()),())
def yWb:=ana 2 qQ9
theorem vQ4:lc 19 (Nc f198 0) qQ9:=lp (A:=yWb) qQ9 (fun d=>match d with|.inl d=>.inl ()|.inr d=>.inr (dl d)) vFi K2 Fi (e1 yI8) zF
theorem vVf:Yb (jR 198 [.c (.dat false .i),.fn 197 [[.fn 129]]] .i (wH Yv)):=fA f198 yWb (e1 yI8) (loops1 vQ4)
theorem vMw:Yb (jR 131 [.c (.dat false .i),.fn 197 [[.fn 129]]] .bool (wH Qb)):=fA f131 Pa (e1 vVf) zF
theorem yKa:Yb (jR 128 [.c (.dat false .i),.c .i,.c (.fn 129)] .bool (aja Qc)):=fA f128 Pa (e1 vMw) zF
def yOp:zE:=sp [sI 1,(2,.c (.lit (.fn 129 []))),(13,.c (.dat false (.sl .i))),sI 14,sI 15] []
def vGe (f:qZu)(d:yOp.den):=f (dl d) (Fd d) (md d) (Nd d)
def yBp:=ama 0 yOp yGw yNa Unit Bool vGe K5 (fun x=>((),())) fun x=>(((x,()),()),())
def yG9:=ana 4 yBp
theorem aeu:lc 25 (Nc f126 0) yBp:=lp (A:=yG9) yBp (fun d=>match d with|.inl d=>.inl ()|.inr d=>.inr (dl d)) vGe K5 Fk (e1 yKa) zF
theorem vMt:Yb (jR 126 [.c (.dat false (.sl .i)),.c .i,.c (.fn 129)] .bool (aja Qe)):=fA f126 yG9 (e1 yKa) (loops1 aeu)
def yYe:zE:=sp [(0,.c (.dat false (.sl .i))),sI 3,(7,.c (.dat false (.sl .i))),sI 8,sI 9,(14,.c (.dat false .i)),sI 15,sI 16] []
def vDl:zE:=sp [(0,.c (.dat false (.sl .i))),(7,.c (.dat false (.sl .i))),sI 8,sI 9] []
def vJc (f:qQ8)(d:yYe.den):=f (dl d) (li d) (Fd d) (md d) (Nd d) (ge d) (Hl d) (lm d)
def qMm:zV:=⟨[yYe],[(.exit 2,vDl),(.ret,yFv)],qT7,fun k d=>vJc (Fl k k) d,fun b x _ K=>match x with|.inl x=>K (.exit 2) (zM b vDl (((x.1,()),(x.2.1,()),(pi x,()),(x.2.2.2,()),()),()))|.inr x=>K .ret (zM b yFv (((x,()),()),()))⟩
def yKj (f:qSz)(d:vDl.den):=f (dl d) (li d) (Fd d) (md d)
def qSu:=ama 0 vDl yGw yFv Unit Bool yKj K6 (fun x=>((),())) fun x=>(((x,()),()),())
def yD1:zW:=⟨[],[(5,qMm),(2,qSu)],[],false⟩
theorem vWp:lc 33 (zS (Nc f130 0) 0) qMm:=lp (A:=yD1) qMm (fun d=>match d with|.inl d=>.inl (dl d,li d,Fd d,md d)|.inr d=>.inr (dl d)) vJc Fl Fm e0 zF
theorem aew:lc 33 (Nc f130 0) qSu:=lp (A:=yD1) qSu (fun d=>match d with|.inl d=>.inl ()|.inr d=>.inr (dl d)) yKj K6 Fo e0 (loops1 vWp)
theorem aey:Yb (jR 130 [.c (.dat false (.sl .i))] .bool (wH Qf)):=fA f130 yD1 e0 (loops1 aew)
theorem Ta:Yb (jR 72 [.agg jZ] .bool (fun k d=>(vI (Fp k) d))):=fA f72 Pa (e5 aem aes qS2 vMt aey) zF
def yK0:zE:=sp [sP 2 0,sP 4 1,sP 7 2,(24,.c (.dat false zH)),sI 25,sI 26] [oB wM,oB oH,oB tB,oA qR,.mat,oA .i,.mat]
def yW4:zE:=sp [sP 2 0,sP 4 1,sP 7 2] [oB wM,oB oH,oB tB,oA qR,.mat,oA .i,.mat]
def yUf (f:qMk)(d:yK0.den):=(vI (f (md d) (Nd d) (ge d)) d.2.1) (If d) (Rd d) (be d) (ce d)
def qWp:=aka 0 yK0 yW4 qZs yUf FB fun x=>(((),(),(),()),((vW x ()),(),(),If x,Rd x,be x,x.2.2.2.2.2.2.2,()))
def yZ1:=ana 6 qWp
theorem aez:lc 104 (Nc f264 0) qWp:=lp (A:=yZ1) qWp (fun d=>(vW d.2.1 (If d,Rd d,be d,ce d))) yUf FB FC (e4 yIr pK S4 Ta) zF
theorem Dl:Yb (zJ 264 [.agg lq,.c (.dat false zH)] (.tup [(true,nE),(false,yG)]) (fun k d=>(lQ (qp k) d)) (fun x=>(vK x ())) (fun d=>(yC d))):=fA f264 yZ1 (e4 yIr pK S4 Ta) (loops1 aez)
def yPv:zE:=sp [sP 3 0,sP 6 1,sP 7 2,sO 15 3,sI 16,sI 17] [oB wM,oB vZ,oB oH,oA zH]
def vIu:zE:=sp [sP 3 0,sP 6 1,sP 7 2] [oB wM,oB vZ,oB oH]
def vIh:zE:=sp [sP 6 0,sP 7 1,(8,.c .bool)] [oB vZ,oB wM]
def vE7 (f:yEw)(d:yPv.den):=(mG (vI (f (Nd d) (ge d)) d.2.1) (pi d)) (If d)
def qZq:zV:=⟨[yPv],[(.exit 0,vIu),(.ret,vIh)],qNf,fun k d=>vE7 (L6 k k) d,fun b x _ K=>match x with|.inl x=>K (.exit 0) (zM b vIu (((),(),(),()),((vW x ()),(N4 x ()),(),())))|.inr x=>K .ret (zM b vIh (((),(),(x.1,()),()),((yFk x ()),(aeB x ()),())))⟩
def vI1:=ana 2 qZq
theorem aeC:lc 40 (Nc f286 0) qZq:=lp (A:=vI1) qZq (fun d=>match d with|.inl d=>.inl (vW d.2.1 (vS (pi d)))|.inr d=>.inr (Fd d,(kk d.2.1 (jU (pi d))))) vE7 L6 GG (e3 N1 N3 Dl) zF
theorem yMv:Yb (zJ 286 [.agg lq,.c (.dat true zH),.c .i] (.tup [(true,pJ),(true,nE),(false,[.bool])]) (fun k d=>(ku (Q0 k) d)) (fun x=>(Jb x ())) (fun d=>(Jc d))):=fA f286 vI1 (e3 N1 N3 Dl) (loops1 aeC)
def vJi:zE:=⟨[sI 2,sP 6 0,(7,.c (.dat true zH)),sO 8 1],[oB wM,oA zH],[(8,none,zH,false)]⟩
def yFx:zE:=sp [sP 6 0,(7,.c (.dat true zH)),sO 8 1] [oB wM,oA zH]
def vEl (f:qQ7)(d:vJi.den):=(vI (f (dl d) (Fd d)) d.2.1) (pi d)
def qSb:zV:=⟨[vJi],[(.ret,yFx)],qWt,fun k d=>vEl (L7 k k) d,fun b x _ K=>K .ret (zM b yFx (((),(x.1,()),(),()),((iI x ()),pp x,())))⟩
def yLh:=ana 2 qSb
theorem aeE:lc 40 (Nc f259 0) qSb:=lp (A:=yLh) qSb (fun d=>(li d,(vW d.2.1 (pi d)))) vEl L7 GI (e2 yMv ru) zF
theorem yZ6:Yb (zJ 259 [.agg lq,.c (.dat true zH),.c .i] (.tup [(true,nE),(false,[.fro zH]),(false,[.own zH])]) (fun k d=>(ku (Q1 k) d)) (fun x=>(oI x ())) (fun d=>(nF d))):=fA f259 yLh (e2 yMv ru) (loops1 aeE)
def yZd:zE:=sp [sP 3 0,sP 6 1,sO 8 2,sP 10 3,sO 18 2,sI 19,sI 20,sO 24 2,sI 25,sI 26] [oB wM,oB Tb,oA zH,oB vZ]
def yVu:zE:=sp [sP 3 0,sP 6 1,sO 8 2,sO 18 2,sI 19,sI 20] [oB wM,oB Tb,oA zH]
def yXg:zE:=sp [sP 6 0,(7,.c .bool)] [oB vI5]
def vKn (f:qP1)(d:yZd.den):=(mG ((I6 (vI (f (ge d) (Hl d) d.1.2.2.2.2.2.2.2.2.1.1 d.1.2.2.2.2.2.2.2.2.2.1.1) d.2.1) (pi d)) (rg d)) (If d))
def yDk:zV:=⟨[yZd],[(.exit 2,yVu),(.ret,yXg)],qO5,fun k d=>vKn (L8 k k) d,fun b x _ K=>match x with|.inl x=>K (.exit 2) (zM b yVu (((),(),(),(),(x.1,()),(x.2.1,()),()),((SS x ()),(aeG x ()),x.2.2.2.2.2.2.2.2.2.2.2.2.2.2.2.2.2.2.2.2,())))|.inr x=>K .ret (zM b yXg (((),(x.1,()),()),((yBm x ()),())))⟩
def yIp:zE:=sp [sP 6 0] [oB Tb]
def yY7 (f:qMr)(d:yVu.den):=(I6 (vI (f (Nd d) (ge d)) d.2.1) (pi d)) (rg d)
def yB9:zV:=⟨[yVu],[(.exit 0,yIp),(.ret,yXg)],qXs,fun k d=>yY7 (Ma k k) d,fun b x _ K=>match x with|.inl x=>K (.exit 0) (zM b yIp (((),()),((qY2 x ()),())))|.inr x=>K .ret (zM b yXg (((),(x.1,()),()),((yBm x ()),())))⟩
def qL5:zW:=⟨[],[(6,yDk),(3,yB9)],[],false⟩
theorem vS5:lc 74 (zS (Nc f287 0) 0) yDk:=lp (A:=qL5) yDk (fun d=>match d with|.inl d=>.inl (Nd d,ge d,(vW d.2.1 (qTb (pi d) (rg d))))|.inr d=>.inr (li d,(eW d.2.1))) vKn L8 GL (e3 N1 N3 Dl) zF
theorem vPj:lc 74 (Nc f287 0) yB9:=lp (A:=qL5) yB9 (fun d=>match d with|.inl d=>.inl (yRt d.2.1)|.inr d=>.inr (li d,(eW d.2.1))) yY7 Ma GM (e3 N1 N3 Dl) (loops1 vS5)
theorem qPa:Yb (zJ 287 [.agg lq,.c (.dat true zH),.c .i] (.tup [(true,[.i,.i,.i,.i,.i,.i,.i,.i,.i,.i,.i,.i,.i,.i,.fro qR,.fro (.sl .i),.fro .i,.fro (.sl .i)]),(false,[.bool])]) (fun k d=>(ku (Q3 k) d)) (fun x=>(AF x ())) (fun d=>(Tc d))):=fA f287 qL5 (e3 N1 N3 Dl) (loops1 vPj)
def yRl:zE:=⟨[sI 2,sP 6 0,(7,.c (.dat true zH)),sO 8 1,sO 33 2,sI 34,sI 35],[oB wM,oA zH,oA zH],[(8,none,zH,false)]⟩
def yTz:zE:=sp [sI 2,sP 6 0,(7,.c (.dat true zH)),sO 8 1] [oB wM,oA zH]
def yMx (f:qQ6)(d:yRl.den):=(vI (f (dl d) (Fd d) (ge d) (Hl d)) d.2.1) (pi d) (rg d)
def qSd:=aka 2 yRl yTz qN3 yMx yc fun x=>(((x.1,()),(),(x.2.1,()),(),()),((SS x ()),x.2.2.2.2.2.2,()))
def vDi (f:qQ7)(d:vJi.den):=(vI (f (dl d) (Fd d)) d.2.1) (pi d)
def qT2:zV:=⟨[vJi],[(.ret,yFx)],qWt,fun k d=>vDi (Mb k k) d,fun b x _ K=>K .ret (zM b yFx (((),(x.1,()),(),()),((iI x ()),pp x,())))⟩
def qOz:zW:=⟨[],[(7,qSd),(2,qT2)],[],false⟩
theorem vL9:lc 52 (zS (Nc f260 0) 0) qSd:=lp (A:=qOz) qSd (fun d=>(dl d,Fd d,(vW d.2.1 (pi d)))) yMx yc yd (e2 qPa ru) zF
theorem vN0:lc 52 (Nc f260 0) qT2:=lp (A:=qOz) qT2 (fun d=>(li d,(vW d.2.1 (pi d)))) vDi Mb GN (e2 qPa ru) (loops1 vL9)
theorem yQw:Yb (zJ 260 [.agg lq,.c (.dat true zH),.c .i] (.tup [(true,nE),(false,[.fro zH]),(false,[.own zH])]) (fun k d=>(ku (Q4 k) d)) (fun x=>(oI x ())) (fun d=>(nF d))):=fA f260 qOz (e2 qPa ru) (loops1 vN0)
def yOq (f:qQ7)(d:vJi.den):=(vI (f (dl d) (Fd d)) d.2.1) (pi d)
def yEi:zV:=⟨[vJi],[(.ret,yFx)],qWt,fun k d=>yOq (Mm k k) d,fun b x _ K=>K .ret (zM b yFx (((),(x.1,()),(),()),((iI x ()),pp x,())))⟩
def vAm:=ana 2 yEi
theorem aeI:lc 40 (Nc f222 0) yEi:=lp (A:=vAm) yEi (fun d=>(li d,(vW d.2.1 (pi d)))) yOq Mm Rb (e2 yZ6 yQw) zF
theorem vSf:Yb (zJ 222 [.agg lq,.c (.dat true zH),.c .i] (.tup [(true,nE),(false,[.fro zH]),(false,[.own zH])]) (fun k d=>(ku (Mn k) d)) (fun x=>(oI x ())) (fun d=>(nF d))):=fA f222 vAm (e2 yZ6 yQw) (loops1 aeI)
theorem aeK:Yb (xI 289 false .i (.own .i) Z9):=fC f289 Pa e0 zF
theorem yH3:Yb (yB 290 [.agg vM,.ptr true [.own .i]] (.c .bool) [[.own .i]] 0 (fun k d=>(mF (yDd k) d)) (fun x=>(x.1,x.2,())) (fun d=>(d.1,d.2.1))):=fX f290 Pa 2 e0 zF
def vF8:zE:=⟨[(1,.c (.lit (.fn 290 [1001000]))),sO 5 2,(8,.c (.dat false zH)),sI 9,sI 10],[oB [.lit (.osl 1001001 none)],oA .i,oA zH],[(5,none,zH,false)]⟩
def yIa:zE:=sp [(1,.c (.lit (.fn 290 [1001000]))),sO 5 2] [oB [.lit (.osl 1001001 none)],oA .i,oA zH]
def yY6 (f:qO0)(d:vF8.den):=f (Fd d) (md d) (Nd d) (pi d) (rg d)
def qSi:=aka 0 vF8 yIa qS7 yY6 GQ fun x=>(((),(),()),((),x.1,x.2,()))
def vFs:=ana 3 qSi
theorem vUq:zU prog 1000 2 23 (Nc f203 0) qSi:=lp (A:=vFs) qSi (fun d=>(pi d,rg d)) yY6 GQ GR (e1 yH3) zF
theorem aeM:Yb (yB 203 [.c (.p (.dat false zH)),.fn 290 [(true,[.own .i])]] (.c (.own zH)) [[.own .i]] 0 (aja qLx) (fun x=>(x.1,x.2,())) (fun d=>(d.1,d.2.1))):=fX f203 vFs 2 (e1 yH3) (loops1 vUq)
theorem Jd:Yb (jR 262 [.c (.dat false zH),.c (.dat false .i)] (.own zH) (aja GP)):=fA f262 Pa (e2 aeK aeM) zF
def yJk:zE:=⟨[sP 3 0,sO 6 1,sI 7,sO 8 2,sI 18,sI 19],[oB jQ,oA .i,oA zH],[(6,none,.i,false)]⟩
def yIs:zE:=sp [sP 3 0,sO 6 1,sI 7,sO 8 2] [oB jQ,oA .i,oA zH]
def yU9 (f:yE4)(d:yJk.den):=(vI (f (Fd d) (Nd d) (ge d)) d.2.1) (pi d) (rg d)
def Td:=aka 0 yJk yIs qSc yU9 Cf fun x=>(((),(),(x.1,()),(),()),((iI x ()),Rd x,x.2.2.2.2.2.2,()))
def vBc:zE:=sp [sP 3 0,sO 6 1,sI 7,sO 8 2,sO 42 3,sI 43,sI 44] [oB jQ,oA .i,oA zH,oA .i]
def vDc (f:qVz)(d:vBc.den):=(vI (f (Fd d) (ge d) (Hl d)) d.2.1) (pi d) (rg d) (If d)
def qNm:=aka 4 vBc yIs qSc vDc GV fun x=>(((),(),(x.1,()),(),()),((iI x ()),Rd x,x.2.2.2.2.2.2,()))
def yWo:zE:=sp [sO 6 0,sI 7] [oA .i]
def ySu (f:qOa)(d:yIs.den):=(vI (f (Fd d)) d.2.1) (pi d) (rg d)
def Te:zV:=⟨[yIs],[(.ret,yWo)],(Int×AC),fun k d=>ySu (Mk k k) d,fun b x _ K=>K .ret (zM b yWo (((),(x.1,()),()),(x.2,())))⟩
def Tf:zW:=⟨[],[(3,Td),(12,qNm),(7,Te)],[],false⟩
theorem aeO:lc 55 (Nc f261 0) Td:=lp (A:=Tf) Td (fun d=>(Fd d,(vW d.2.1 (pi d,rg d)))) yU9 Cf GU (e4 Dh NX Jd N2) zF
theorem aeP:lc 55 (zS (Nc f261 1) 0) qNm:=lp (A:=Tf) qNm (fun d=>(Fd d,(vW d.2.1 (pi d,rg d)))) vDc GV GW (e4 Dh NX Jd N2) zF
theorem aeQ:lc 55 (Nc f261 1) Te:=lp (A:=Tf) Te (fun d=>(li d,d.2.1)) ySu Mk GX (e4 Dh NX Jd N2) (loops1 aeP)
theorem yO1:Yb (aia 261 [.agg jZ,.c (.dat false zH),.c .i] (.own .i) .i (fun k d=>(ku (Q8 k) d))):=fA f261 Tf (e4 Dh NX Jd N2) (mm (n:=2) (by kernel_rfl) fun i hi=>match i,hi with|0,_=>⟨Td,by kernel_rfl,aeO⟩|1,_=>⟨Te,by kernel_rfl,aeQ⟩|i+2,hi=>absurd hi (by omega))
def yHu:zE:=sp [sP 6 0,(7,.c (.dat true zH)),sO 11 1,sO 38 1,sI 39,sI 40] [oB wM,oA zH]
def yGx:zE:=sp [sP 6 0,(7,.c (.dat true zH)),sO 11 1] [oB wM,oA zH]
def yNe (f:qSr)(d:yHu.den):=(vI (f (li d) (Nd d) (ge d)) d.2.1) (pi d)
def qL8:=aka 0 yHu yGx qWt yNe Cg fun x=>(((),(x.1,()),(),()),((iI x ()),pp x,()))
def yGo:=ana 8 qL8
theorem aeR:lc 56 (Nc f223 0) qL8:=lp (A:=yGo) qL8 (fun d=>(li d,(vW d.2.1 (pi d)))) yNe Cg GY (e5 yO1 Dh Jd Dl ru) zF
theorem vY8:Yb (zJ 223 [.agg lq,.c (.dat true zH),.c .i] (.tup [(true,nE),(false,[.fro zH]),(false,[.own zH])]) (fun k d=>(ku (Ch k) d)) (fun x=>(oI x ())) (fun d=>(nF d))):=fA f223 yGo (e5 yO1 Dh Jd Dl ru) (loops1 aeR)
theorem aeS:Yb (zJ 156 [.agg lq,.c (.dat true zH),.c .i,.c .bool] (.tup [(true,nE),(false,[.fro zH]),(false,[.own zH])]) (fun k d=>(mG (yh k) d)) (fun x=>(oI x ())) (fun d=>(nF d))):=fA f156 Pa (e2 vSf vY8) zF
def yQo:zE:=⟨[sO 3 0,sP 5 1,(8,.c (.dat false zH)),sI 9,sI 10,sO 18 2,sI 19,sI 20],[oA yQ,oB vZ,oA .i],[(3,none,yQ,false)]⟩
def vAs:zE:=sp [sO 3 0,(8,.c (.dat false zH)),sI 9,sI 10] [oA yQ]
def yXf (f:yDt)(d:yQo.den):=(mG (f (Fd d) (md d) (Nd d) (Hl d) (lm d) d.2.1) (pi d)) (rg d)
def yBt:=aka 2 yQo vAs yBu yXf yj fun x=>(((),(x.1,()),(x.2.1,()),(pi x,()),()),(x.2.2.2,()))
def vA7:zE:=⟨[sO 3 0,(8,.c (.dat false zH)),sI 9,sI 10],[oA yQ],[(3,none,yQ,false)]⟩
def yWn:zE:=sp [sO 3 0] [oA yQ]
def yZq (f:qOs)(d:vA7.den):=f (li d) (Fd d) (md d) d.2.1
def yFb:=aka 0 vA7 yWn qWn yZq Mo fun x=>(((),()),(x,()))
def qS8:zW:=⟨[],[(6,yBt),(3,yFb)],[],false⟩
theorem aeT:lc 41 (zS (Nc f157 0) 0) yBt:=lp (A:=qS8) yBt (fun d=>(li d,Fd d,md d,d.2.1)) yXf yj yk (e1 AB) zF
theorem aeU:lc 41 (Nc f157 0) yFb:=lp (A:=qS8) yFb (fun d=>d.2.1) yZq Mo G1 (e1 AB) (loops1 aeT)
theorem aeW:Yb (jR 157 [.c (.dat false zH)] (.own yQ) (wH Rc)):=fA f157 qS8 (e1 AB) (loops1 aeU)
theorem yAi:Yb (zJ 83 [.agg Aw,.c .bool] (.tup [(true,Av),(false,[.own yQ])]) (fun k d=>(N5 (uX k) d)) (fun x=>(Jb x ())) (fun d=>(Jc d))):=fA f83 Pa (e2 aeS aeW) zF
def yOm:zE:=⟨[sP 2 0,sP 3 1,sP 4 2,sO 6 3,sO 7 4,(27,.c (.dat true zH)),sI 28,sI 29],[oB iF,oB iG,oB jV,oA yQ,oA zH],[(6,none,yQ,false),(7,none,zH,false)]⟩
def yUc:zE:=sp [sP 2 0,sP 3 1,sP 4 2,sO 6 3,sO 7 4] [oB iF,oB iG,oB jV,oA yQ,oA zH]
def yWz (f:qY9)(d:yOm.den):=(tA (lQ (f (ge d) (Hl d) (lm d)) d.2.1) (pi d)) (ap d) (Fn d) (co d) (If d) (Rd d)
def yE9:=aka 0 yOm yUc yFg yWz Ha fun x=>(((),(),(),(),(),()),((fL x ()),(vZi x ()),(x.2.2.2.2.2.2.2.2.2.2.2.2.2.2.2.2.1,x.2.2.2.2.2.2.2.2.2.2.2.2.2.2.2.2.2.1,wd x,()),Id x,x.2.2.2.2.2.2.2.2.2.2.2.2.2.2.2.2.2.2.2.2,()))
def yQg:=ana 9 yE9
theorem vRo:lc 66 (Nc f82 0) yE9:=lp (A:=yQg) yE9 (fun d=>(fL d.2.1 (AE (pi d) (ap d,Fn d,co d,If d,Rd d)))) yWz Ha Hb (e6 S5 yTa yKi AB yUj yAi) zF
theorem aeX:Yb (zJ 82 [.agg ic,.agg Aw] (.tup [(true,Av),(false,[.own yQ])]) (fun k d=>(vIa (ym k) d)) (fun x=>(Jb x ())) (fun d=>(Jc d))):=fA f82 yQg (e6 S5 yTa yKi AB yUj yAi) (loops1 vRo)
theorem aeZ:Yb (yB 146 [.ptr true Ax,.agg NZ] (.c .i) [lO] 0 (fun k d=>vI2 k (lP d) (vFe d)) (fun x=>(x.1,(jT x.2 ()))) (fun d=>(d.1,(kt d)))):=fX f146 n0 1 (e4 iH vEo yWx SY) zF
theorem vNd:Yb (yB 147 [.ptr true Ax,.agg vM] (.c .i) [lO] 0 (fun k d=>Tg k (lP d) (I8 d)) (fun x=>(x.1,(jT x.2 ()))) (fun d=>(d.1,(kt d)))):=fX f147 n0 1 (e8 yUb ru yUg iH qYv yRx vB3 vJ8) zF
theorem ae0:Yb (yB 148 [.ptr true Ax,.agg vM] (.c .i) [lO] 0 (fun k d=>Th k (lP d) (I8 d)) (fun x=>(x.1,(jT x.2 ()))) (fun d=>(d.1,(kt d)))):=fX f148 n0 1 (e3 pK vF3 iH) zF
theorem ae1:Yb (yB 149 [.ptr true Ax,.c (.p .i),.c (.p .i)] (.c .i) [lO] 0 (fun k d=>yNu k (lP d) (wd d) (Id d)) (fun x=>(x.1,(jT x.2 ()))) (fun d=>(d.1,(kt d)))):=fX f149 n0 1 (e6 I9 iH vB8 Ja AA pK) zF
theorem ae3:Yb (yB 150 [.ptr true Ax,.c (.p .i),.c (.p .i),.c (.p .i)] (.c .i) [lO] 0 (fun k d=>HD k (lP d) (wd d) (Id d) d.2.2.2.2.2.2.2.2.2.2.2.2.2.2.2.2.2.2.2.2.1) (fun x=>(x.1,(jT x.2 ()))) (fun d=>(d.1,(kt d)))):=fX f150 n0 1 (e5 iH yKn vGv vKm pK) zF
def vBw:zE:=sp [sP 0 0,sO 7 1,sP 8 2,(40,.c (.dat true (.sl .i))),sI 41,sI 42] [oB qS6,oA .i,oB tB,oA qR,.mat,oA .i,.mat]
def yXv:zE:=sp [sP 0 0,sO 7 1,sP 8 2] [oB qS6,oA .i,oB tB,oA qR,.mat,oA .i,.mat]
def yG0:zE:=sp [sP 0 0,sI 6] [oB qS6]
def vIn (f:yDa)(d:vBw.den):=f (md d) (Nd d) (ge d) (lP d.2.1) (pi d) (If d) (Rd d) (be d) (ce d)
def qXu:zV:=⟨[vBw],[(.exit 0,yXv),(.ret,yG0)],qZ9,fun k d=>vIn (vm k k) d,fun b x _ K=>match x with|.inl x=>K (.exit 0) (zM b yXv (((),(),(),()),((vO x.1 ()),x.2.1,(),pi x,rg x,If x,pp x,())))|.inr x=>K .ret (zM b yG0 (((),(x.1,()),()),((vO x.2 ()),())))⟩
def yQv:=ala 6 qXu
theorem ae4:zU prog 1000 1 81 (Nc f151 0) qXu:=lp (A:=yQv) qXu (fun d=>match d with|.inl d=>.inl ((lP d.2.1),pi d,If d,Rd d,be d,ce d)|.inr d=>.inr (li d,(lP d.2.1))) vIn vm HI (e5 I9 iH Ja pK AA) zF
theorem ae5:Yb (yB 151 [.ptr true Ax,.c (.p .i),.c (.p .i)] (.c .i) [lO] 0 (fun k d=>RF k (lP d) (wd d) (Id d)) (fun x=>(x.1,(jT x.2 ()))) (fun d=>(d.1,(kt d)))):=fX f151 yQv 1 (e5 I9 iH Ja pK AA) (loops1 ae4)
theorem vZa:Yb (yB 81 [.ptr true Ax,.agg vM] (.c .i) [lO] 0 (fun k d=>H8 k (lP d) (I8 d)) (fun x=>(x.1,(jT x.2 ()))) (fun d=>(d.1,(kt d)))):=fX f81 n0 1 (e6 aeZ vNd ae0 ae1 ae3 ae5) zF
theorem qWq:Yb (zJ 31 [.agg N6,.agg Aw,.agg Db] (.tup [(true,Av),(false,[.own yQ]),(false,yG)]) (fun k d=>M7 k (yC d) (jS d) (qZd d)) (fun x=>(vQ x.1 (x.2.1,x.2.2,()))) (fun d=>((qP d),ii d,pm d))):=fA f31 n0 (e9 acK vTg yUg adS aeX yAi Ay yRb vZa) zF
theorem Sy:Yb (yB 32 [.chn [NN,lM],.c (.p (.dat false (.int .u8)))] (.c .i) [NO,jb] 0 (fun k d=>ou k (Au d) (Dc d) (ul d)) (fun x=>(x.1,(),(jI x.2.1 (wG x.2.2 ())))) (fun d=>(d.1,(NP d),(NQ d)))):=fX f32 n0 0 (e1 yYw) zF
theorem vIl:Yb (jR 132 [.c .i] .bool (wH qOo)):=fA f132 n0 (e1 iH) zF
def yN8:zE:=sp [(0,.c (.dat false .i)),(1,.c (.lit (.fn 132 []))),sI 7,sI 8] []
def vJn (f:yFc)(d:yN8.den):=f (dl d) (Fd d) (md d)
def qYn:=ama 0 yN8 yGw yMp Unit Int vJn CV (fun x=>((),())) fun x=>(((x,()),()),())
def yWk:=ana 2 qYn
theorem ae6:lc 19 (Nc f198 0) qYn:=lp (A:=yWk) qYn (fun d=>match d with|.inl d=>.inl ()|.inr d=>.inr (dl d)) vJn CV Iu (e1 vIl) zF
theorem ae7:Yb (jR 198 [.c (.dat false .i),.c (.fn 132)] .i (wH qRw)):=fA f198 yWk (e1 vIl) (loops1 ae6)
theorem yJg:Yb (jR 131 [.c (.dat false .i),.c (.fn 132)] .bool (wH Np)):=fA f131 Pa (e1 ae7) zF
theorem vCq:Yb (jR 134 [.c .i] .bool (wH yEj)):=fA f134 n0 e0 zF
def yUa:zE:=sp [(0,.c (.dat false .i)),(1,.c (.lit (.fn 134 []))),sI 7,sI 8] []
def vH6 (f:yFc)(d:yUa.den):=f (dl d) (Fd d) (md d)
def qO8:=ama 0 yUa yGw yMp Unit Int vH6 CW (fun x=>((),())) fun x=>(((x,()),()),())
def yPr:=ana 2 qO8
theorem vWb:lc 19 (Nc f198 0) qO8:=lp (A:=yPr) qO8 (fun d=>match d with|.inl d=>.inl ()|.inr d=>.inr (dl d)) vH6 CW Iv (e1 vCq) zF
theorem afa:Yb (jR 198 [.c (.dat false .i),.c (.fn 134)] .i (wH yEo)):=fA f198 yPr (e1 vCq) (loops1 vWb)
theorem yJi:Yb (jR 131 [.c (.dat false .i),.c (.fn 134)] .bool (wH R9)):=fA f131 Pa (e1 afa) zF
def yZj:zE:=sp [sP 2 0,sP 3 1,(28,.c (.dat false (.sl .i))),sI 29,sI 30] [oB iF,oB lR]
def vCo:zE:=sp [(4,.c .bool)] []
def yN2 (f:yD9)(d:yZj.den):=f (Fd d) (md d) (Nd d) (yC d.2.1) (qP (pi d))
def qO1:=ama 0 yZj yGw vCo Unit Bool yN2 zv (fun x=>((),())) fun x=>(((x,()),()),())
def ySb:=ala 6 qO1
theorem afb:lc 66 (Nc f73 0) qO1:=lp (A:=ySb) qO1 (fun d=>match d with|.inl d=>.inl ()|.inr d=>.inr (dl d)) yN2 zv Iw (e3 yJg AA yJi) zF
theorem vKo:Yb (jR 73 [.agg ic,.agg nD] .bool (fun k d=>Nq k (yC d) (jS d))):=fA f73 ySb (e3 yJg AA yJi) (loops1 afb)
def vHy:zE:=sp [(0,.c (.dat false zH)),(1,.c (.lit (.fn 202 []))),sI 5] []
def vIv (f:yAw)(d:vHy.den):=f (dl d) (Fd d)
def qOk:=ama 0 vHy yGw vCo Unit Bool vIv CR (fun x=>((),())) fun x=>(((x,()),()),())
def yVw:=ala 2 qOk
theorem vSq:lc 25 (Nc f201 0) qOk:=lp (A:=yVw) qOk (fun d=>match d with|.inl d=>.inl ()|.inr d=>.inr (dl d)) vIv CR R7 (e1 I7) zF
theorem vBu:Yb (jR 201 [.c (.dat false zH),.c (.fn 202)] .bool (wH R6)):=fA f201 yVw (e1 I7) (loops1 vSq)
def yJo:zE:=sp [(0,.c (.dat false zH)),(5,.c (.dat false zH)),sI 6,sI 7] []
def yLx:zE:=sp [(0,.c (.dat false zH))] []
def vDo (f:qZo)(d:yJo.den):=f (dl d) (li d) (Fd d) (md d)
def qXm:zV:=⟨[yJo],[(.exit 0,yLx),(.ret,yFv)],qMg,fun k d=>vDo (CQ k k) d,fun b x _ K=>match x with|.inl x=>K (.exit 0) (zM b yLx (((x,()),()),()))|.inr x=>K .ret (zM b yFv (((x,()),()),()))⟩
def yM8:=ana 2 qXm
theorem afd:lc 26 (Nc f138 0) qXm:=lp (A:=yM8) qXm (fun d=>match d with|.inl d=>.inl (dl d)|.inr d=>.inr (dl d)) vDo CQ Iq (e2 Ay vBu) zF
theorem vUg:Yb (jR 138 [.c (.dat false zH)] .bool (wH Nl)):=fA f138 yM8 (e2 Ay vBu) (loops1 afd)
def yPl:zE:=sp [(0,.c (.dat false .i)),sI 3,(6,.c (.dat false .i)),sI 7,sI 8] []
def yGb:zE:=sp [(0,.c (.dat false .i))] []
def yVf (f:qVw)(d:yPl.den):=f (dl d) (li d) (Fd d) (md d) (Nd d)
def yEf:=ama 0 yPl yGb yFv AC Bool yVf CT (fun x=>(((x,()),()),())) fun x=>(((x,()),()),())
def vIp:=ala 3 yEf
theorem vRu:lc 20 (Nc f139 0) yEf:=lp (A:=vIp) yEf (fun d=>match d with|.inl d=>.inl (dl d)|.inr d=>.inr (dl d)) yVf CT Ir e0 zF
theorem aff:Yb (jR 139 [.c (.dat false .i)] .bool (wH Nm)):=fA f139 vIp e0 (loops1 vRu)
theorem afh:Yb (jR 137 [.c (.dat false .i),.c .i] .bool (aja QU)):=fA f137 n0 (e1 vCy) zF
theorem vHf:Yb (jR 135 [.agg vM,.ptr nD] .bool (fun k d=>R8 k (vS d) (vXh d))):=fA f135 n0 (e3 qUl iH afh) zF
def vBy:zE:=sp [(0,.c (.dat false zH)),(1,.c (.lit (.fn 135 [1001000]))),sI 7,sI 8] [.robox lR]
def vJ6 (f:qUu)(d:vBy.den):=(tA (f (dl d) (Fd d) (md d)) d.2.1)
def qTm:=ama 0 vBy yGw yMp Unit Int vJ6 CU (fun x=>((),())) fun x=>(((x,()),()),())
def yYv:=ana 2 qTm
theorem vVs:lc 19 (Nc f158 0) qTm:=lp (A:=yYv) qTm (fun d=>match d with|.inl d=>.inl ()|.inr d=>.inr (dl d)) vJ6 CU Is (e1 vHf) zF
theorem vPn:Yb (jR 158 [.c (.dat false zH),.fn 135 [nD]] .i (fun k d=>(N5 (qSo k) d))):=fA f158 yYv (e1 vHf) (loops1 vVs)
theorem afk:Yb (jR 140 [.c (.dat false zH),.fn 135 [nD]] .bool (fun k d=>(N5 (No k) d))):=fA f140 Pa (e1 vPn) zF
theorem vJe:Yb (jR 74 [.agg nD] .bool (fun k d=>Nn k (qP d))):=fA f74 n0 (e3 vUg aff afk) zF
def yLq:zE:=⟨[sP 2 0,sP 3 1,sO 5 2,(44,.c (.dat false qR)),sI 45,sI 46],[oB iF,oB lR,oA .i],[(5,none,.i,false)]⟩
def yHr:zE:=sp [sP 2 0,sP 3 1,sO 5 2] [oB iF,oB lR,oA .i]
def yXd (f:qZ6)(d:yLq.den):=f (md d) (Nd d) (ge d) (yC d.2.1) (qP (pi d)) (rg d)
def qNg:=aka 0 yLq yHr qRc yXd Iy fun x=>(((),(),(),()),((vK x.1 ()),(vQ x.2.1 ()),x.2.2,()))
def vGh:=ala 5 qNg
theorem vMz:lc 92 (Nc f29 0) qNg:=lp (A:=vGh) qNg (fun d=>((yC d.2.1),(qP (pi d)),rg d)) yXd Iy Iz (e6 iH Ta vKo vJe S3 S5) zF
theorem vEq:Yb (jR 29 [.agg ic,.agg nD] .bool (fun k d=>Ix k (yC d) (jS d))):=fA f29 vGh (e6 iH Ta vKo vJe S3 S5) (loops1 vMz)
def yV4:zE:=⟨[sP 1 0,sI 2,sP 3 3,(12,.c .bool),sP 13 4,sP 17 5,(72,.c (.dat true (.sl (.int .u8)))),sI 73,sI 74],[oB yO8,oA (.int .u8),oA (.int .u8),oB Je,oB Ti,oB iG],[(17,some 1,.bool,true),(17,some 2,.bool,true),(17,some 3,.bool,true),(17,some 4,.bool,true),(17,some 5,.bool,true),(17,some 6,.bool,true),(17,some 7,.bool,true),(17,some 8,.bool,true)]⟩
def yV5:zE:=sp [sP 1 0,sI 2,sP 3 3,(12,.c .bool),sP 13 4,sP 17 5] [oB yO8,oA (.int .u8),oA (.int .u8),oB Je,oB Ti,oB iG]
def vKl (f:yDm)(d:yV4.den):=f (li d) (md d) (Hl d) (lm d) d.1.2.2.2.2.2.2.2.2.1.1 (kq d.2.1) (pi d) (rg d) (yC (If d)) (jU (Rd d)) (qP (be d))
def qT9:=aka 0 yV4 yV5 qNq vKl tu fun x=>(((),(x.1,()),(),(x.2.1,()),(),(),()),((Dg (pi x) ()),rg x,If x,(vK (Rd x) ()),(jI (be x) ()),(vQ x.2.2.2.2.2.2.2 ()),()))
def vFj:=ala 11 qT9
theorem vLs:zU prog 1000 2 112 (Nc f9 0) qT9:=lp (A:=vFj) qT9 (fun d=>(li d,md d,(kq d.2.1),pi d,rg d,(yC (If d)),(jU (Rd d)),(qP (be d)))) vKl tu IU (SC F8q qWw yJh Dd vB9 yJv vBn qWq Sy vEq) zF
def qS0:=uD 9 [.agg N6,.ptr true lM,.c (.p .i)] (.tup [(false,[.link 1]),(false,yG)]) [jb,[.link 2,.i,.fro wE,.i,.i,.i,.i,.fro qR,.fro (.sl .i),.fro .i,.fro (.sl .i),.fro .i,.fro (.sl .i),.fro zH,.fro .i,.i,.bool,.i,.bool],SM] 2 (.tup [(false,[.nilp]),(false,yG)]) [jb] 0 (fun k d=>fq k (yC d) (Dc d) (ul d)) (fun x=>((),x.1,(wG x.2.1 ((),(jT (pi x) ((),(jI x.2.2.2 ()))))))) (fun x=>((),x.1,(wG x.2 ()))) (fun d=>(d.2.1,(Tj d),(vY2 d),(yLg d))) (fun d=>(d.2.1,(Tj d)))
theorem vBf:Yb qS0:=fN f9 vFj 2 (SC F8q qWw yJh Dd vB9 yJv vBn qWq Sy vEq) (loops1 vLs)
theorem vBd:Yb (jR 85 [.c .i,.c .i,.c .i] .bool (xM Jf)):=fA f85 n0 e0 zF
def vEd:zE:=sp [sP 1 0,sI 3] [oB iF]
def yLe:zE:=sp [sP 1 0] [oB iF]
def vBa (f:qRn)(d:vEd.den):=f (li d) (yC d.2.1)
def yFq:zV:=⟨[vEd],[(.exit 0,yLe),(.ret,yFv)],qOl,fun k d=>vBa (qXy k k) d,fun b x _ K=>match x with|.inl x=>K (.exit 0) (zM b yLe (((),()),((vK x ()),())))|.inr x=>K .ret (zM b yFv (((x,()),()),()))⟩
def vHk:=ala 4 yFq
theorem vMg:lc 58 (Nc f33 0) yFq:=lp (A:=vHk) yFq (fun d=>match d with|.inl d=>.inl (yC d.2.1)|.inr d=>.inr (dl d)) vBa qXy vDj (e1 vBd) zF
theorem yHc:Yb (jR 33 [.agg ic] .bool (fun k d=>ND k (yC d))):=fA f33 vHk (e1 vBd) (loops1 vMg)
theorem vSz:Yb (jR 161 [.ptr Tl,.c .i] (.own (.int .u8)) (fun k d=>qX0 k (vX d) (ci d))):=fA f161 n0 e0 zF
def vGa:zE:=⟨[(0,.c (.dat false (.int .u8))),sO 4 0],[oA (.sl (.int .u8))],[(4,none,(.sl (.int .u8)),false)]⟩
def vC6:zE:=sp [(0,.c (.dat false (.int .u8))),sO 4 0] [oA (.sl (.int .u8))]
def yTt (f:yBs)(d:vGa.den):=f (dl d) d.2.1
def qXr:=aka 0 vGa vC6 qWj yTt Nu fun x=>(((x.1,()),(),()),(x.2,()))
def vDy:=ala 2 qXr
theorem vUx:lc 44 (Nc f160 0) qXr:=lp (A:=vDy) qXr (fun d=>(dl d,d.2.1)) yTt Nu Sg e0 zF
theorem afn:Yb (aia 160 [.c (.dat false (.int .u8))] (.own (.sl (.int .u8))) .i (wH qXn)):=fA f160 vDy e0 (loops1 vUx)
def yLd:zE:=sp [(0,.c (.dat false (.int .u8))),(3,.c (.int .u64)),sI 4] []
def yXm:zE:=sp [(3,.c (.int .u64))] []
def vDn (f:AC→Int→Int→Option Int)(d:yLd.den):=f (dl d) (li d) (Fd d)
def qX2:=aka 0 yLd yXm Int vDn KQ fun x=>(((x,()),()),())
def yRz:=ala 3 qX2
theorem vOp:lc 19 (Nc f177 0) qX2:=lp (A:=yRz) qX2 (fun d=>(dl d)) vDn KQ PX e0 zF
theorem qVb:Yb (jR 177 [.c (.dat false (.int .u8))] .i (wH KP)):=fA f177 yRz e0 (loops1 vOp)
def yGc:zE:=⟨[(0,.c (.dat false (.int .u8))),sO 4 0,sI 5],[oA .i],[(4,none,.i,false)]⟩
def yTk (f:qOg)(d:yGc.den):=f (dl d) (Fd d) d.2.1
def yBa:=aka 0 yGc yMd AC yTk BP fun x=>(((),()),(x,()))
def yP1:=ala 5 yBa
theorem afp:lc 26 (Nc f99 0) yBa:=lp (A:=yP1) yBa (fun d=>d.2.1) yTk BP EZ (e1 qVb) zF
theorem N7:Yb (aia 99 [.c (.dat false (.int .u8))] (.own .i) .i (wH xL)):=fA f99 yP1 (e1 qVb) (loops1 afp)
theorem vK5:Yb (zJ 86 [.ptr Tl,.c .i] (.tup [(false,yG),(false,[.fro (.int .u8)]),(false,[.fro (.sl (.int .u8))]),(false,[.bool])]) (fun k d=>Nv k (vX d) (ci d)) (fun x=>(jI x ())) (fun d=>(d.1,d.2.1,pi d,rg d))):=fA f86 n0 (e3 vSz afn N7) zF
theorem qMv:Yb (zJ 34 [.ptr Tl] (.tup [(false,yG),(false,yG),(false,[.fro (.int .u8)]),(false,[.fro (.sl (.int .u8))]),(false,[.bool])]) (fun k d=>Nx k (vX d)) (fun x=>(vK x ())) (fun d=>(d.1,d.2.1,pi d,rg d,If d))):=fA f34 n0 (e1 vK5) zF
def vFr:zE:=sp [sI 0,sI 1,sO 5 0,sI 6] [oA .i]
def yRq (f:qQw)(d:vFr.den):=f (dl d) (li d) (md d) d.2.1
def qUi:=aka 0 vFr yZw AC yRq Tm fun x=>(((),()),(x,()))
def ySi:=ana 5 qUi
theorem afr:lc 25 (Nc f91 0) qUi:=lp (A:=ySi) qUi (fun d=>d.2.1) yRq Tm yIc e0 zF
theorem N8:Yb (jR 91 [.c .i,.c .i] (.own .i) (aja qOj)):=fA f91 ySi e0 (loops1 afr)
def yFr:zE:=⟨[sI 0,sI 1,sO 5 0,sI 6],[.mat],[(5,none,(.sl .i),true)]⟩
def yYq (f:qU3)(d:yFr.den):=f (dl d) (li d) (md d) d.2.1
def yA7:=aka 0 yFr vHb EQ yYq Tn fun x=>(((),()),(x,()))
def yMk:zW:=⟨[22,23],[(5,yA7)],[],false⟩
theorem afs:lc 25 (Nc f90 0) yA7:=lp (A:=yMk) yA7 (fun d=>d.2.1) yYq Tn yLm (e1 N8) zF
theorem qXl:Yb (jR 90 [.c .i,.c .i] (.mat) (aja qZj)):=fA f90 yMk (e1 N8) (loops1 afs)
def yVp:zE:=⟨[sP 1 0,sP 2 1,sI 3,sP 4 2,sI 5],[oB iF,oB jV,oB SG,oA qR,.mat,oA .i,.mat,oA .i],[(4,some 5,.i,false)]⟩
def yIf (f:yDj)(d:yVp.den):=f (Fd d) (Nd d) (yC d.2.1) (In d,wl d,Do d) (ap d,Fn d,co d) (If d) (Rd d) (be d) (ce d) (Pi d)
def To:=aka 0 yVp yZ5 qM1 yIf qQ3 fun x=>(((),(),(x.1,()),(),()),((vK x.2.1 ()),(In x,wl x,x.2.2.1.2.2,()),(ap x,Fn x,x.2.2.2.1.2.2,()),If x,Rd x,be x,ce x,x.2.2.2.2.2.2.2.2,()))
def vH5:zE:=⟨[sP 1 0,sP 2 1,sI 3,sP 4 2,sI 6],[oB iF,oB jV,oB vJr,oA qR,.mat,oA .i,.mat,oA .i,.mat],[(4,some 6,(.sl .i),true)]⟩
def yQx (f:qXg)(d:vH5.den):=f (Fd d) (Nd d) (yC d.2.1) (In d,wl d,Do d) (ap d,Fn d,co d) (If d) (Rd d) (be d) (ce d) (Pi d) (un d)
def Tp:=aka 2 vH5 yYn qR8 yQx yBr fun x=>(((),(),()),((x.1.1,x.1.2.1,x.1.2.2,()),(wr x,ip x,x.2.1.2.2,()),pi x,rg x,If x,Rd x,be x,x.2.2.2.2.2.2.2,()))
def qWi:zW:=⟨[48,49],[(4,To),(8,Tp)],[],true⟩
theorem vSo:lc 52 (Nc f37 0) To:=lp (A:=qWi) To (fun d=>(Fd d,(yC d.2.1),(In d,wl d,Do d),(ap d,Fn d,co d),If d,Rd d,be d,ce d,Pi d)) yIf qQ3 vG4 (e2 qXl N8) zF
theorem afu:lc 52 (Nc f37 1) Tp:=lp (A:=qWi) Tp (fun d=>((wr d,ip d,qr d),(In d,wl d,Do d),rg d,If d,Rd d,be d,ce d,Pi d)) yQx yBr yMo (e2 qXl N8) zF
theorem yZp:Yb (zJ 37 [.agg ic] (.agg qWc) (fun k d=>zz k (yC d)) (fun x=>(vQ x ())) (fun d=>(qP d))):=fA f37 qWi (e2 qXl N8) (mm (n:=2) (by kernel_rfl) fun i hi=>match i,hi with|0,_=>⟨To,by kernel_rfl,vSo⟩|1,_=>⟨Tp,by kernel_rfl,afu⟩|i+2,hi=>absurd hi (by omega))
def yXz:zE:=sp [(0,.c (.dat false .i)),sO 3 0,sI 4,sI 5] [oA (.int .u8)]
def yTq:zE:=sp [(0,.c (.dat false .i)),sO 3 0,sI 4] [oA (.int .u8)]
def vCp (f:yDr)(d:yXz.den):=f (dl d) (Fd d) (md d) d.2.1
def qPx:=aka 2 yXz yTq qSx vCp Mx fun x=>(((x.1,()),(),(x.2.1,()),()),(x.2.2,()))
def yL4 (f:qOg)(d:yTq.den):=f (dl d) (Fd d) d.2.1
def qSq:=aka 0 yTq vBs AC yL4 Cq fun x=>(((),()),(x,()))
def qW5:zW:=⟨[],[(6,qPx),(3,qSq)],[],true⟩
theorem vPe:lc 30 (zS (Nc f56 0) 0) qPx:=lp (A:=qW5) qPx (fun d=>(dl d,Fd d,d.2.1)) vCp Mx Rm e0 zF
theorem afw:lc 30 (Nc f56 0) qSq:=lp (A:=qW5) qSq (fun d=>d.2.1) yL4 Cq Hg e0 (loops1 vPe)
theorem Sz:Yb (jR 56 [.c (.dat false .i)] (.own (.int .u8)) (wH yq)):=fA f56 qW5 e0 (loops1 afw)
theorem N9:Yb (jR 88 [.c (.dat false .i)] (.own (.int .u8)) (wH kj)):=fA f88 n0 (e1 Sz) zF
def yKx:zE:=⟨[(0,.c (.dat false (.sl .i))),sO 3 0,sI 4],[oA (.int .u8)],[(3,none,(.int .u8),false)]⟩
def yZz (f:qVt)(d:yKx.den):=f (dl d) (Fd d) d.2.1
def qMa:=aka 0 yKx vBs AC yZz Hh fun x=>(((),()),(x,()))
def yVx:=ala 3 qMa
theorem afy:lc 19 (Nc f89 0) qMa:=lp (A:=yVx) qMa (fun d=>d.2.1) yZz Hh Hi (e1 N9) zF
theorem qQ5:Yb (jR 89 [.c (.dat false (.sl .i))] (.own (.int .u8)) (wH pD)):=fA f89 yVx (e1 N9) (loops1 afy)
def yOx:zE:=sp [sP 1 0,sP 4 1,sO 5 2,sI 6] [oB lR,oB jQ,oA (.int .u8)]
def yZ3:zE:=sp [sP 1 0,sP 4 1,sO 5 2] [oB lR,oB jQ,oA (.int .u8)]
def yJ1 (f:qLs)(d:yOx.den):=f (md d) (qP d.2.1) (jU (pi d)) (rg d)
def Tq:=aka 0 yOx yZ3 yEr yJ1 vd fun x=>(((),(),(),()),((vQ x.1 ()),(jI x.2.1 ()),x.2.2,()))
def yOs:zE:=sp [sP 1 0,sO 5 1,sI 7] [oB lR,oA (.int .u8)]
def yQq:zE:=sp [sP 1 0,sO 5 1] [oB lR,oA (.int .u8)]
def vGx (f:yCq)(d:yOs.den):=f (Fd d) (qP d.2.1) (pi d)
def Ts:=aka 2 yOs yQq yAu vGx vf fun x=>(((),(),()),((vQ x.1 ()),x.2,()))
def qUx:zW:=⟨[],[(7,Tq),(16,Ts)],[],true⟩
theorem afz:lc 127 (Nc f36 0) Tq:=lp (A:=qUx) Tq (fun d=>((qP d.2.1),(jU (pi d)),rg d)) yJ1 vd Hj (e2 N9 qQ5) zF
theorem vZ8:lc 127 (Nc f36 1) Ts:=lp (A:=qUx) Ts (fun d=>((qP d.2.1),pi d)) vGx vf Hk (e2 N9 qQ5) zF
theorem De:Yb (jR 36 [.agg nD] (.own (.int .u8)) (fun k d=>ot k (qP d))):=fA f36 qUx (e2 N9 qQ5) (mm (n:=2) (by kernel_rfl) fun i hi=>match i,hi with|0,_=>⟨Tq,by kernel_rfl,afz⟩|1,_=>⟨Ts,by kernel_rfl,vZ8⟩|i+2,hi=>absurd hi (by omega))
theorem yJp:Yb (aia 162 [.c (.dat false (.int .u8))] (.own (.int .u8)) .bool (wH Mz)):=fA f162 n0 e0 zF
theorem vY4:Yb (jR 163 [.ptr Tl] .i (fun k d=>qQ1 k (vX d))):=fA f163 n0 e0 zF
theorem qTn:Yb (yB 224 [.ptr true oF] (.c .bool) [lN] 0 (fun k d=>vg k (vX d)) (fun x=>(x.1,(wG x.2 ()))) (fun d=>(d.1,(pH d)))):=fX f224 ⟨[],[],[(6,3)],true⟩ 1 e0 (EF (n:=1) (by kernel_rfl) fun i hi=>match i,hi with|0,_=>.inr ⟨by kernel_rfl,zF⟩|i+1,hi=>absurd hi (by omega))
theorem afE:Yb (yB 164 [.ptr true oF,.c (.p .i)] (.c .i) [lN] 0 (fun k d=>yAh k (vX d) (ci d)) (fun x=>(x.1,(wG x.2 ()))) (fun d=>(d.1,(pH d)))):=fX f164 n0 1 (e1 qTn) zF
theorem ySt:Yb (yB 165 [.ptr true oF,.c (.p .i),.c (.p (.dat false (.int .u8)))] (.c .i) [lN] 0 (fun k d=>Hn k (vX d) (ci d) (ii d)) (fun x=>(x.1,(wG x.2 ()))) (fun d=>(d.1,(pH d)))):=fX f165 n0 1 (e1 qTn) zF
theorem vHt:Yb (yB 166 [.ptr true oF] (.c .i) [lN] 0 (fun k d=>Ct k (vX d)) (fun x=>(x.1,(wG x.2 ()))) (fun d=>(d.1,(pH d)))):=fX f166 n0 1 (e1 qTn) zF
theorem ySp:Yb (yB 87 [.ptr true oF,.c (.p .i),.c (.p .i),.c (.p (.dat false (.int .u8)))] (.c .i) [lN] 0 (fun k d=>Hq k (vX d) (ci d) (ii d) (pm d)) (fun x=>(x.1,(wG x.2 ()))) (fun d=>(d.1,(pH d)))):=fX f87 n0 1 (e6 Sz yJp vY4 afE ySt vHt) zF
theorem vGu:Yb (uD 35 [.ptr true oF,.c (.p (.dat false (.int .u8)))] (.tup [(false,[.link 1]),(false,[.fro (.int .u8)]),(false,[.fro (.sl (.int .u8))]),(false,yG)]) [lN,SM] 1 (.tup [(false,[.nilp]),(false,[.own (.int .u8)]),(false,[.own (.sl (.int .u8))]),(false,yG)]) [lN] 0 (fun k d=>qO2 k (vX d) (ci d)) (fun x=>((),x.1,x.2.1,pi x,(wG (rg x) ((),(jI x.2.2.2.2 ()))))) (fun x=>((),x.1,x.2.1,pi x,(wG x.2.2.2 ()))) (fun d=>(d.2.1,pi d,rg d,(SN d),(yTn d))) (fun d=>(d.2.1,pi d,rg d,(SN d)))):=fN f35 n0 1 (e2 qMv ySp) zF
theorem afH:Yb (zJ 167 [.c (.dat true (.int .u8))] (.tup [(false,[.own .i]),(false,[.fro (.int .u8)]),(false,[.bool])]) (wH Sb) (fun x=>(x.1,x.2.1,x.2.2,())) (fun d=>(d.1,d.2.1,pi d))):=fA f167 n0 (e2 qVb N7) zF
theorem Jg:Yb (yB 94 [.ptr true I4] (.c (.own .i)) [[.fro (.int .u8),.bool]] 0 (fun k d=>zx k (d.1,d.2.1)) (fun x=>(x.1,x.2.1,x.2.2,())) (fun d=>(d.1,(d.2.1,pi d)))):=fX f94 n0 1 (e1 afH) zF
theorem qXa:Yb (yB 92 [.ptr true I4,.c (.p .i)] (.c (.own .i)) [[.fro (.int .u8),.bool]] 0 (fun k d=>v9 k (d.1,d.2.1) (pi d)) (fun x=>(x.1,x.2.1,x.2.2,())) (fun d=>(d.1,(d.2.1,pi d)))):=fX f92 n0 1 (e1 Jg) zF
def yVy:zE:=⟨[sP 0 0,sI 1,sO 5 1,sI 6],[oB pI,oA (.sl .i)],[(5,none,(.sl .i),false)]⟩
def vB7 (f:yEm)(d:yVy.den):=f (li d) (md d) (wr d,ip d) (pi d)
def yEg:=aka 0 yVy yLa qM4 vB7 IK fun x=>(((),(),()),((x.1.1,x.1.2,()),x.2,()))
def yO9:=ala 3 yEg
theorem vY1:zU prog 1000 1 24 (Nc f93 0) yEg:=lp (A:=yO9) yEg (fun d=>((wr d,ip d),pi d)) vB7 IK IL (e1 Jg) zF
theorem yB2:Yb (yB 93 [.ptr true I4,.c (.p .i)] (.c (.own (.sl .i))) [[.fro (.int .u8),.bool]] 0 (fun k d=>IH k (d.1,d.2.1) (pi d)) (fun x=>(x.1,x.2.1,x.2.2,())) (fun d=>(d.1,(d.2.1,pi d)))):=fX f93 yO9 1 (e1 Jg) (loops1 vY1)
def yOd (f:yAs)(d:vIk.den):=f (dl d) (ge d) (wr d,ip d,qr d) (In d,wl d) (rg d) (d.2.2.2.2.1.1,jp d,d.2.2.2.2.1.2.2.1) (Rd d)
def Tt:=aka 0 vIk vAj yAm yOd C4 fun x=>(((x.1,()),(),(),(),(),()),((wr x,ip x,x.2.1.2.2,()),(In x,x.2.2.1.2,()),rg x,(x.2.2.2.2.1.1,jp x,x.2.2.2.2.1.2.2,()),pp x,()))
def yTb:zE:=⟨[(0,.c (.dat true (.int .u8))),sP 2 0,sP 4 1,sO 5 2,sP 6 3,sI 9],[oB jV,oB pI,oA .i,oB [.i,.lit (.osl 1001004 none),.lit (.osl 1001005 none),.lit (.osl 1001006 none),.lit (.osl 1001007 none),.lit (.osl 1001008 none),.lit (.osl 1001009 none),.lit (.osl 1001010 none),.lit .nsl,.i,.bool],oA qR,oA (.sl .i),oA .i,oA (.sl .i),oA .i,oA (.sl .i),oA zH],[(6,some 7,zH,false)]⟩
def yLc (f:qNn)(d:yTb.den):=f (dl d) (ge d) (wr d,ip d,qr d) (In d,wl d) (rg d) (d.2.2.2.2.1.1,jp d,d.2.2.2.2.1.2.2.1) (Rd d) (be d) (ce d) (Pi d) (un d) (ci d) (ii d)
def Tu:=aka 2 yTb yQ5 qS3 yLc C6 fun x=>(((x.1,()),(),(),(),()),((wr x,ip x,x.2.1.2.2,()),(In x,x.2.2.1.2,()),(ap x,Fn x,x.2.2.2.1.2.2,()),If x,Rd x,be x,ce x,Pi x,un x,x.2.2.2.2.2.2.2.2.2.2,()))
def qRo:zW:=⟨[],[(5,Tt),(15,Tu)],[],true⟩
theorem vZ0:lc 154 (Nc f38 0) Tt:=lp (A:=qRo) Tt (fun d=>(dl d,(wr d,ip d,qr d),(In d,wl d),rg d,(d.2.2.2.2.1.1,jp d,d.2.2.2.2.1.2.2.1),Rd d)) yOd C4 IN (e4 qXa yB2 Jg De) zF
theorem afJ:lc 154 (Nc f38 1) Tu:=lp (A:=qRo) Tu (fun d=>(dl d,(wr d,ip d,qr d),(In d,wl d),(ap d,Fn d,co d),If d,Rd d,be d,ce d,Pi d,un d,ci d)) yLc C6 IQ (e4 qXa yB2 Jg De) zF
theorem vG9:Yb (zJ 38 [.c (.dat true (.int .u8))] (.tup [(true,[.i,.own qR,.own (.sl .i),.own .i,.own (.sl .i),.own .i,.own (.sl .i),.own zH,.own .i,.i,.bool]),(false,[.bool])]) (wH IT) (fun x=>(vQ x.1 (x.2,()))) (fun d=>((qP d),ii d))):=fA f38 qRo (e4 qXa yB2 Jg De) (mm (n:=2) (by kernel_rfl) fun i hi=>match i,hi with|0,_=>⟨Tt,by kernel_rfl,vZ0⟩|1,_=>⟨Tu,by kernel_rfl,afJ⟩|i+2,hi=>absurd hi (by omega))
theorem NT:Yb (jR 57 [.c .i] .i (wH BQ)):=fA f57 n0 e0 zF
def vJ3:zE:=sp [sP 2 0,sP 4 1,sO 5 2,sI 7] [oB vZ,oB vZ,oA .i]
def yG5:zE:=sp [sP 2 0,sP 4 1] [oB vZ,oB vZ]
def yKq (f:yFd)(d:vJ3.den):=f (md d) (vS d.2.1) (vS (pi d)) (rg d)
def qTj:=aka 0 vJ3 yG5 qPq yKq PZ fun x=>(((),(),()),((gf x.1 ()),(gf x.2 ()),()))
def yF5:=ala 8 qTj
theorem afL:lc 48 (Nc f48 0) qTj:=lp (A:=yF5) qTj (fun d=>((vS d.2.1),(vS (pi d)))) yKq PZ vGk (e2 N7 NT) zF
theorem yI0:Yb (zJ 48 [.c (.dat false (.int .u8))] (.tup [(true,pJ),(false,yG)]) (wH E1) (fun x=>(gf x.1 (x.2,()))) (fun d=>((vS d),ce d))):=fA f48 yF5 (e2 N7 NT) (loops1 afL)
theorem vFw:Yb (zJ 40 [.c (.dat false (.int .u8))] (.tup [(true,yBf),(false,yG)]) (wH Sn) (fun x=>(Dg x.1 (x.2,()))) (fun d=>((kq d),Pi d))):=fA f40 n0 (e2 N7 yI0) zF
theorem afP:Yb (jR 178 [.c .i] .bool (wH RV)):=fA f178 n0 e0 zF
def vCk:zE:=sp [sP 1 0,sI 3,sI 4] [oB vZ]
def yGz (f:yCb)(d:vCk.den):=f (li d) (Fd d) (vS d.2.1)
def qXq:=ama 0 vCk yJ7 yFv Int Bool yGz yv (fun x=>(((x,()),()),())) fun x=>(((x,()),()),())
def yMf:=ala 3 qXq
theorem afQ:lc 21 (Nc f55 0) qXq:=lp (A:=yMf) qXq (fun d=>match d with|.inl d=>.inl (dl d)|.inr d=>.inr (dl d)) yGz yv qYk (e1 NT) zF
theorem yZu:Yb (jR 55 [.agg vM] .bool (fun k d=>th k (vS d))):=fA f55 yMf (e1 NT) (loops1 afQ)
theorem afR:Yb (jR 179 [.c .i] .bool (wH RW)):=fA f179 n0 e0 zF
theorem afT:Yb (jR 100 [.agg ic,.agg Db] .bool (fun k d=>CI k (yC d) (vW2 d))):=fA f100 n0 (e3 afP yZu afR) zF
def yX6:zE:=⟨[(0,.c (.dat false zH)),sI 1,sO 5 0,sI 6],[oA zH],[(5,none,zH,false)]⟩
def yXn (f:qSj)(d:yX6.den):=f (dl d) (li d) (md d) d.2.1
def qTg:=aka 0 yX6 yXw yCz yXn LI fun x=>(((),()),(x,()))
def yWc:=ana 3 qTg
theorem vP6:lc 28 (Nc f101 0) qTg:=lp (A:=yWc) qTg (fun d=>d.2.1) yXn LI F6 e0 zF
def qNd:=(jR 101 [.c (.dat false zH),.c .i] (.own zH) (aja uP))
theorem AG:Yb qNd:=fA f101 yWc e0 (loops1 vP6)
def vE9:zE:=sp [(1,.c (.dat false .i)),sP 4 0,sP 5 1,sI 6] [oB vZ,oB vZ]
def vH7:zE:=sp [sP 4 0,sP 5 1] [oB vZ,oB vZ]
def yG8 (f:qQl)(d:vE9.den):=(mG (mG (f (dl d) (md d)) d.2.1) (pi d))
def qVp:=aka 0 vE9 vH7 qNy yG8 Tv fun x=>(((),(),()),((kk x ()),(yF8 x ()),()))
def vC9:=ana 3 qVp
theorem afU:lc 27 (Nc f22 0) qVp:=lp (A:=vC9) qVp (fun d=>(kk d.2.1 (vS (pi d)))) yG8 Tv yMm e0 zF
theorem tw:Yb (zJ 22 [.c .i,.c (.dat false .i)] (.agg pJ) (aja eQ) (fun x=>(gf x ())) (fun d=>(vS d))):=fA f22 vC9 e0 (loops1 afU)
theorem Tw:Yb (jR 180 [.agg ic,.c .i] .bool (fun k d=>RU k (yC d) (Rd d))):=fA f180 n0 e0 zF
theorem Tx:Yb (jR 181 [.agg vM,.c .i] .bool (fun k d=>(mF (qWy k) d))):=fA f181 Pa e0 zF
def vIe:zE:=sp [(0,.c (.dat false zH)),sI 1,sI 5] []
def yLi (f:qU5)(d:vIe.den):=f (dl d) (li d) (Fd d)
def yFa:=ama 0 vIe yGw yMp Unit Int yLi Ge (fun x=>((),())) fun x=>(((x,()),()),())
def yI3:=ana 2 yFa
theorem vOj:lc 20 (Nc f105 0) yFa:=lp (A:=yI3) yFa (fun d=>match d with|.inl d=>.inl ()|.inr d=>.inr (dl d)) yLi Ge Gf e0 zF
theorem Jh:Yb (jR 105 [.c (.dat false zH),.c .i] .i (aja mA)):=fA f105 yI3 e0 (loops1 vOj)
theorem mH:Yb (zJ 182 [.c (.dat true zH),.c .i] (.tup [(false,[.fro zH]),(true,pJ),(false,yG)]) (aja ow) (fun x=>(SZ x ())) (fun d=>(S0 d))):=fA f182 Pa (e1 Jh) zF
theorem Tz:Yb (jR 183 [.agg ic,.c .i] .bool (fun k d=>M6 k (yC d) (Rd d))):=fA f183 n0 e0 zF
theorem vAx:Yb (jR 300 [.agg vM,.c .i] .bool (fun k d=>(mF (Zg k) d))):=fA f300 Pa e0 zF
def vB6 (f:qSj)(d:yX6.den):=f (dl d) (li d) (md d) d.2.1
def qRt:=aka 0 yX6 yXw yCz vB6 LH fun x=>(((),()),(x,()))
def vI3:=ana 3 qRt
theorem afZ:lc 27 (Nc f275 0) qRt:=lp (A:=vI3) qRt (fun d=>d.2.1) vB6 LH F5 (e1 vAx) zF
def qR7:=(jR 275 [.c (.dat false zH),.c .i] (.own zH) (aja F4))
theorem Dm:Yb qR7:=fA f275 vI3 (e1 vAx) (loops1 afZ)
def yIl:zE:=sp [sO 5 0,sO 6 1,sI 7,sO 8 2,(9,.c .bool),sI 10] [oA zH,oA zH,oA zH]
def vFx:zE:=sp [sO 5 0,sO 6 1,sI 7,sO 8 2,(9,.c .bool)] [oA zH,oA zH,oA zH]
def vBr (f:qT4)(d:yIl.den):=f (Fd d) (Nd d) (ge d) d.2.1 (pi d) (rg d)
def qXj:=aka 2 yIl vFx yEc vBr F7 fun x=>(((),(),(x.1,()),(),(x.2.1,()),()),(pi x,rg x,x.2.2.2.2,()))
def yQ1:zE:=⟨[sO 5 0,sO 6 1,sI 7],[oA zH,oA zH],[(6,none,zH,false)]⟩
def yOg:zE:=sp [sO 6 0] [oA zH]
def yYj (f:qWl)(d:yQ1.den):=f (Fd d) d.2.1 (pi d)
def yAe:=aka 0 yQ1 yOg yCz yYj LK fun x=>(((),()),(x,()))
def vX2:Env:=⟨prog,fun t=>[141].any (Nat.beq t),fe [qR7,qNd]⟩
theorem yDw:jJ vX2:=KI (l:=[qR7,qNd]) (eqT:=fun t=>[141].any (Nat.beq t)) (O2 (fun t h=>Pu (p:=fun t=>prog.keyTypeAt 8 t&& !prog.eqGuardType prog.depth t) (l:=[141]) (List.forall_mem_cons.2 ⟨by kernel_rfl,List.forall_mem_nil _⟩) t h)) gJ ⟨Dm,AG,trivial⟩
def yEn:zW:=⟨[],[(9,qXj),(4,yAe)],[],false⟩
theorem af0:lc 61 (zS (Nc f313 0) 0) qXj:=lp (A:=yEn) qXj (fun d=>(Fd d,Nd d,d.2.1,pi d,rg d)) vBr F7 F8 yDw zF
theorem vZk:lc 61 (Nc f313 0) yAe:=lp (A:=yEn) yAe (fun d=>d.2.1) yYj LK F9 yDw (loops1 af0)
theorem Oa:Yb (jR 313 [.c (.dat false zH),.c .i] (.own zH) (aja LJ)):=fA f313 yEn yDw (loops1 vZk)
theorem TA:Yb (jR 174 [.agg jZ,.agg vM] .bool (fun k d=>(tA (Qi k) d))):=fA f174 Pa e0 zF
def yGg:zE:=sp [(1,.c (.dat false zH)),sP 2 0,sI 5] [oB jQ]
def yHn:zE:=sp [(1,.c (.dat false zH))] []
def yJf (f:qR3)(d:yGg.den):=(vI (f (dl d) (Fd d)) d.2.1)
def yCd:zV:=⟨[yGg],[(.exit 0,yHn),(.ret,vCo)],qMg,fun k d=>yJf (Lk k k) d,fun b x _ K=>match x with|.inl x=>K (.exit 0) (zM b yHn (((x,()),()),()))|.inr x=>K .ret (zM b vCo (((x,()),()),()))⟩
def yOt:=ana 2 yCd
theorem vWc:lc 22 (Nc f301 0) yCd:=lp (A:=yOt) yCd (fun d=>match d with|.inl d=>.inl (dl d)|.inr d=>.inr (dl d)) yJf Lk Fz (e1 TA) zF
theorem TB:Yb (jR 301 [.agg jZ,.c (.dat false zH)] .bool (fun k d=>(lQ (Lj k) d))):=fA f301 yOt (e1 TA) (loops1 vWc)
def yW2:zE:=⟨[(0,.c (.dat false (.sl .i))),sO 3 0,sI 4],[.mat],[(3,none,(.sl .i),true)]⟩
def yMq:zE:=sp [sO 3 0] [.mat]
def vJo (f:qPp)(d:yW2.den):=f (dl d) (Fd d) d.2.1
def qRq:=aka 0 yW2 yMq EQ vJo K7 fun x=>(((),()),(x,()))
def yIj:zW:=⟨[18,19],[(3,qRq)],[],false⟩
theorem af3:lc 21 (Nc f270 0) qRq:=lp (A:=yIj) qRq (fun d=>d.2.1) vJo K7 Fq e0 zF
theorem vUw:Yb (jR 270 [.c (.dat false (.sl .i))] (.mat) (wH K8)):=fA f270 yIj e0 (loops1 af3)
theorem AH:Yb (zJ 237 [.agg jZ] (.agg [.own qR,.mat,.own .i,.mat]) (fun k d=>(vI (pt k) d)) (fun x=>(jI x ())) (fun d=>(jU d))):=fA f237 Pa (e1 vUw) zF
def yQj:zE:=sp [(0,.c (.dat false zH)),sI 1,sI 6,sI 7,sI 8] []
def yUn:zE:=sp [sI 6,sI 7] []
def yM2 (f:yE2)(d:yQj.den):=f (dl d) (li d) (Fd d) (md d) (Nd d)
def qOf:=aka 0 yQj yUn vH yM2 Ln fun x=>(((x.1,()),(x.2,()),()),())
def yU5:=ana 3 qOf
theorem af6:lc 46 (Nc f316 0) qOf:=lp (A:=yU5) qOf (fun d=>(dl d,li d)) yM2 Ln FE e0 zF
theorem qU4:Yb (aia 316 [.c (.dat false zH),.c .i] .i .i (aja Lm)):=fA f316 yU5 e0 (loops1 af6)
theorem qX1:Yb (jR 303 [.c (.dat false zH),.c .i] .i (aja Qq)):=fA f303 Pa (e1 qU4) zF
theorem Ob:Yb (jR 302 [.agg oG,.c .i] .i (fun k d=>(vI (Lp k) d))):=fA f302 Pa e0 zF
def vFo:zE:=sp [(0,.c (.dat false zH)),sI 1,sI 2,sI 7,sI 8] []
def yR3:zE:=sp [sI 7] []
def yKd (f:qZv)(d:vFo.den):=f (dl d) (li d) (Fd d) (md d) (Nd d)
def qQn:=aka 0 vFo yR3 Int yKd Ll fun x=>(((x,()),()),())
def yYp:=ana 3 qQn
theorem aga:lc 39 (Nc f317 0) qQn:=lp (A:=yYp) qQn (fun d=>(dl d)) yKd Ll FD e0 zF
theorem qQ0:Yb (jR 317 [.c (.dat false zH),.c .i,.c .i] .i (xM xT)):=fA f317 yYp e0 (loops1 aga)
theorem yAf:Yb (jR 304 [.c (.dat false zH),.c .i,.c .i] .i (xM Qo)):=fA f304 Pa (e1 qQ0) zF
def yWi:zE:=sp [(0,.c (.dat false (.sl .i))),sI 1,sI 5] []
def yQd (f:qWd)(d:yWi.den):=f (dl d) (li d) (Fd d)
def qLy:=ama 0 yWi yGw vCo Unit Bool yQd KZ (fun x=>((),())) fun x=>(((x,()),()),())
def yPd:=ana 4 qLy
theorem vYs:lc 22 (Nc f168 0) qLy:=lp (A:=yPd) qLy (fun d=>match d with|.inl d=>.inl ()|.inr d=>.inr (dl d)) yQd KZ E8 e0 zF
theorem qMs:Yb (jR 168 [.c (.dat false (.sl .i)),.c .i] .bool (aja KY)):=fA f168 yPd e0 (loops1 vYs)
theorem TC:Yb (jR 169 [.agg oG] .bool (xM KW)):=fA f169 Pa e0 zF
theorem yEd:Yb (jR 170 [.c .i] .bool (wH KX)):=fA f170 Pa e0 zF
def yO2:zE:=sp [sP 1 0,sI 3,sI 4,sI 5] [oB jQ]
def vJm:zE:=sp [sP 1 0,sI 3,sI 4] [oB jQ]
def yIx (f:qNo)(d:yO2.den):=(vI (f (li d) (Fd d) (md d)) d.2.1)
def yBz:zV:=⟨[yO2],[(.exit 2,vJm),(.ret,yFv)],yEe,fun k d=>yIx (E9 k k) d,fun b x _ K=>match x with|.inl x=>K (.exit 2) (zM b vJm (((),(x.1,()),(x.2.1,()),()),((Cz x ()),())))|.inr x=>K .ret (zM b yFv (((x,()),()),()))⟩
def yW0 (f:qNv)(d:vJm.den):=(vI (f (li d) (Fd d)) d.2.1)
def qP2:=ama 0 vJm yGw yFv Unit Bool yW0 Fc (fun x=>((),())) fun x=>(((x,()),()),())
def qPj:zW:=⟨[],[(10,yBz),(5,qP2)],[],false⟩
theorem vO9:lc 114 (zS (Nc f95 0) 0) yBz:=lp (A:=qPj) yBz (fun d=>match d with|.inl d=>.inl (li d,Fd d,(jU d.2.1))|.inr d=>.inr (dl d)) yIx E9 Fa (e3 qMs TC yEd) zF
theorem vX1:lc 114 (Nc f95 0) qP2:=lp (A:=qPj) qP2 (fun d=>match d with|.inl d=>.inl ()|.inr d=>.inr (dl d)) yW0 Fc Fe (e3 qMs TC yEd) (loops1 vO9)
theorem Oc:Yb (jR 95 [.agg jZ] .bool (fun k d=>(vI (Ff k) d))):=fA f95 qPj (e3 qMs TC yEd) (loops1 vX1)
def vJ2:zE:=sp [(1,.c (.dat false zH)),sP 2 0,sP 4 1,sP 6 2,sI 7,sI 8] [oB wM,oB oH,oB tB,oA qR,.mat,oA .i,.mat]
def yIk:zE:=sp [(1,.c (.dat false zH)),sP 2 0,sP 4 1,sP 6 2,sI 7] [oB wM,oB oH,oB tB,oA qR,.mat,oA .i,.mat]
def vHj (f:qM5)(d:vJ2.den):=(vI (f (dl d) (Nd d) (ge d)) d.2.1) (If d) (Rd d) (be d) (ce d)
def yAt:=aka 2 vJ2 yIk qY1 vHj FF fun x=>(((x.1,()),(),(),(),(x.2.1,()),()),((SS x ()),(),(),be x,ce x,Pi x,x.2.2.2.2.2.2.2.2.2,()))
def vAy:zE:=sp [sP 2 0,sP 4 1,sP 6 2] [oB wM,oB oH,oB tB,oA qR,.mat,oA .i,.mat]
def vCc (f:qSf)(d:yIk.den):=(vI (f (dl d) (Nd d)) d.2.1) (If d) (Rd d) (be d) (ce d)
def yD8:=aka 0 yIk vAy qZs vCc FH fun x=>(((),(),(),()),((vW x ()),(),(),If x,Rd x,be x,x.2.2.2.2.2.2.2,()))
def yCe:zW:=⟨[],[(9,yAt),(5,yD8)],[],false⟩
theorem vMl:lc 84 (zS (Nc f276 0) 0) yAt:=lp (A:=yCe) yAt (fun d=>(dl d,Nd d,(vW d.2.1 (If d,Rd d,be d,ce d)))) vHj FF FG (e6 TB AH qX1 Ob yAf Oc) zF
theorem vMm:lc 84 (Nc f276 0) yD8:=lp (A:=yCe) yD8 (fun d=>(vW d.2.1 (If d,Rd d,be d,ce d))) vCc FH FI (e6 TB AH qX1 Ob yAf Oc) (loops1 vMl)
theorem qVm:Yb (zJ 276 [.agg lq,.c (.dat false zH)] (.tup [(true,nE),(false,yG)]) (fun k d=>(lQ (BZ k) d)) (fun x=>(vK x ())) (fun d=>(yC d))):=fA f276 yCe (e6 TB AH qX1 Ob yAf Oc) (loops1 vMm)
def yRo:zE:=sp [sI 1,sP 2 0,sI 5,sI 6] [oB jQ]
def vBb (f:qU0)(d:yRo.den):=(vI (f (dl d) (Fd d) (md d)) d.2.1)
def qNe:=aka 0 yRo yXs Int vBb FJ fun x=>(((x,()),()),())
def yP4:=ana 3 qNe
theorem age:lc 28 (Nc f326 0) qNe:=lp (A:=yP4) qNe (fun d=>(dl d)) vBb FJ FK e0 zF
theorem vJk:Yb (jR 326 [.agg jZ,.c .i] .i (fun k d=>(lQ (Qt k) d))):=fA f326 yP4 e0 (loops1 age)
def yFu:zE:=sp [(1,.c (.dat false zH)),sI 2,sP 3 0,sI 7,sI 8,sI 9,sI 10,sI 11] [oB jQ]
def yY3:zE:=sp [sI 2,sP 3 0,sI 7,sI 8,sI 9,sI 10] [oB jQ]
def yMe (f:qMt)(d:yFu.den):=(vI (f (dl d) (li d) (md d) (Nd d) (ge d) (Hl d) (lm d)) d.2.1)
def qVe:zV:=⟨[yFu],[(.exit 0,yY3),(.ret,yNa)],yD0,fun k d=>yMe (sU k k) d,fun b x _ K=>match x with|.inl x=>K (.exit 0) (zM b yY3 (((x.1,()),(),(x.2.1,()),(pi x,()),(rg x,()),(If x,()),()),((vMc x ()),())))|.inr x=>K .ret (zM b yNa (((x,()),()),()))⟩
def yLl:=ana 7 qVe
theorem vRw:lc 130 (Nc f315 0) qVe:=lp (A:=yLl) qVe (fun d=>match d with|.inl d=>.inl (dl d,Fd d,md d,Nd d,ge d,(jU d.2.1))|.inr d=>.inr (dl d)) yMe sU FM (e4 qU4 vJk qQ0 Ob) zF
theorem vAw:Yb (jR 315 [.agg jZ,.c (.dat false zH),.c .i] .bool (fun k d=>(ku (Qw k) d))):=fA f315 yLl (e4 qU4 vJk qQ0 Ob) (loops1 vRw)
def vH9:zE:=⟨[(1,.c (.dat false zH)),sP 2 0,sO 5 1,sI 6],[oB jQ,oA .i],[(5,none,.i,false)]⟩
def yOf (f:qPd)(d:vH9.den):=(vI (f (dl d) (md d)) d.2.1) (pi d)
def qT5:=aka 0 vH9 yZw AC yOf uN fun x=>(((),()),(x,()))
def yNs:=ana 3 qT5
theorem agf:lc 23 (Nc f299 0) qT5:=lp (A:=yNs) qT5 (fun d=>d.2.1) yOf uN sV (e1 vAw) zF
theorem Od:Yb (jR 299 [.agg jZ,.c (.dat false zH)] (.own .i) (fun k d=>(lQ (uM k) d))):=fA f299 yNs (e1 vAw) (loops1 agf)
theorem agi:Yb (jR 314 [.agg jZ,.c (.dat false zH)] .bool (fun k d=>(lQ (Ls k) d))):=fA f314 Pa (e2 TB Od) zF
theorem wb:Yb (zJ 297 [.agg lq,.c (.dat false zH)] (.tup [(true,nE),(false,[.bool])]) (fun k d=>(lQ (vr k) d)) (fun x=>(vK x ())) (fun d=>(yC d))):=fA f297 Pa (e2 qVm agi) zF
def vCe:zE:=sp [sP 3 0,sP 6 1,sO 8 2,sI 9] [oB wM,oB vZ,oA zH]
def yQz:zE:=sp [sP 6 0] [oB vZ]
def vIq:zE:=sp [sP 6 0,(7,.c .bool)] [oB vZ]
def yJ5 (f:qS1)(d:vCe.den):=(mG (vI (f (md d)) d.2.1) (pi d)) (rg d)
def qLw:zV:=⟨[vCe],[(.exit 0,yQz),(.ret,vIq)],qN8,fun k d=>yJ5 (MS k k) d,fun b x _ K=>match x with|.inl x=>K (.exit 0) (zM b yQz (((),()),((gf x ()),())))|.inr x=>K .ret (zM b vIq (((),(x.1,()),()),((vFy x ()),())))⟩
def vA5:=ana 3 qLw
theorem vSh:lc 37 (Nc f296 0) qLw:=lp (A:=vA5) qLw (fun d=>match d with|.inl d=>.inl (vS d.2.1)|.inr d=>.inr (li d,(vS d.2.1))) yJ5 MS HO (e2 Oa wb) zF
theorem vAb:Yb (zJ 296 [.agg lq,.c (.dat true zH),.c .i] (.tup [(true,pJ),(false,[.bool])]) (fun k d=>(ku (RN k) d)) (fun x=>(Dg x ())) (fun d=>(kq d))):=fA f296 vA5 (e2 Oa wb) (loops1 vSh)
def ySn:zE:=⟨[(1,.c (.dat true zH)),sI 2,sP 3 0,sP 6 1,sO 9 2],[oB wM,oB oH,oA zH],[(9,none,zH,false)]⟩
def yTx (f:qP5)(d:ySn.den):=(vI (f (dl d) (li d)) d.2.1) (rg d)
def qXb:zV:=⟨[ySn],[(.ret,yFx)],qWt,fun k d=>yTx (MU k k) d,fun b x _ K=>K .ret (zM b yFx (((),(x.1,()),(),()),((iI x ()),pp x,())))⟩
def vKp:=ana 2 qXb
theorem vYw:lc 43 (Nc f271 0) qXb:=lp (A:=vKp) qXb (fun d=>(li d,(vW d.2.1 (pi d)))) yTx MU HP (e3 vAb wb mH) zF
theorem yUx:Yb (zJ 271 [.agg lq,.c (.dat true zH),.c .i] (.tup [(true,nE),(false,[.fro zH]),(false,[.own zH])]) (fun k d=>(ku (RO k) d)) (fun x=>(oI x ())) (fun d=>(nF d))):=fA f271 vKp (e3 vAb wb mH) (loops1 vYw)
def yNb:zE:=sp [sP 3 0,sP 6 1,sP 7 2,sO 9 3,sI 10,sI 11] [oB wM,oB vZ,oB vZ,oA zH]
def yH8:zE:=sp [sP 3 0,sP 6 1,sP 7 2,sO 9 3,sI 10] [oB wM,oB vZ,oB vZ,oA zH]
def yGq:zE:=sp [sP 6 0,sP 7 1,(8,.c .bool)] [oB vZ,oB vZ]
def yWh (f:qQ4)(d:yNb.den):=(mG (mG (vI (f (Nd d) (ge d)) d.2.1) (pi d)) (rg d)) (If d)
def qU8:zV:=⟨[yNb],[(.exit 2,yH8),(.ret,yGq)],qPg,fun k d=>yWh (MW k k) d,fun b x _ K=>match x with|.inl x=>K (.exit 2) (zM b yH8 (((),(),(),(),(x.1,()),()),((iI x ()),(agl x ()),(agm x ()),x.2.2.2.2.2.2.2.2.2.2.2.2.2.2.2.2.2.2.2,())))|.inr x=>K .ret (zM b yGq (((),(),(x.1,()),()),((yFk x ()),(vIg x ()),())))⟩
def yTe:zE:=sp [sP 6 0,sP 7 1] [oB vZ,oB vZ]
def yQ4 (f:qWu)(d:yH8.den):=(mG (mG (vI (f (Nd d)) d.2.1) (pi d)) (rg d)) (If d)
def qPw:zV:=⟨[yH8],[(.exit 0,yTe),(.ret,yGq)],qQb,fun k d=>yQ4 (MX k k) d,fun b x _ K=>match x with|.inl x=>K (.exit 0) (zM b yTe (((),(),()),((kk x ()),(yF8 x ()),())))|.inr x=>K .ret (zM b yGq (((),(),(x.1,()),()),((yFk x ()),(vIg x ()),())))⟩
def qPo:zW:=⟨[],[(6,qU8),(3,qPw)],[],false⟩
theorem vYn:lc 71 (zS (Nc f298 0) 0) qU8:=lp (A:=qPo) qU8 (fun d=>match d with|.inl d=>.inl (Nd d,(vW d.2.1 (kk (pi d) (kk (rg d) (If d)))))|.inr d=>.inr (Fd d,(kk d.2.1 (vS (pi d))))) yWh MW HQ (e2 Oa wb) zF
theorem vWe:lc 71 (Nc f298 0) qPw:=lp (A:=qPo) qPw (fun d=>match d with|.inl d=>.inl (kk d.2.1 (vS (pi d)))|.inr d=>.inr (Fd d,(kk d.2.1 (vS (pi d))))) yQ4 MX HR (e2 Oa wb) (loops1 vYn)
theorem vFz:Yb (zJ 298 [.agg lq,.c (.dat true zH),.c .i] (.tup [(true,pJ),(true,pJ),(false,[.bool])]) (fun k d=>(ku (RP k) d)) (fun x=>(yY1 x ())) (fun d=>(vD2 d))):=fA f298 qPo (e2 Oa wb) (loops1 vWe)
def yVe (f:qP5)(d:ySn.den):=(vI (f (dl d) (li d)) d.2.1) (rg d)
def qL9:zV:=⟨[ySn],[(.ret,yFx)],qWt,fun k d=>yVe (MY k k) d,fun b x _ K=>K .ret (zM b yFx (((),(x.1,()),(),()),((iI x ()),pp x,())))⟩
def yYb:=ana 2 qL9
theorem ago:lc 55 (Nc f272 0) qL9:=lp (A:=yYb) qL9 (fun d=>(li d,(vW d.2.1 (pi d)))) yVe MY HS (e3 vFz wb mH) zF
theorem yR6:Yb (zJ 272 [.agg lq,.c (.dat true zH),.c .i] (.tup [(true,nE),(false,[.fro zH]),(false,[.own zH])]) (fun k d=>(ku (RQ k) d)) (fun x=>(oI x ())) (fun d=>(nF d))):=fA f272 yYb (e3 vFz wb mH) (loops1 ago)
def yUd (f:qP5)(d:ySn.den):=(vI (f (dl d) (li d)) d.2.1) (rg d)
def qSn:zV:=⟨[ySn],[(.ret,yFx)],qWt,fun k d=>yUd (M4 k k) d,fun b x _ K=>K .ret (zM b yFx (((),(x.1,()),(),()),((iI x ()),pp x,())))⟩
def vHp:=ana 2 qSn
theorem agq:lc 45 (Nc f240 0) qSn:=lp (A:=vHp) qSn (fun d=>(li d,(vW d.2.1 (pi d)))) yUd M4 H2 (e2 yUx yR6) zF
theorem vVi:Yb (zJ 240 [.agg lq,.c (.dat true zH),.c .i] (.tup [(true,nE),(false,[.fro zH]),(false,[.own zH])]) (fun k d=>(ku (M5 k) d)) (fun x=>(oI x ())) (fun d=>(nF d))):=fA f240 vHp (e2 yUx yR6) (loops1 agq)
def yWt:zE:=⟨[(0,.c (.dat false zH)),(1,.c (.dat false .i)),sO 5 0,sI 6],[oA zH],[(5,none,zH,false)]⟩
def yIy (f:qYl)(d:yWt.den):=f (dl d) (li d) (md d) d.2.1
def qTd:=aka 0 yWt yXw yCz yIy HU fun x=>(((),()),(x,()))
def vEt:=ana 3 qTd
theorem agr:lc 60 (Nc f274 0) qTd:=lp (A:=vEt) qTd (fun d=>d.2.1) yIy HU HV (e1 AG) zF
theorem Ji:Yb (jR 274 [.c (.dat false zH),.c (.dat false .i)] (.own zH) (aja HT)):=fA f274 vEt (e1 AG) (loops1 agr)
def vC7:zE:=⟨[sP 3 0,sO 8 1,sO 9 2,sI 10],[oB jQ,oA zH,oA .i],[(9,none,.i,false)]⟩
def vG5:zE:=sp [sP 3 0,sO 8 1,sO 9 2] [oB jQ,oA zH,oA .i]
def vEz (f:qUf)(d:vC7.den):=(vI (f (md d)) d.2.1) (pi d) (rg d)
def TD:=aka 0 vC7 vG5 qWg vEz CF fun x=>(((),(),(),()),((vW x ()),If x,pp x,()))
def yMw:zE:=sp [sP 3 0,sO 8 1,sO 9 2,sI 11,sO 12 3,sI 13] [oB jQ,oA zH,oA .i,oA .i]
def yUl:zE:=sp [sP 3 0,sO 8 1,sO 9 2,sI 11] [oB jQ,oA zH,oA .i]
def yR9 (f:yBd)(d:yMw.den):=(vI (f (md d) (ge d)) d.2.1) (pi d) (rg d) (If d)
def qMl:=aka 4 yMw yUl qTc yR9 HX fun x=>(((),(),(),(x.1,()),()),((iI x ()),Rd x,x.2.2.2.2.2.2,()))
def yZy (f:qNl)(d:yUl.den):=(vI (f (md d)) d.2.1) (pi d) (rg d)
def TE:zV:=⟨[yUl],[(.ret,yWo)],(Int×AC),fun k d=>yZy (MZ k k) d,fun b x _ K=>K .ret (zM b yWo (((),(x.1,()),()),(x.2,())))⟩
def TF:zW:=⟨[],[(4,TD),(13,qMl),(9,TE)],[],false⟩
theorem ags:lc 58 (Nc f273 0) TD:=lp (A:=TF) TD (fun d=>(vW d.2.1 (pi d,rg d))) vEz CF HW (e4 Dm AG Ji Od) zF
theorem agt:lc 58 (zS (Nc f273 1) 0) qMl:=lp (A:=TF) qMl (fun d=>(md d,(vW d.2.1 (pi d,rg d)))) yR9 HX HY (e4 Dm AG Ji Od) zF
theorem vSk:lc 58 (Nc f273 1) TE:=lp (A:=TF) TE (fun d=>(li d,d.2.1)) yZy MZ HZ (e4 Dm AG Ji Od) (loops1 agt)
theorem vGd:Yb (aia 273 [.agg jZ,.c (.dat false zH),.c .i] (.own .i) .i (fun k d=>(ku (RR k) d))):=fA f273 TF (e4 Dm AG Ji Od) (mm (n:=2) (by kernel_rfl) fun i hi=>match i,hi with|0,_=>⟨TD,by kernel_rfl,ags⟩|1,_=>⟨TE,by kernel_rfl,vSk⟩|i+2,hi=>absurd hi (by omega))
def vIj:zE:=sp [(1,.c (.dat true zH)),sP 6 0,sO 11 1,sP 12 2,sI 14] [oB oH,oA zH,oB wM]
def yN3:zE:=sp [(1,.c (.dat true zH)),sP 6 0,sO 11 1,sP 12 2] [oB oH,oA zH,oB wM]
def yP5 (f:yC5)(d:vIj.den):=(vI (f (dl d) (Nd d) (pi d)) (rg d))
def qTq:=aka 0 vIj yN3 yDl yP5 CG fun x=>(((x.1,()),(),(),(),()),((),x.2.1,(Cz x ()),()))
def yHp:=ana 7 qTq
theorem vVl:lc 57 (Nc f241 0) qTq:=lp (A:=yHp) qTq (fun d=>(dl d,pi d,(jU (rg d)))) yP5 CG H0 (e5 vGd Dm Ji qVm mH) zF
theorem vL7:Yb (zJ 241 [.agg lq,.c (.dat true zH),.c .i] (.tup [(true,nE),(false,[.fro zH]),(false,[.own zH])]) (fun k d=>(ku (M3 k) d)) (fun x=>(oI x ())) (fun d=>(nF d))):=fA f241 yHp (e5 vGd Dm Ji qVm mH) (loops1 vVl)
theorem vK9:Yb (zJ 190 [.agg lq,.c (.dat true zH),.c .i,.c .bool] (.tup [(true,nE),(false,[.fro zH]),(false,[.own zH])]) (fun k d=>(mG (RT k) d)) (fun x=>(oI x ())) (fun d=>(nF d))):=fA f190 Pa (e2 vVi vL7) zF
def yU7:zE:=⟨[(0,.c (.dat false zH)),sO 3 0,sI 4],[oA yQ],[(3,none,yQ,false)]⟩
def vJy (f:qUd)(d:yU7.den):=f (dl d) (Fd d) d.2.1
def qP9:=aka 0 yU7 yWn qWn vJy Mp fun x=>(((),()),(x,()))
def yOw:=ana 3 qP9
theorem vOk:lc 39 (Nc f191 0) qP9:=lp (A:=yOw) qP9 (fun d=>d.2.1) vJy Mp G2 (e1 tw) zF
theorem agw:Yb (jR 191 [.c (.dat false zH)] (.own yQ) (wH Re)):=fA f191 yOw (e1 tw) (loops1 vOk)
theorem Oe:Yb (zJ 104 [.agg Aw,.c .bool] (.tup [(true,Av),(false,[.own yQ])]) (fun k d=>(N5 (oz k) d)) (fun x=>(Jb x ())) (fun d=>(Jc d))):=fA f104 Pa (e2 vK9 agw) zF
def yKb:zE:=⟨[sP 3 0,sP 4 1,sO 6 2,(7,.c (.dat true zH)),sI 8],[oB iG,oB jV,oA yQ],[(6,none,yQ,false)]⟩
def yVb:zE:=sp [sP 3 0,sP 4 1,sO 6 2] [oB iG,oB jV,oA yQ]
def yGr (f:qOd)(d:yKb.den):=f (md d) (Nd d) (qP d.2.1) (In d,wl d,Do d) (rg d)
def TG:=aka 0 yKb yVb qPz yGr zg fun x=>(((),(),(),()),((vQ x.1 ()),(wr x,ip x,x.2.1.2.2,()),x.2.2,()))
def yU1:zE:=sp [sP 3 0,sP 4 1,sO 6 2,sI 9] [oB iG,oB jV,oA yQ]
def yNk (f:qNa)(d:yU1.den):=f (md d) (qP d.2.1) (In d,wl d,Do d) (rg d)
def TH:=aka 2 yU1 yVb qPz yNk zh fun x=>(((),(),(),()),((vQ x.1 ()),(wr x,ip x,x.2.1.2.2,()),x.2.2,()))
def yV7:zE:=⟨[sP 2 0,sP 3 1,sP 4 2,sO 6 3,(7,.c (.dat true zH)),sI 10],[oB Je,oB iG,oB jV,oA yQ],[(6,none,yQ,false)]⟩
def yWr:zE:=sp [sP 2 0,sP 3 1,sP 4 2,sO 6 3] [oB Je,oB iG,oB jV,oA yQ]
def vB0 (f:qUq)(d:yV7.den):=f (Nd d) (ge d) (yC d.2.1) (qP (pi d)) (ap d,Fn d,co d) (If d)
def TI:=aka 4 yV7 yWr qYb vB0 vt fun x=>(((),(),(),(),()),((vK x.1 ()),(vQ x.2.1 ()),(In x,wl x,x.2.2.1.2.2,()),x.2.2.2,()))
def TJ:zW:=⟨[],[(8,TG),(12,TH),(18,TI)],[],true⟩
theorem vXt:lc 129 (Nc f102 0) TG:=lp (A:=TJ) TG (fun d=>((qP d.2.1),(In d,wl d,Do d),rg d)) yGr zg H3 (e6 Tw tw Tx mH Tz Oe) zF
theorem vLq:lc 129 (Nc f102 1) TH:=lp (A:=TJ) TH (fun d=>((qP d.2.1),(In d,wl d,Do d),rg d)) yNk zh H4 (e6 Tw tw Tx mH Tz Oe) zF
theorem agx:lc 129 (Nc f102 2) TI:=lp (A:=TJ) TI (fun d=>((yC d.2.1),(qP (pi d)),(ap d,Fn d,co d),If d)) vB0 vt H5 (e6 Tw tw Tx mH Tz Oe) zF
theorem agy:Yb (zJ 102 [.agg N6,.agg Aw] (.tup [(true,Av),(false,[.own yQ])]) (fun k d=>H6 k (yC d) (jS d)) (fun x=>(vQ x.1 (x.2,()))) (fun d=>((qP d),ii d))):=fA f102 TJ (e6 Tw tw Tx mH Tz Oe) (mm (n:=3) (by kernel_rfl) fun i hi=>match i,hi with|0,_=>⟨TG,by kernel_rfl,vXt⟩|1,_=>⟨TH,by kernel_rfl,vLq⟩|2,_=>⟨TI,by kernel_rfl,agx⟩|i+3,hi=>absurd hi (by omega))
theorem qRh:Yb (jR 228 [.ptr yIv,.c .i] .i (fun k d=>vn k (Tc d) (Id d))):=fA f228 n0 e0 zF
theorem vIm:Yb (jR 235 [.agg ic,.c .i,.c .i] .i (fun k d=>HK k (yC d) (Rd d) (be d))):=fA f235 n0 e0 zF
theorem vS7:Yb (jR 229 [.agg ic,.c .i,.agg vM] .i (fun k d=>CB k (yC d) (Rd d) (yCg d))):=fA f229 n0 (e1 vIm) zF
def vEu:zE:=sp [(0,.c (.dat false .i)),sI 1,sI 5] []
def yK8 (f:qTt)(d:vEu.den):=f (dl d) (li d) (Fd d)
def qMd:=ama 0 vEu yGw vCo Unit Bool yK8 tl (fun x=>((),())) fun x=>(((x,()),()),())
def yI5:=ala 2 qMd
theorem vWa:lc 18 (Nc f175 0) qMd:=lp (A:=yI5) qMd (fun d=>match d with|.inl d=>.inl ()|.inr d=>.inr (dl d)) yK8 tl tm e0 zF
theorem TK:Yb (jR 175 [.c (.dat false .i),.c .i] .bool (aja Cx)):=fA f175 yI5 e0 (loops1 vWa)
def ySc:zE:=sp [(0,.c (.dat true .i)),sI 1,sI 6] []
def yTf (f:qT0)(d:ySc.den):=f (dl d) (li d) (Fd d)
def qP6:=aka 0 ySc ySc (AC×Int×Int) yTf ML fun x=>(((x.1,()),(x.2.1,()),(x.2.2,()),()),())
def vJ7:=ala 6 qP6
theorem vT9:lc 41 (Nc f230 0) qP6:=lp (A:=vJ7) qP6 (fun d=>(dl d,li d,Fd d)) yTf ML HC (e1 TK) zF
theorem vQw:Yb (aia 230 [.c (.dat true .i),.c .i] (.fro .i) .i (aja Cy)):=fA f230 vJ7 (e1 TK) (loops1 vT9)
theorem Jj:Yb (jR 227 [.agg vM,.agg vM] .bool (fun k d=>(I6 (Hu k) d))):=fA f227 Pa e0 zF
def vD7:zE:=sp [(0,.c (.dat false zH)),sP 3 0,sI 5] [oB vZ]
def vIb (f:yC8)(d:vD7.den):=(mG (f (dl d) (Fd d)) d.2.1)
def yCv:=aka 0 vD7 yXs Int vIb Hz fun x=>(((x,()),()),())
def yZ8:=ana 2 yCv
theorem vYr:lc 21 (Nc f269 0) yCv:=lp (A:=yZ8) yCv (fun d=>(dl d)) vIb Hz HA (e1 Jj) zF
theorem qW1:Yb (jR 269 [.c (.dat false zH),.agg vM] .i (fun k d=>(mF (Hy k) d))):=fA f269 yZ8 (e1 Jj) (loops1 vYr)
theorem Of:Yb (jR 268 [.c (.dat false zH),.c .i,.agg vM] (.own zH) (fun k d=>(S8 (Cv k) d))):=fA f268 Pa e0 zF
theorem vSw:Yb (aia 231 [.c (.dat true zH),.agg vM] (.fro zH) .i (fun k d=>(mF (Cw k) d))):=fA f231 Pa (e3 Jh qW1 Of) zF
theorem vT4:Yb (yB 184 [.ptr true Dn,.agg NZ] (.c .i) [Dp] 0 (fun k d=>RI k (yI d (wd d)) (vRj d)) (fun x=>(x.1,(AF x.2 ()))) (fun d=>(d.1,(Dq d)))):=fX f184 n0 1 (e4 qRh vS7 vQw vSw) zF
theorem agG:Yb (zJ 232 [.ptr yIv,.c .i] (.tup [(true,pJ),(false,[.bool])]) (fun k d=>yNo k (Tc d) (Id d)) (fun x=>(gf x.1 (x.2,()))) (fun d=>((vS d),ce d))):=fA f232 n0 (e1 Jh) zF
def vD9:zE:=sp [(6,.c (.dat true zH)),sP 7 0,sI 9] [oB vZ]
def vGl (f:qUe)(d:vD9.den):=f (dl d) (Fd d) (vS d.2.1)
def qT1:=aka 0 vD9 vD9 qRr vGl MK fun x=>(((x.1,()),(),(x.2.1,()),()),((gf x.2.2 ()),()))
def vI6:=ala 5 qT1
theorem vR9:lc 40 (Nc f233 0) qT1:=lp (A:=vI6) qT1 (fun d=>(dl d,Fd d,(vS d.2.1))) vGl MK HB (e3 mH Jj Of) zF
theorem agH:Yb (aia 233 [.c (.dat true zH),.c .i] (.fro zH) .i (aja MI)):=fA f233 vI6 (e3 mH Jj Of) (loops1 vR9)
theorem vYp:Yb (aia 234 [.c (.dat true zH),.c .i] (.fro zH) .i (aja MH)):=fA f234 n0 (e3 mH qW1 Of) zF
theorem agI:Yb (aia 236 [.c (.dat true zH),.c .i,.c .i] (.fro zH) .i (xM MG)):=fA f236 n0 (e3 mH qW1 Of) zF
theorem vS0:Yb (yB 185 [.ptr true Dn,.c (.p .i),.agg NZ] (.c .i) [Dp] 0 (fun k d=>CD k (yI d (wd d)) (Id d) (yT3 d)) (fun x=>(x.1,(AF x.2 ()))) (fun d=>(d.1,(Dq d)))):=fX f185 n0 1 (e7 agG mH tw agH vYp vIm agI) zF
theorem agK:Yb (yB 186 [.ptr true Dn,.c (.p .i),.agg NZ] (.c .i) [Dp] 0 (fun k d=>CE k (yI d (wd d)) (Id d) (yT3 d)) (fun x=>(x.1,(AF x.2 ()))) (fun d=>(d.1,(Dq d)))):=fX f186 n0 1 (e2 AH qRh) zF
theorem qXc:Yb (jR 238 [.c (.dat false .i),.c .i,.c .i] (.own .i) (xM vp)):=fA f238 n0 e0 zF
theorem qZe:Yb (jR 294 [.c .i] (.own .i) (wH Rv)):=fA f294 n0 e0 zF
def yO4:zE:=sp [sO 0 0,sI 3] [oA .i]
def yOk:zE:=sp [sO 0 0] [oA .i]
def yL6 (f:Int→AC→Option AC)(d:yO4.den):=f (li d) d.2.1
def yEy:=aka 0 yO4 yOk AC yL6 qTu fun x=>(((),()),(x,()))
def vKq:=ala 2 yEy
theorem vQz:lc 35 (Nc f295 0) yEy:=lp (A:=vKq) yEy (fun d=>d.2.1) yL6 qTu yRh e0 zF
theorem Og:Yb (yB 295 [.c (.own .i)] (.c (.own .i)) [] 0 (wH Hr) (fun x=>(x,())) (fun d=>d.1)):=fX f295 vKq 0 e0 (loops1 vQz)
def vHh:zE:=sp [sI 1,sO 5 0,sO 6 1,sI 7,sI 8] [oA .i,oA .i]
def vBg:zE:=sp [sI 1,sO 5 0,sO 6 1,sI 7] [oA .i,oA .i]
def yVh (f:qMz)(d:vHh.den):=f (dl d) (md d) (Nd d) d.2.1 (pi d)
def qPc:=aka 2 vHh vBg qOv yVh qZl fun x=>(((x.1,()),(),(),(x.2.1,()),()),(pi x,x.2.2.2,()))
def yIn (f:qL2)(d:vBg.den):=f (dl d) (md d) d.2.1 (pi d)
def qRf:=aka 0 vBg vDd AC yIn Rt fun x=>(((),()),(x,()))
def qQu:zW:=⟨[],[(7,qPc),(4,qRf)],[],true⟩
theorem vYf:lc 47 (zS (Nc f265 0) 0) qPc:=lp (A:=qQu) qPc (fun d=>(dl d,md d,d.2.1,pi d)) yVh qZl yUi (e2 qZe Og) zF
theorem vZp:lc 47 (Nc f265 0) qRf:=lp (A:=qQu) qRf (fun d=>d.2.1) yIn Rt vCl (e2 qZe Og) (loops1 vYf)
theorem agN:Yb (jR 265 [.c .i,.c .i] (.own .i) (aja Ru)):=fA f265 qQu (e2 qZe Og) (loops1 vZp)
def yNx:zE:=sp [sO 0 0,sI 1,sI 5] [oA .i]
def yVz (f:Int→Int→AC→Option AC)(d:yNx.den):=f (li d) (Fd d) d.2.1
def qW3:=aka 0 yNx yOk AC yVz Rr fun x=>(((),()),(x,()))
def yZ4:=ala 2 qW3
theorem vYo:lc 23 (Nc f266 0) qW3:=lp (A:=yZ4) qW3 (fun d=>d.2.1) yVz Rr vGr (e1 Og) zF
theorem agO:Yb (yB 266 [.c (.own .i),.c (.p .i)] (.c (.own .i)) [] 0 (aja Rq) (fun x=>(x,())) (fun d=>d.1)):=fX f266 yZ4 0 (e1 Og) (loops1 vYo)
def yX9:zE:=sp [sO 0 0,sI 1,sI 6,sI 7] [oA .i]
def yP3 (f:qQw)(d:yX9.den):=f (li d) (Fd d) (md d) d.2.1
def TL:=aka 0 yX9 yOk AC yP3 MB fun x=>(((),()),(x,()))
def vJg:zE:=sp [sO 0 0,sI 9] [oA .i]
def vA4:zE:=sp [sI 4,(5,.c .bool)] []
def yIq (f:qPn)(d:vJg.den):=f (li d) d.2.1
def TM:=ama 2 vJg yOk vA4 AC eX yIq Hs (fun x=>(((),()),(x,()))) fun x=>(((x.1,()),(x.2,()),()),())
def qLq:zW:=⟨[],[(3,TL),(9,TM)],[],true⟩
theorem vQ6:lc 66 (Nc f267 0) TL:=lp (A:=qLq) TL (fun d=>d.2.1) yP3 MB yGv e0 zF
theorem agP:lc 66 (Nc f267 1) TM:=lp (A:=qLq) TM (fun d=>match d with|.inl d=>.inl d.2.1|.inr d=>.inr (dl d,li d)) yIq Hs yT7 e0 zF
theorem vPk:Yb (yB 267 [.c (.own .i),.c (.p .i)] (.tup [(false,yG),(false,[.bool])]) [] 0 (aja Rs) (fun x=>(x.1,x.2,())) (fun d=>(d.1,d.2.1))):=fX f267 qLq 0 e0 (mm (n:=2) (by kernel_rfl) fun i hi=>match i,hi with|0,_=>⟨TL,by kernel_rfl,vQ6⟩|1,_=>⟨TM,by kernel_rfl,agP⟩|i+2,hi=>absurd hi (by omega))
theorem yIu:Yb (aia 225 [.c .i,.c .i,.c .i] .i .bool (xM RB)):=fA f225 n0 (e3 agN agO vPk) zF
theorem qL1:Yb (aia 226 [.c .i,.c .i] .i .bool (aja Hv)):=fA f226 n0 e0 zF
def yW6:zE:=sp [(0,.c (.dat false wE)),(1,.c (.dat false .i)),(2,.c (.dat false .i)),sI 8,sI 9] []
def yN6:zE:=sp [sI 8] []
def vIs (f:qZa)(d:yW6.den):=f (dl d) (li d) (Fd d) (md d) (Nd d)
def qS5:=ama 0 yW6 yN6 yVg Int eX vIs MF (fun x=>(((x,()),()),())) fun x=>(((x.1,()),(x.2,()),()),())
def vG3:=ala 5 qS5
theorem agQ:lc 63 (Nc f171 0) qS5:=lp (A:=vG3) qS5 (fun d=>match d with|.inl d=>.inl (dl d)|.inr d=>.inr (dl d,li d)) vIs MF Hw (e2 yIu qL1) zF
theorem Dr:Yb (aia 171 [.c (.dat false wE),.c (.dat false .i),.c (.dat false .i)] .i .bool (xM zd)):=fA f171 vG3 (e2 yIu qL1) (loops1 agQ)
theorem agS:Yb (yB 187 [.ptr true Dn,.c (.p .i),.c (.p .i)] (.c .i) [Dp] 0 (fun k d=>RJ k (yI d (wd d)) (Id d) d.2.2.2.2.2.2.2.2.2.2.2.2.2.2.2.2.2.2.2.2.1) (fun x=>(x.1,(AF x.2 ()))) (fun d=>(d.1,(Dq d)))):=fX f187 n0 1 (e3 qXc Dr AH) zF
theorem agU:Yb (zJ 239 [.agg oG,.c .i] (.tup [(true,[.i,.i,.i]),(false,yG)]) (fun k d=>HL k (d.1,d.2.1,pi d) (rg d)) (fun x=>(x.1.1,x.1.2.1,x.1.2.2,x.2,())) (fun d=>((d.1,d.2.1,pi d),rg d))):=fA f239 n0 (e2 qL1 TC) zF
theorem vUl:Yb (yB 188 [.ptr true Dn,.c (.p .bool),.c (.p .i),.c (.p .i)] (.c .i) [Dp] 0 (fun k d=>HM k (yI d (wd d)) (Id d) d.2.2.2.2.2.2.2.2.2.2.2.2.2.2.2.2.2.2.2.2.1 d.2.2.2.2.2.2.2.2.2.2.2.2.2.2.2.2.2.2.2.2.2.1) (fun x=>(x.1,(AF x.2 ()))) (fun d=>(d.1,(Dq d)))):=fX f188 n0 1 (e3 qRh AH agU) zF
def vFh:zE:=sp [sP 0 0,sO 7 1,sP 8 2,sI 9] [oB qUk,oA .i,oB tB,oA qR,.mat,oA .i,.mat]
def vJb:zE:=sp [sP 0 0,sO 7 1,sP 8 2] [oB qUk,oA .i,oB tB,oA qR,.mat,oA .i,.mat]
def yHl:zE:=sp [sP 0 0,sI 6] [oB qUk]
def yJ9 (f:yAn)(d:vFh.den):=f (md d) (eW d.2.1) (pi d) (If d) (Rd d) (be d) (ce d)
def yB8:zV:=⟨[vFh],[(.exit 0,vJb),(.ret,yHl)],qVk,fun k d=>yJ9 (vq k k) d,fun b x _ K=>match x with|.inl x=>K (.exit 0) (zM b vJb (((),(),(),()),((jT x.1 ()),x.2.1,(),pi x,rg x,If x,pp x,())))|.inr x=>K .ret (zM b yHl (((),(x.1,()),()),((jT x.2 ()),())))⟩
def vF4:=ala 6 yB8
theorem agV:zU prog 1000 1 93 (Nc f189 0) yB8:=lp (A:=vF4) yB8 (fun d=>match d with|.inl d=>.inl ((eW d.2.1),pi d,If d,Rd d,be d,ce d)|.inr d=>.inr (li d,(eW d.2.1))) yJ9 vq HN (e3 qXc AH Dr) zF
theorem agW:Yb (yB 189 [.ptr true Dn,.c (.p .i),.c (.p .i)] (.c .i) [Dp] 0 (fun k d=>RK k (yI d (wd d)) (Id d) d.2.2.2.2.2.2.2.2.2.2.2.2.2.2.2.2.2.2.2.2.1) (fun x=>(x.1,(AF x.2 ()))) (fun d=>(d.1,(Dq d)))):=fX f189 vF4 1 (e3 qXc AH Dr) (loops1 agV)
theorem agY:Yb (yB 103 [.ptr true Dn,.agg vM] (.c .i) [Dp] 0 (fun k d=>zj k (yI d (wd d)) (vWg d)) (fun x=>(x.1,(AF x.2 ()))) (fun d=>(d.1,(Dq d)))):=fX f103 n0 1 (e6 vT4 vS0 agK agS vUl agW) zF
theorem qSe:Yb (zJ 41 [.agg N6,.agg Aw,.agg Db] (.tup [(true,Av),(false,[.own yQ]),(false,yG)]) (fun k d=>H9 k (yC d) (jS d) (qZd d)) (fun x=>(vQ x.1 (x.2.1,x.2.2,()))) (fun d=>((qP d),ii d,pm d))):=fA f41 n0 (e7 afT AG tw agy agY Oe Jh) zF
theorem SA:Yb (yB 42 [.chn [NN,oF],.c (.p (.dat false (.int .u8)))] (.c .i) [NO,lN] 0 (fun k d=>pE k (Au d) (Dc d) (ul d)) (fun x=>(x.1,(),(jI x.2.1 (wG x.2.2 ())))) (fun d=>(d.1,(NP d),(NQ d)))):=fX f42 n0 0 (e1 ySp) zF
def yNd:zE:=sp [sP 2 0,sP 3 1,sI 5] [oB iF,oB lR]
def vF0:zE:=sp [sP 2 0,sP 3 1] [oB iF,oB lR]
def yUt (f:qV7)(d:yNd.den):=f (Fd d) (yC d.2.1) (qP (pi d))
def TN:zV:=⟨[yNd],[(.exit 0,vF0),(.ret,vCo)],qS4,fun k d=>yUt (zt k k) d,fun b x _ K=>match x with|.inl x=>K (.exit 0) (zM b vF0 (((),(),()),((vK x.1 ()),(vQ x.2 ()),())))|.inr x=>K .ret (zM b vCo (((x,()),()),()))⟩
def yOj:zE:=sp [sP 2 0,sP 3 1,sI 6,sI 7] [oB iF,oB lR]
def yT1:zE:=sp [sP 2 0,sP 3 1,sI 6] [oB iF,oB lR]
def yLr (f:qU7)(d:yOj.den):=f (Fd d) (md d) (yC d.2.1) (qP (pi d))
def yAd:zV:=⟨[yOj],[(.exit 4,yT1),(.ret,vCo)],yEp,fun k d=>yLr (CN k k) d,fun b x _ K=>match x with|.inl x=>K (.exit 4) (zM b yT1 (((),(),(x.1,()),()),((vK x.2.1 ()),(vQ x.2.2 ()),())))|.inr x=>K .ret (zM b vCo (((x,()),()),()))⟩
def yJb (f:yBg)(d:yT1.den):=f (Fd d) (yC d.2.1) (qP (pi d))
def TO:=ama 2 yT1 yGw vCo Unit Bool yJb zu (fun x=>((),())) fun x=>(((x,()),()),())
def TP:zW:=⟨[],[(4,TN),(14,yAd),(9,TO)],[],true⟩
theorem ag0:lc 122 (Nc f96 0) TN:=lp (A:=TP) TN (fun d=>match d with|.inl d=>.inl ((yC d.2.1),(qP (pi d)))|.inr d=>.inr (dl d)) yUt zt Ij (e1 Dr) zF
theorem vXg:lc 122 (zS (Nc f96 1) 0) yAd:=lp (A:=TP) yAd (fun d=>match d with|.inl d=>.inl (Fd d,(yC d.2.1),(qP (pi d)))|.inr d=>.inr (dl d)) yLr CN Ik (e1 Dr) zF
theorem vLr:lc 122 (Nc f96 1) TO:=lp (A:=TP) TO (fun d=>match d with|.inl d=>.inl ()|.inr d=>.inr (dl d)) yJb zu Il (e1 Dr) (loops1 vXg)
theorem yMy:Yb (jR 96 [.agg ic,.agg nD] .bool (fun k d=>Nk k (yC d) (jS d))):=fA f96 TP (e1 Dr) (mm (n:=2) (by kernel_rfl) fun i hi=>match i,hi with|0,_=>⟨TN,by kernel_rfl,ag0⟩|1,_=>⟨TO,by kernel_rfl,vLr⟩|i+2,hi=>absurd hi (by omega))
def yYf:zE:=sp [(0,.c (.dat false zH)),sI 3] []
def vH0 (f:qY0)(d:yYf.den):=f (dl d) (li d)
def qT3:zV:=⟨[yYf],[(.exit 0,yLx),(.ret,yFv)],qMg,fun k d=>vH0 (zn k k) d,fun b x _ K=>match x with|.inl x=>K (.exit 0) (zM b yLx (((x,()),()),()))|.inr x=>K .ret (zM b yFv (((x,()),()),()))⟩
def yVs:=ana 2 qT3
theorem vU8:lc 39 (Nc f172 0) qT3:=lp (A:=yVs) qT3 (fun d=>match d with|.inl d=>.inl (dl d)|.inr d=>.inr (dl d)) vH0 zn Ig (e2 Jh Jj) zF
theorem vFl:Yb (jR 172 [.c (.dat false zH)] .bool (wH Nh)):=fA f172 yVs (e2 Jh Jj) (loops1 vU8)
def yH1:zE:=sp [(0,.c (.dat false .i)),sI 3] []
def yKs (f:yFm)(d:yH1.den):=f (dl d) (li d)
def qTi:=ama 0 yH1 yGb yFv AC Bool yKs CM (fun x=>(((x,()),()),())) fun x=>(((x,()),()),())
def yRu:=ala 2 qTi
theorem vR5:lc 34 (Nc f173 0) qTi:=lp (A:=yRu) qTi (fun d=>match d with|.inl d=>.inl (dl d)|.inr d=>.inr (dl d)) yKs CM Ih e0 zF
theorem yVa:Yb (jR 173 [.c (.dat false .i)] .bool (wH Ni)):=fA f173 yRu e0 (loops1 vR5)
def yJx:zE:=sp [sP 1 0,sI 3] [oB lR]
def yUq (f:yA4)(d:yJx.den):=f (li d) (qP d.2.1)
def yD6:=ama 0 yJx yGw yFv Unit Bool yUq zp (fun x=>((),())) fun x=>(((x,()),()),())
def yPy:=ala 4 yD6
theorem vMo:lc 57 (Nc f97 0) yD6:=lp (A:=yPy) yD6 (fun d=>match d with|.inl d=>.inl ()|.inr d=>.inr (dl d)) yUq zp Ii (e4 vFl yVa TA TK) zF
theorem yI9:Yb (jR 97 [.agg nD] .bool (fun k d=>Nj k (qP d))):=fA f97 yPy (e4 vFl yVa TA TK) (loops1 vMo)
theorem yZi:Yb (zJ 176 [.agg [.i,.i],.c .i] (.agg [.i,.i]) (xM R4) (fun x=>(x.1,x.2,())) (fun d=>(d.1,d.2.1))):=fA f176 Pa e0 zF
def vKi:zE:=sp [(0,.c (.dat false .i)),sP 4 0,sI 5] [oB [.i,.i]]
def yLo:zE:=sp [sP 4 0] [oB [.i,.i]]
def yQy (f:qR4)(d:vKi.den):=f (dl d) (Fd d) (wr d) (ip d)
def qZz:=aka 0 vKi yLo vH yQy Ng fun x=>(((),()),((x.1,x.2,()),()))
def yMc:=ana 3 qZz
theorem vX7:lc 32 (Nc f98 0) qZz:=lp (A:=yMc) qZz (fun d=>(wr d,ip d)) yQy Ng Ie (e1 yZi) zF
theorem ySd:Yb (aia 98 [.c (.dat false .i)] .i .bool (wH Nf)):=fA f98 yMc (e1 yZi) (loops1 vX7)
def yYl:zE:=⟨[sP 2 0,sP 3 1,sO 5 2,sI 6],[oB iF,oB lR,oA .i],[(5,none,.i,false)]⟩
def yWu (f:yAg)(d:yYl.den):=f (md d) (yC d.2.1) (qP (pi d)) (rg d)
def qLz:=aka 0 yYl yHr qRc yWu CO fun x=>(((),(),(),()),((vK x.1 ()),(vQ x.2.1 ()),x.2.2,()))
def yRg:=ala 5 qLz
theorem vUc:lc 102 (Nc f39 0) qLz:=lp (A:=yRg) qLz (fun d=>((yC d.2.1),(qP (pi d)),rg d)) yWu CO Ip (e4 Oc yMy yI9 ySd) zF
theorem vEe:Yb (jR 39 [.agg ic,.agg nD] .bool (fun k d=>Io k (yC d) (jS d))):=fA f39 yRg (e4 Oc yMy yI9 ySd) (loops1 vUc)
def yT5:zE:=⟨[sP 1 0,sI 2,sP 3 3,(12,.c .bool),sP 13 4,(15,.c (.dat true (.sl (.int .u8)))),sP 17 5,sI 19],[oB yWv,oA (.int .u8),oA (.int .u8),oB Je,oB Ti,oB iG],[(17,some 1,.bool,true),(17,some 2,.bool,true),(17,some 3,.bool,true),(17,some 4,.bool,true),(17,some 5,.bool,true),(17,some 6,.bool,true),(17,some 7,.bool,true),(17,some 8,.bool,true)]⟩
def yWg:zE:=sp [sP 1 0,sI 2,sP 3 3,(12,.c .bool),sP 13 4,sP 17 5] [oB yWv,oA (.int .u8),oA (.int .u8),oB Je,oB Ti,oB iG]
def yGt (f:qNu)(d:yT5.den):=f (li d) (md d) (ge d) (lm d) (kq d.2.1) (pi d) (rg d) (yC (If d)) (jU (Rd d)) (qP (be d))
def qSv:=aka 0 yT5 yWg qWk yGt tv fun x=>(((),(x.1,()),(),(x.2.1,()),(),(),()),((Dg (pi x) ()),rg x,If x,(vK (Rd x) ()),(jI (be x) ()),(vQ x.2.2.2.2.2.2.2 ()),()))
def yUo:=ala 11 qSv
theorem vWs:zU prog 1000 2 108 (Nc f10 0) qSv:=lp (A:=yUo) qSv (fun d=>(li d,md d,(kq d.2.1),pi d,rg d,(yC (If d)),(jU (Rd d)),(qP (be d)))) yGt tv IV (SC yHc qMv yZp De vGu vG9 vFw qSe SA vEe) zF
def qRu:=uD 10 [.agg N6,.ptr true oF,.c (.p .i)] (.tup [(false,[.link 1]),(false,yG)]) [lN,[.i,.fro wE,.i,.i,.i,.link 2,.i,.fro qR,.fro (.sl .i),.fro .i,.fro (.sl .i),.fro .i,.fro (.sl .i),.fro zH,.fro .i,.i,.bool,.i,.bool],SM] 2 (.tup [(false,[.nilp]),(false,yG)]) [lN] 0 (fun k d=>lL k (yC d) (Dc d) (ul d)) (fun x=>((),x.1,(wG x.2.1 (fL (pi x) ((),(qUp (pi x) ((),(jI x.2.2.2 ())))))))) (fun x=>((),x.1,(wG x.2 ()))) (fun d=>(d.2.1,(Tj d),(qSg d (ag3 d)),(yLg d))) (fun d=>(d.2.1,(Tj d)))
theorem vTt:Yb qRu:=fN f10 yUo 2 (SC yHc qMv yZp De vGu vG9 vFw qSe SA vEe) (loops1 vWs)
def yAa:=yB 18 [.chn [Sw,IY,lM]] (.c .bool) [Sx,IZ,jb] 0 (fun k d=>ko k (kt d) (I1 d) (I2 d)) (fun x=>(x.1,(),(jT x.2.1 ((),(jI (pi x) (wG x.2.2.2 ())))))) (fun d=>(d.1,(qM7 d),(NR d),(NS d)))
theorem qTs:Yb yAa:=fX f18 n0 0 e0 zF
theorem yUm:Yb (jR 44 [.c .i,.c .i] (.own yQ) (aja Oh)):=fA f44 n0 e0 zF
theorem abO:Yb (jR 108 [.agg vM] (.own (.int .u8)) (fun k d=>yA8 k (vS d))):=fA f108 ⟨[1],[],[],true⟩ (e3 yF2 SR Sv) zF
end
end Go.Ab.Gi
